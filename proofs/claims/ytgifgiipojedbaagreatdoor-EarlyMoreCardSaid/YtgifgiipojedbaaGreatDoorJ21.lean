/- Package tree: statements of a whole program. The document's answer: what its reading computes, and that it is what package tree's computes. Package tree: signKind. -/
import Derived.Test.YtgifgiipojedbaaGreatDoorJ20
import Derived.Test.YtgifgiipojedbaaGreatDoorJ05
import Derived.Test.YtgifgiipojedbaaGreatDoorJ09
namespace Go.Proofs.YtgifgiipojedbaaGreatDoor
open Go Go.RowKit
set_option maxRecDepth 100000
set_option linter.unusedVariables false

set_option maxHeartbeats 8000000 in
theorem prog_says (F : Nat) (hS : ∀ g, g < F → Says 114 rArg .stmt g) :
    Says 75 (fun rb => #[.pointer (some ⟨rb, 0, none⟩), .int .i64 1, .string ⟨#[]⟩]) (.stmts 1 []) F := by
  intro w rb B d ts r hP hp
  have HC := Lib.hid (node_any w rb 1 ⟨#[]⟩ none 0 0)
  have HP := Lib.hid hP
  have HQ := Lib.hid hp
  have HS := Lib.hid hS
  have hmf : ∀ (fn : Fn) (first cap : Array Value) (w : World), (Instr.makeFunc fn first cap).run Tryz.prog w = .ok (.func fn first cap) w := fun _ _ _ _ => rfl
  obtain ⟨nb, hnb⟩ : ∃ b, b = w.heap.size := ⟨_, rfl⟩
  have G0 := Got.leaf (k := 1) (t := ⟨#[]⟩) (n := 0) hP.le (RFr.refl w rb)
  have R0 := hP.rd.below ((Below.refl _ _).alloc (Nat.le_refl _) (.cells #[.int .i64 1, .string ⟨#[]⟩, .int .i64 0, .slice none 0 0] 37))
  have F0 : RFr w (w.alloc (.cells #[.int .i64 1, .string ⟨#[]⟩, .int .i64 0, .slice none 0 0] 37)) rb := RFr.below ((Below.refl _ _).alloc (Nat.le_refl _) _)
  rw [← hnb] at G0 HC
  clear hP hp hS
  simp only
  go_enter Tryz.func75, Tryz.ntmps75
  go_wp2_with fail
  refine HC.out.mono ?_
  rintro e w1 ⟨rfl, hw1⟩
  rw [← hw1] at G0 R0 F0
  have hst : ∃ (g : Nat) (acc : List Tree) (us : List Tok) (v : Value) (kids : List ATree), g ≤ F ∧ parseF g (.stmts 1 acc) d us = some r ∧ Got w B w1 (.mk nb v 1 ⟨#[]⟩ 0 kids) (.mk 1 ⟨#[]⟩ 0 acc) ∧ Rd w1 rb us d ∧ RFr w w1 rb ∧ acc.length + us.length ≤ ts.length ∧ (∀ x ∈ acc, x.kind = 15 → x.kids ≠ []) :=
    ⟨F, [], ts, _, [], Nat.le_refl _, HQ.out, G0, R0, F0, by simp, fun x hx => by cases hx⟩
  have ST := Lib.hid hst
  have HNB := Lib.hid hnb
  clear hst hw1 G0 R0 F0 HC hnb
  go_wp2_with fail
  go_loopw [] (fun wr => ∃ (g : Nat) (acc : List Tree) (us : List Tok) (v : Value) (kids : List ATree), g ≤ F ∧ parseF g (.stmts 1 acc) d us = some r ∧ Got w B wr (.mk nb v 1 ⟨#[]⟩ 0 kids) (.mk 1 ⟨#[]⟩ 0 acc) ∧ Rd wr rb us d ∧ RFr w wr rb ∧ acc.length + us.length ≤ ts.length ∧ (∀ x ∈ acc, x.kind = 15 → x.kids ≠ [])) (fun wr => leftOf wr rb)
  case atStart => exact ST.out
  case round =>
    obtain ⟨g, acc, us, v, kids, hg, hq, hG, hR, hF, hl, hx⟩ := hrel
    have G := Lib.hid hG
    have R := Lib.hid hR
    have FF := Lib.hid hF
    have HX := Lib.hid hx
    have RL := Lib.hid hR.left
    cases g with
    | zero => cases hq
    | succ g =>
    rw [parseF] at hq
    obtain ⟨tb, off, cpp, hh⟩ := hR
    have c0 := hh.c0
    have k0 := hh.hd (j := 0) (x := .int .i64 (hdT us).kind) rfl
    rw [Nat.add_zero] at k0
    have hps := hh.pos
    clear hh
    by_cases hb : (hdT us).kind = 6
    · have nk : ((hdT us).kind != 6) = false := by simp [hb]
      rw [if_pos (by rw [if_pos rfl]; simpa using hb)] at hq
      have hr := Option.some.inj hq
      have HRr := Lib.hid hr.symm
      clear hG hF hq hr hb hx ST
      have hB2 : Below wr.heap.size wr wr := Below.refl _ _
      have hlt := HP.out.lt
      have F2 := Lib.hid (FF.out.trans (RFr.below (rb := rb) hB2))
      have G2 := Lib.hid (G.out.rfr hlt (RFr.below (rb := rb) hB2))
      have R2 := Lib.hid (R.out.below hB2)
      have hblk := G2.out.at'.blkOf
      have hrow := G2.out.at'.rowOf
      simp only [ATree.b, ATree.v, ATree.kind, ATree.text, ATree.n, ATree.kids] at hblk hrow
      have n3 : wr.cell? ⟨nb, 3, none⟩ = some v := by simp [World.cell?, hblk]
      have nz : wr.frozen? ⟨nb, 1, none⟩ = false := by simp [World.frozen?, hblk]
      have nc1 : wr.cell? ⟨nb, 1, none⟩ = some (.string ⟨#[]⟩) := by simp [World.cell?, hblk]
      have htr := G2.out.tree
      simp only [ATree.tree, Tree.mk.injEq, true_and] at htr
      -- what is handed back, without and with the directive
      have fin0 : strictL acc = false → PPost w rb B d r (.returned (.pointer (some ⟨nb, 0, none⟩))) wr := fun h => by
        rw [HRr.out, h]
        exact ⟨_, rfl, G2.out, R2.out, F2.out⟩
      have FIN0 := Lib.hid fin0
      have fin1 : strictL acc = true → PPost w rb B d r (.returned (.pointer (some ⟨nb, 0, none⟩))) (wr.setCell ⟨nb, 1, none⟩ (.string s_strict)) := fun h => by
        rw [HRr.out, h]
        obtain ⟨h1, h2, h3⟩ := Got.text (t' := s_strict) hlt HP.out.le G2.out F2.out R2.out
        exact ⟨_, rfl, h1, h3, h2⟩
      have FIN1 := Lib.hid fin1
      have HTR := Lib.hid htr
      have hks : ∀ a ∈ kids, TreeAt wr B a := fun a ha => G2.out.at'.kid (k := a) ha
      have HKS := Lib.hid hks
      clear hB2 hblk fin0 fin1 htr hks FF G R
      cases kids with
      | nil =>
        have hs0 : strictL acc = false := by rw [← HTR.out]; rfl
        have H0 := Lib.hid (FIN0.out hs0)
        clear hs0
        rcases ownsRow_cases hrow with ⟨rfl, _⟩ | ⟨g0, cap0, rfl, _, _, _⟩
        all_goals
          clear hrow
          go_wp2
          go_ret
          exact H0.out
      | cons a0 ks =>
        rcases ownsRow_cases hrow with ⟨_, h0⟩ | ⟨g0, cap0, rfl, k1, k2, k3⟩
        · simp at h0
        have p0 := ownsRow_cell1 hrow (g := g0) rfl (i := 0) (x := a0.ptr) rfl
        have hT0 := HKS.out a0 (by simp)
        have hb0 := hT0.blkOf
        have hr0 := hT0.rowOf
        have hx0 := HX.out a0.tree (by rw [← HTR.out]; simp [treeL])
        obtain ⟨b0, v0, kd0, t0, n0, l0⟩ := a0
        simp only [ATree.b, ATree.v, ATree.kind, ATree.text, ATree.n, ATree.kids, ATree.ptr, List.length_cons] at hb0 hr0 p0 k1 n3 ⊢
        unfold maxLen at k2
        have d0 : wr.cell? ⟨b0, 0, none⟩ = some (.int .i64 kd0) := by simp [World.cell?, hb0]
        have d3 : wr.cell? ⟨b0, 3, none⟩ = some v0 := by simp [World.cell?, hb0]
        by_cases h15 : kd0 = 15
        · subst h15
          cases l0 with
          | nil => exact absurd rfl (hx0 rfl)
          | cons x xs =>
          rcases ownsRow_cases hr0 with ⟨_, h0⟩ | ⟨g1, cap1, rfl, j1, j2, j3⟩
          · simp at h0
          have p1 := ownsRow_cell1 hr0 (g := g1) rfl (i := 0) (x := x.ptr) rfl
          have hb1 := (hT0.kid (k := x) (by simp [ATree.kids])).blkOf
          obtain ⟨b1, v1, kd1, t1, n1, l1⟩ := x
          simp only [ATree.b, ATree.v, ATree.kind, ATree.text, ATree.n, ATree.ptr, List.length_cons] at hb1 p1 j1 d3
          unfold maxLen at j2
          have e0 : wr.cell? ⟨b1, 0, none⟩ = some (.int .i64 kd1) := by simp [World.cell?, hb1]
          have e1 : wr.cell? ⟨b1, 1, none⟩ = some (.string t1) := by simp [World.cell?, hb1]
          have hstr : strictL acc = (decide (kd1 = 18) && sameS t1 s_usestrict) := by rw [← HTR.out]; rfl
          have HST := Lib.hid hstr
          clear hrow hr0 hT0 hb0 hb1 hx0 hstr
          by_cases h18 : kd1 = 18
          · subst h18
            by_cases hus : t1 = s_usestrict
            · subst hus
              have H1 := Lib.hid (FIN1.out (by rw [HST.out]; simp [sameS]))
              unfold s_usestrict at e1
              go_wp2
              go_ret
              exact H1.out
            · have H0 := Lib.hid (FIN0.out (by rw [HST.out]; simp [sameS, hus]))
              have hne : ¬ t1.toList = s_usestrict.toList := fun h => hus (toList_inj h)
              have hne2 : (t1.toList == s_usestrict.toList) = false := by simpa using hne
              have hl : s_usestrict.toList = [117, 115, 101, 32, 115, 116, 114, 105, 99, 116] := by rw [Lib.toList_data]; rfl
              have hne3 : ¬ t1.toList = [117, 115, 101, 32, 115, 116, 114, 105, 99, 116] := by rw [← hl]; exact hne
              have hne4 : (t1.toList == [117, 115, 101, 32, 115, 116, 114, 105, 99, 116]) = false := by simpa using hne3
              unfold s_usestrict at hne hne2
              clear hus hl
              go_wp2
              go_ret
              exact H0.out
          · have n18 : (kd1 == 18) = false := by simpa using h18
            have H0 := Lib.hid (FIN0.out (by rw [HST.out]; simp [h18]))
            clear h18
            go_wp2
            go_ret
            exact H0.out
        · have n15 : (kd0 == 15) = false := by simpa using h15
          have H0 := Lib.hid (FIN0.out (by rw [← HTR.out]; cases l0 <;> simp [treeL, ATree.tree, strictL, h15]))
          clear hrow hr0 hT0 hb0 hx0 h15
          go_wp2
          go_ret
          exact H0.out
    · have nk : ((hdT us).kind != 6) = true := by simpa using hb
      rw [if_neg (by rw [if_pos rfl]; simpa using hb)] at hq
      have HQ2 := Lib.hid hq
      clear hG hF hq hb hx ST
      have hB2 : Below wr.heap.size wr wr := Below.refl _ _
      have F2 := FF.out.trans (RFr.below (rb := rb) hB2)
      have G2 := G.out.rfr HP.out.lt (RFr.below (rb := rb) hB2)
      have R2 := R.out.below hB2
      have n3 : wr.cell? ⟨nb, 3, none⟩ = some v := by have := G2.at'.blkOf; simp only [ATree.b, ATree.v, ATree.kind, ATree.text, ATree.n] at this; simp [World.cell?, this]
      have F2 := Lib.hid F2
      have G2 := Lib.hid G2
      have R2 := Lib.hid R2
      clear hB2 FF G R
      go_wp2_with fail
      refine wp_region_plan [(true, 0), (true, 1), (true, 2), (true, 3), (true, 4), (true, 5), (true, 6), (true, 7), (false, 8), (false, 9), (false, 10)] [11, 12, 13] (fun W => W.cell? ⟨nb, 3, none⟩ = some v) (by kernel_rfl) (by kernel_rfl) (fun _ _ d _ _ h => by cases d <;> exact h) n3 (fun hS0 => ?_)
      simp only [planOps, List.filterMap_cons, List.filterMap_nil, List.getElem?_toArray, List.getElem?_cons_zero, List.getElem?_cons_succ, Option.map_some]
      iterate 8
        first
          | (refine wpPlan_take ?_ (by rfl) (fun w' hS' => ?_) ?_; rotate_left; (have s0 := hS'; go_simp; first | done | with_reducible rfl); simp only [Act.put, List.setIfInBounds_toArray, List.set_cons_zero, List.set_cons_succ])
          | (refine wpPlan_skip (by rfl) ?_; simp only [Act.put, List.setIfInBounds_toArray, List.set_cons_zero, List.set_cons_succ])
      refine wpPlan_go (fun K hK => ?_)
      go_simp
      have hlt := HP.out.lt
      have hRF2 : RFr wr wr.drew rb := (RFr.refl wr rb).drew
      have hus : us.length ≤ 4000 := by have := HP.out.few; omega
      have hle2 : B ≤ wr.drew.heap.size := Nat.le_trans HP.out.le F2.out.size
      rcases bindT_some HQ2.out with ⟨⟨c, p⟩, hv, rfl⟩ | ⟨t, vs, hv, hq3⟩
      · refine (within_statement wr.drew rb B us d _ _ R2.out.drew (by have := HP.out.deep; omega) hlt hv fun hd h1 w1 hR1 hs => HS.out g (by omega) w1 rb B (d + 1) us _ ⟨hR1, hd, hlt, by omega, hus⟩ h1).mono ?_
        rintro e w3 ⟨⟨b, rfl, h1, h2⟩, hF3⟩
        exact ⟨rfl, PPost.pre F2.out.drew (r := .error (c, p)) ⟨⟨b, rfl, h1, h2⟩, hF3⟩⟩
      · have hvl : vs.length < us.length := Leaves.within (parse_leaves g .stmt (d + 1) us) t vs hv
        have hvx : t.kind = 15 → t.kids ≠ [] := by
          unfold withinT at hv
          by_cases h30 : 30 < d + 1
          · rw [if_pos h30] at hv; cases hv
          · rw [if_neg h30] at hv
            cases g with
            | zero => cases hv
            | succ g => exact stmt_expr hv
        have HVX := Lib.hid hvx
        have HQ3 := Lib.hid hq3
        refine (within_statement wr.drew rb B us d _ _ R2.out.drew (by have := HP.out.deep; omega) hlt hv fun hd h1 w1 hR1 hs => HS.out g (by omega) w1 rb B (d + 1) us _ ⟨hR1, hd, hlt, by omega, hus⟩ h1).mono ?_
        rintro e w3 ⟨a, rfl, hA, hR3, hF3⟩
        have hF23 : RFr wr w3 rb := hRF2.trans hF3
        have hN3 := G2.out.rfr hlt hF23
        have hblk := hN3.at'.blkOf
        simp only [ATree.b, ATree.v, ATree.kind, ATree.text, ATree.n] at hblk
        have m3 : w3.cell? ⟨nb, 3, none⟩ = some v := by simp [World.cell?, hblk]
        have mz : w3.frozen? ⟨nb, 3, none⟩ = false := by simp [World.frozen?, hblk]
        have hnb3 : nb < w3.heap.size := (Array.getElem?_eq_some_iff.1 hblk).1
        have hnd := hN3.nodup
        simp only [ATree.blocks, List.nodup_cons, List.mem_append, Option.mem_toList, not_or] at hnd
        have hne : v.ownBlock ≠ some nb := hnd.1.1
        have hkl : kids.length = acc.length := by
          have := hN3.tree
          simp only [ATree.tree, Tree.mk.injEq, true_and] at this
          rw [← this, treeL_map, List.length_map]
        have hk4 : kids.length ≤ 4000 := by have := HP.out.few; omega
        have N3 := Lib.hid hN3
        have A3 := Lib.hid hA
        have R3 := Lib.hid hR3
        have F3 := Lib.hid (F2.out.trans hF23)
        have NE := Lib.hid hne
        have HKL := Lib.hid hkl
        refine hK _ _ m3 ?_
        obtain ⟨i0, hi, hz0, hz1, hz2⟩ := info_parts Tryz.infoPtr
        clear hK K hA hR3 hF3 hF23 hN3 hblk hnd hne hvx hq3 hv hkl n3 hRF2
        refine wpPlan_go (fun K hK => ?_)
        go_simp
        refine hK _ _ ((cell_old hnb3).trans m3) ?_
        clear hK K
        refine wpPlan_go (fun K hK => ?_)
        refine step_append_lies _ (by rfl) (.tmp 37) (.tmp 42) 34 (by rfl) B 22 i0 _ 1 8 Tryz.underlying34 hi hz0 hz1 hz2 rfl (by decide) v kids.length (kids.map ATree.ptr) (by rfl) (N3.out.at'.rowOf.alloc _) ⟨w3.heap.size, 0, none⟩ 1 1 [a.ptr] (by rfl) rfl (World.news_of_block (cs := #[a.ptr]) (t := 22) (fr := (0, 0)) (heap_alloc_new w3 _)) (by simp [ATree.ptr, Value.oneCell']) (by decide) (by unfold maxLen; omega) (by omega) (by simp; have := F3.out.size; have := HP.out.le; omega) (w3.heap.size + 1) (by simp) ?_
        intro gg cap w4 hown4 hgrow4 hat4 hlt4
        have m4 : w4.cell? ⟨nb, 3, none⟩ = some v := (hgrow4.cell_far ⟨nb, 3, none⟩ (by simp; omega) (fun e => NE.out e.symm)).trans ((cell_old hnb3).trans m3)
        have mz4 : w4.frozen? ⟨nb, 3, none⟩ = false := (hgrow4.frozen_far ⟨nb, 3, none⟩ (by simp; omega) (fun e => NE.out e.symm)).trans ((frozen_old hnb3).trans mz)
        refine hK _ _ m4 ?_
        clear hK K
        simp only [Act.put, List.setIfInBounds_toArray, List.set_cons_zero, List.set_cons_succ]
        have hfin := Got.push hlt HP.out.le N3.out (wA := wr.drew) (fun x hx => (G2.out.new x hx).2) A3.out F3.out R3.out ((Below.refl _ _).alloc (Nat.le_refl _) _) hgrow4 hown4 (by rcases hat4 with h | h; (exact .inl h); (exact .inr (by omega))) hlt4
        have FIN := Lib.hid hfin
        clear hgrow4 hown4 hat4 hlt4 hfin
        refine wpPlan_end ?_
        go_wp2
        go_roundw
        case rel =>
          refine ⟨g, acc ++ [t], vs, .slice (some ⟨gg, 0, none⟩) (kids.length + 1) cap, kids ++ [a], by omega, HQ3.out, ?_, FIN.out.2.2, FIN.out.2.1, by simp; omega, fun x hx => ?_⟩
          · have h1 := FIN.out.1
            have h2 := G2.out.tree
            simp only [ATree.tree, Tree.mk.injEq, true_and] at h2
            rw [h2] at h1
            exact h1
          · rcases List.mem_append.1 hx with hx | hx
            · exact HX.out x hx
            · simp only [List.mem_singleton] at hx; subst hx; exact HVX.out
        case measure =>
          rw [FIN.out.2.2.left, RL.out]
          exact hvl
end Go.Proofs.YtgifgiipojedbaaGreatDoor

namespace Go.Proofs.YtgifgiipojedbaaGreatDoor
open Go Go.RowKit
set_option maxRecDepth 100000

/-- where the document's reader stands: the tokens that are left; the first fault -/
structure RS where
  ts : List Tok
  f : Option (Int × Nat)
def gT : Tree := .mk 0 ByteArray.empty 0 []
def failR (e : Int) (σ : RS) : RS := if σ.f.isNone then ⟨σ.ts, some (e, (hdT σ.ts).at')⟩ else σ
def nextR (s : ByteArray) (σ : RS) : Bool := σ.f.isNone && isT s σ.ts
def advR (σ : RS) : RS := ⟨σ.ts.tail, σ.f⟩
def mustR (s : ByteArray) (σ : RS) : RS := if σ.f.isNone then (if isT s σ.ts then advR σ else failR 3 σ) else σ
def identR (σ : RS) : ByteArray × RS := if σ.f.isNone then (if (hdT σ.ts).kind = 1 then ((hdT σ.ts).text, advR σ) else (ByteArray.empty, failR 3 σ)) else (ByteArray.empty, σ)
abbrev RR := Option (Tree × RS)
def bindR (p : RR) (k : Tree → RS → RR) : RR := match p with | none => none | some (t, σ) => k t σ
/-- the sign of two values -/
def signK (s : ByteArray) : Int := if sameS s s_or then 25 else if sameS s s_and then 26 else if sameS s s_same then 27 else if sameS s s_less then 28 else if sameS s s_add then 29 else if sameS s s_sub then 30 else if sameS s s_mul then 31 else 0
def fitsR (level : Nat) (s : ByteArray) : Bool :=
  match level with
  | 0 => sameS s s_or
  | 1 => sameS s s_and
  | 2 => sameS s s_same
  | 3 => sameS s s_less
  | 4 => sameS s s_add || sameS s s_sub
  | 5 => sameS s s_mul
  | _ => false
def unaryR (σ : RS) : Int := if nextR s_not σ then 32 else if nextR s_typeof σ then 33 else if nextR s_delete σ then 34 else 0
def constK (s : ByteArray) : Int := if sameS s s_true then 19 else if sameS s s_false then 20 else if sameS s s_null then 21 else if sameS s s_undefined then 22 else 0

inductive RJob
  | prog (acc : List Tree)
  | braces (body : Bool)
  | bracesL (acc : List Tree)
  | params (acc : List Tree)
  | args (acc : List Tree)
  | props (acc : List Tree)
  | func (kind : Int) (text : ByteArray)
  | head
  | stmt
  | stmt2
  | value
  | pairs (level : Nat)
  | pairsL (level : Nat) (x : Tree)
  | single
  | singleL (x : Tree)
  | first

def commaR (c : Bool) (σ : RS) : RS := if c then mustR s_comma σ else σ
def fullR (c : Bool) (σ : RS) : RS := if c then failR 4 σ else σ
def tryF (l : List Tree) (σ : RS) : RR := some (.mk 12 ByteArray.empty 0 l, if l.length = 1 then failR 3 σ else σ)
def declK (σ : RS) : Int := if nextR s_var σ then 2 else if nextR s_let σ then 3 else if nextR s_const σ then 4 else 0
def mustEq (k : Int) (σ : RS) : RS := if decide (k = 4) && σ.f.isNone && !nextR s_eq σ then failR 3 σ else σ

def refF : Nat → RJob → Nat → RS → RR
  | 0, _, _, _ => none
  | f + 1, .prog acc, d, σ =>
    if σ.f.isNone && !decide ((hdT σ.ts).kind = 6) then bindR (refF f .stmt 1 σ) fun x σ => refF f (.prog (acc ++ [x])) d σ
    else some (.mk 0 ByteArray.empty 0 acc, σ)
  | f + 1, .braces body, d, σ =>
    bindR (refF f (.bracesL []) d (mustR s_lbrace σ)) fun l σ =>
      some (.mk 6 (if body && (mustR s_rbrace σ).f.isNone && strictL l.kids then s_strict else ByteArray.empty) 0 l.kids, mustR s_rbrace σ)
  | f + 1, .bracesL acc, d, σ =>
    if σ.f.isNone && !nextR s_rbrace σ then bindR (refF f .stmt (d + 1) σ) fun x σ => refF f (.bracesL (acc ++ [x])) d σ
    else some (.mk 0 ByteArray.empty 0 acc, σ)
  | f + 1, .params acc, d, σ =>
    if σ.f.isNone && !nextR s_rpar σ then
      if (fullR (decide (acc.length = 8)) (commaR (decide (0 < acc.length)) σ)).f.isNone then
        refF f (.params (acc ++ [.mk 23 (identR (fullR (decide (acc.length = 8)) (commaR (decide (0 < acc.length)) σ))).1 0 []])) d (identR (fullR (decide (acc.length = 8)) (commaR (decide (0 < acc.length)) σ))).2
      else refF f (.params acc) d (fullR (decide (acc.length = 8)) (commaR (decide (0 < acc.length)) σ))
    else some (.mk 0 ByteArray.empty 0 acc, mustR s_rpar σ)
  | f + 1, .args acc, d, σ =>
    if σ.f.isNone && !nextR s_rpar σ then
      if (fullR (decide (acc.length = 8)) (commaR (decide (0 < acc.length)) σ)).f.isNone then
        bindR (refF f .value (d + 1) (fullR (decide (acc.length = 8)) (commaR (decide (0 < acc.length)) σ))) fun v σ => refF f (.args (acc ++ [v])) d σ
      else refF f (.args acc) d (fullR (decide (acc.length = 8)) (commaR (decide (0 < acc.length)) σ))
    else some (.mk 0 ByteArray.empty 0 acc, mustR s_rpar σ)
  | f + 1, .props acc, d, σ =>
    if σ.f.isNone && !nextR s_rbrace σ then
      if (fullR (decide (acc.length = 8)) (commaR (decide (0 < acc.length)) σ)).f.isNone then
        bindR (refF f .value (d + 1) (mustR s_colon (identR (fullR (decide (acc.length = 8)) (commaR (decide (0 < acc.length)) σ))).2)) fun v σ' =>
          refF f (.props (acc ++ [.mk 39 (identR (fullR (decide (acc.length = 8)) (commaR (decide (0 < acc.length)) σ))).1 0 [v]])) d σ'
      else refF f (.props acc) d (fullR (decide (acc.length = 8)) (commaR (decide (0 < acc.length)) σ))
    else some (.mk 0 ByteArray.empty 0 acc, mustR s_rbrace σ)
  | f + 1, .func kind text, d, σ =>
    bindR (refF f (.params []) d (mustR s_lpar σ)) fun l σ => bindR (refF f (.braces true) d σ) fun b σ => some (.mk kind text 0 [.mk 40 ByteArray.empty 0 l.kids, b], σ)
  | f + 1, .head, d, σ => bindR (refF f .value (d + 1) (mustR s_lpar σ)) fun x σ => some (x, mustR s_rpar σ)
  | f + 1, .stmt, d, σ =>
    if 30 < d then some (gT, failR 4 σ)
    else if nextR s_lbrace σ then refF f (.braces false) d σ
    else if nextR s_semi σ then some (.mk 16 ByteArray.empty 0 [], advR σ)
    else if nextR s_function σ then refF f (.func 5 (identR (advR σ)).1) d (identR (advR σ)).2
    else if nextR s_if σ then
      bindR (refF f .head d (advR σ)) fun x σ => bindR (refF f .stmt2 d σ) fun y σ =>
        if nextR s_else σ then bindR (refF f .stmt2 d (advR σ)) fun z σ => some (.mk 7 ByteArray.empty 0 [x, y, z], σ)
        else some (.mk 7 ByteArray.empty 0 [x, y], σ)
    else if nextR s_while σ || nextR s_with σ then
      bindR (refF f .head d (advR σ)) fun x σ1 => bindR (refF f .stmt2 d σ1) fun y σ2 => some (.mk (if nextR s_with σ then 9 else 8) ByteArray.empty 0 [x, y], σ2)
    else if nextR s_try σ then
      bindR (refF f (.braces false) d (advR σ)) fun b σ =>
        (fun (k : List Tree → RS → RR) =>
          if nextR s_catch σ then
            bindR (refF f (.braces false) d (mustR s_rpar (identR (mustR s_lpar (advR σ))).2)) fun c σ' => k [b, .mk 13 (identR (mustR s_lpar (advR σ))).1 0 [c]] σ'
          else k [b] σ) fun l σ =>
        if nextR s_finally σ then bindR (refF f (.braces false) d (advR σ)) fun c σ => tryF (l ++ [.mk 14 ByteArray.empty 0 [c]]) σ
        else tryF l σ
    else if declK σ ≠ 0 then
      if nextR s_eq (mustEq (declK σ) (identR (advR σ)).2) then
        bindR (refF f .value (d + 1) (advR (mustEq (declK σ) (identR (advR σ)).2))) fun x σ' => some (.mk (declK σ) (identR (advR σ)).1 0 [x], mustR s_semi σ')
      else some (.mk (declK σ) (identR (advR σ)).1 0 [], mustR s_semi (mustEq (declK σ) (identR (advR σ)).2))
    else if nextR s_return σ then
      if nextR s_semi (advR σ) then some (.mk 10 ByteArray.empty 0 [], mustR s_semi (advR σ))
      else bindR (refF f .value (d + 1) (advR σ)) fun x σ => some (.mk 10 ByteArray.empty 0 [x], mustR s_semi σ)
    else if nextR s_throw σ then bindR (refF f .value (d + 1) (advR σ)) fun x σ => some (.mk 11 ByteArray.empty 0 [x], mustR s_semi σ)
    else bindR (refF f .value (d + 1) σ) fun x σ => some (.mk 15 ByteArray.empty 0 [x], mustR s_semi σ)
  | f + 1, .stmt2, d, σ => if σ.f.isNone then refF f .stmt (d + 1) σ else some (gT, σ)
  | f + 1, .value, d, σ =>
    if σ.f.isNone then
      if 30 < d then some (gT, failR 4 σ)
      else bindR (refF f (.pairs 0) d σ) fun x σ1 =>
        if nextR s_eq σ1 then
          if x.kind = 23 ∨ x.kind = 36 then bindR (refF f .value (d + 1) (advR σ1)) fun y σ2 => some (.mk 24 ByteArray.empty 0 [x, y], σ2)
          else some (gT, failR 1 ⟨σ.ts, σ1.f⟩)
        else some (x, σ1)
    else some (gT, σ)
  | f + 1, .pairs level, d, σ =>
    if 6 ≤ level then refF f .single d σ
    else bindR (refF f (.pairs (level + 1)) d σ) fun x σ => refF f (.pairsL level x) d σ
  | f + 1, .pairsL level x, d, σ =>
    if σ.f.isNone && decide ((hdT σ.ts).kind = 5) && fitsR level (hdT σ.ts).text then
      bindR (refF f (.pairs (level + 1)) d (advR σ)) fun y σ' => refF f (.pairsL level (.mk (signK (hdT σ.ts).text) ByteArray.empty 0 [x, y])) d σ'
    else some (x, σ)
  | f + 1, .single, d, σ =>
    if unaryR σ ≠ 0 then
      if 30 < d + 1 then some (gT, failR 4 (advR σ))
      else bindR (refF f .single (d + 1) (advR σ)) fun x σ' => some (.mk (unaryR σ) ByteArray.empty 0 [x], σ')
    else bindR (refF f .first d σ) fun x σ => refF f (.singleL x) d σ
  | f + 1, .singleL x, d, σ =>
    if nextR s_dot σ then refF f (.singleL (.mk 36 (identR (advR σ)).1 0 [x])) d (identR (advR σ)).2
    else if nextR s_lpar σ then bindR (refF f (.args []) d (advR σ)) fun l σ => refF f (.singleL (.mk 35 ByteArray.empty 0 (x :: l.kids))) d σ
    else some (x, σ)
  | f + 1, .first, d, σ =>
    if σ.f.isNone then
      if (hdT σ.ts).kind = 1 then some (.mk 23 (hdT σ.ts).text 0 [], advR σ)
      else if (hdT σ.ts).kind = 3 then some (.mk 17 ByteArray.empty (hdT σ.ts).n [], advR σ)
      else if (hdT σ.ts).kind = 4 then some (.mk 18 (hdT σ.ts).text 0 [], advR σ)
      else if nextR s_lpar σ then refF f .head d σ
      else if nextR s_function σ then
        if (hdT (advR σ).ts).kind = 1 then refF f (.func 37 (identR (advR σ)).1) d (identR (advR σ)).2
        else refF f (.func 37 ByteArray.empty) d (advR σ)
      else if nextR s_lbrace σ then bindR (refF f (.props []) d (advR σ)) fun l σ => some (.mk 38 ByteArray.empty 0 l.kids, σ)
      else if (hdT σ.ts).kind = 2 ∧ constK (hdT σ.ts).text ≠ 0 then some (.mk (constK (hdT σ.ts).text) ByteArray.empty 0 [], advR σ)
      else some (gT, failR 3 σ)
    else some (gT, σ)

/-! ### behind a fault nothing is read -/
def Stays (r : RR) (e : Int × Nat) : Prop := ∃ t ts, r = some (t, ⟨ts, some e⟩)
theorem must_err (s : ByteArray) (ts : List Tok) (e : Int × Nat) : mustR s ⟨ts, some e⟩ = ⟨ts, some e⟩ := rfl
theorem next_err (s : ByteArray) (ts : List Tok) (e : Int × Nat) : nextR s ⟨ts, some e⟩ = false := rfl
theorem ident_err (ts : List Tok) (e : Int × Nat) : identR ⟨ts, some e⟩ = (ByteArray.empty, ⟨ts, some e⟩) := rfl
theorem fail_err (k : Int) (ts : List Tok) (e : Int × Nat) : failR k ⟨ts, some e⟩ = ⟨ts, some e⟩ := rfl
theorem adv_err (ts : List Tok) (e : Int × Nat) : advR ⟨ts, some e⟩ = ⟨ts.tail, some e⟩ := rfl
theorem value_err (f d : Nat) (ts : List Tok) (e : Int × Nat) : refF (f + 1) .value d ⟨ts, some e⟩ = some (gT, ⟨ts, some e⟩) := by simp [refF]
theorem stmt2_err (f d : Nat) (ts : List Tok) (e : Int × Nat) : refF (f + 1) .stmt2 d ⟨ts, some e⟩ = some (gT, ⟨ts, some e⟩) := by simp [refF]
theorem params_err (f d : Nat) (acc : List Tree) (ts : List Tok) (e : Int × Nat) : refF (f + 1) (.params acc) d ⟨ts, some e⟩ = some (.mk 0 ByteArray.empty 0 acc, ⟨ts, some e⟩) := by simp [refF, must_err]
theorem args_err (f d : Nat) (acc : List Tree) (ts : List Tok) (e : Int × Nat) : refF (f + 1) (.args acc) d ⟨ts, some e⟩ = some (.mk 0 ByteArray.empty 0 acc, ⟨ts, some e⟩) := by simp [refF, must_err]
theorem props_err (f d : Nat) (acc : List Tree) (ts : List Tok) (e : Int × Nat) : refF (f + 1) (.props acc) d ⟨ts, some e⟩ = some (.mk 0 ByteArray.empty 0 acc, ⟨ts, some e⟩) := by simp [refF, must_err]
theorem bracesL_err (f d : Nat) (acc : List Tree) (ts : List Tok) (e : Int × Nat) : refF (f + 1) (.bracesL acc) d ⟨ts, some e⟩ = some (.mk 0 ByteArray.empty 0 acc, ⟨ts, some e⟩) := by simp [refF]
theorem prog_err (f d : Nat) (acc : List Tree) (ts : List Tok) (e : Int × Nat) : refF (f + 1) (.prog acc) d ⟨ts, some e⟩ = some (.mk 0 ByteArray.empty 0 acc, ⟨ts, some e⟩) := by simp [refF]
theorem braces_err (f d : Nat) (b : Bool) (ts : List Tok) (e : Int × Nat) : refF (f + 2) (.braces b) d ⟨ts, some e⟩ = some (.mk 6 ByteArray.empty 0 [], ⟨ts, some e⟩) := by
  rw [refF, must_err, bracesL_err]; simp [bindR, must_err, Tree.kids]
theorem pairsL_err (f d lv : Nat) (x : Tree) (ts : List Tok) (e : Int × Nat) : refF (f + 1) (.pairsL lv x) d ⟨ts, some e⟩ = some (x, ⟨ts, some e⟩) := by simp [refF]
theorem singleL_err (f d : Nat) (x : Tree) (ts : List Tok) (e : Int × Nat) : refF (f + 1) (.singleL x) d ⟨ts, some e⟩ = some (x, ⟨ts, some e⟩) := by simp [refF, next_err]
theorem func_err (f d : Nat) (k : Int) (s : ByteArray) (ts : List Tok) (e : Int × Nat) : Stays (refF (f + 3) (.func k s) d ⟨ts, some e⟩) e := by
  rw [refF, must_err, params_err]
  simp only [bindR]
  rw [braces_err]
  exact ⟨_, _, rfl⟩

/-! ### the tokens of a text -/
/-- a sign is no word, and a word no sign -/
def GoodT (t : Tok) : Prop := (t.kind = 2 → signK t.text = 0) ∧ (t.kind = 5 → constK t.text = 0)
def Goods (ts : List Tok) : Prop := ∀ t ∈ ts, GoodT t
theorem Goods.tail {ts : List Tok} (h : Goods ts) : Goods ts.tail := fun t ht => h t (List.mem_of_mem_tail ht)
theorem Goods.hd {ts : List Tok} (h : Goods ts) : GoodT (hdT ts) := by
  cases ts with
  | nil => exact ⟨fun h => by simp [hdT] at h, fun h => by simp [hdT] at h⟩
  | cons t l => exact h t (by simp)

/-! ### the two readers agree -/
def Agree (p : PR) (q : RR) : Prop :=
  match p with
  | none => True
  | some (.ok (t, ts)) => q = some (t, ⟨ts, none⟩) ∧ Goods ts
  | some (.error e) => Stays q e
theorem Agree.ok {t : Tree} {ts : List Tok} (h : Goods ts) : Agree (okT t ts) (some (t, ⟨ts, none⟩)) := ⟨rfl, h⟩
theorem Agree.fail {k : Int} {t : Tree} {ts : List Tok} : Agree (failT k ts) (some (t, failR k ⟨ts, none⟩)) := ⟨_, _, rfl⟩
theorem Agree.bind {p : PR} {q : RR} {k : Tree → List Tok → PR} {m : Tree → RS → RR} (h : Agree p q) (hk : ∀ t ts, Goods ts → Agree (k t ts) (m t ⟨ts, none⟩)) (he : ∀ t ts e, Stays (m t ⟨ts, some e⟩) e) :
    Agree (bindT p k) (bindR q m) := by
  cases p with
  | none => trivial
  | some r =>
    cases r with
    | error e => obtain ⟨t, ts, rfl⟩ := h; exact he t ts e
    | ok x => obtain ⟨t, ts⟩ := x; obtain ⟨rfl, hg⟩ := h; exact hk t ts hg
theorem Agree.bindK {p : PR} {q : RR} {k : Tree → List Tok → PR} {m : Tree → RS → RR} (P : Tree → Prop) (hP : ∀ t ts, p = some (.ok (t, ts)) → P t) (h : Agree p q) (hk : ∀ t ts, P t → Goods ts → Agree (k t ts) (m t ⟨ts, none⟩)) (he : ∀ t ts e, Stays (m t ⟨ts, some e⟩) e) :
    Agree (bindT p k) (bindR q m) := by
  cases p with
  | none => trivial
  | some r =>
    cases r with
    | error e => obtain ⟨t, ts, rfl⟩ := h; exact he t ts e
    | ok x => obtain ⟨t, ts⟩ := x; obtain ⟨rfl, hg⟩ := h; exact hk t ts (hP t ts rfl) hg
/-- a step that the document's reader does not take by itself -/
theorem Agree.bindL {p : PR} {q : RR} {k : Tree → List Tok → PR} (h : Agree p q) (hk : ∀ t ts, Goods ts → q = some (t, ⟨ts, none⟩) → Agree (k t ts) q) : Agree (bindT p k) q := by
  cases p with
  | none => trivial
  | some r =>
    cases r with
    | error e => exact h
    | ok x => obtain ⟨t, ts⟩ := x; exact hk t ts h.2 h.1
theorem Agree.want {s : ByteArray} {ts : List Tok} {k : List Tok → PR} {m : RS → RR} (hg : Goods ts) (hk : Goods ts.tail → Agree (k ts.tail) (m ⟨ts.tail, none⟩)) (he : ∀ ts e, Stays (m ⟨ts, some e⟩) e) :
    Agree (wantT s ts k) (m (mustR s ⟨ts, none⟩)) := by
  unfold wantT mustR
  by_cases h : isT s ts = true
  · simp only [h, Option.isNone_none, if_true]; exact hk hg.tail
  · simp only [h, Option.isNone_none, if_true]; exact he _ _
theorem Agree.name {ts : List Tok} {k : ByteArray → List Tok → PR} {m : ByteArray → RS → RR} (hg : Goods ts) (hk : ∀ s, Goods ts.tail → Agree (k s ts.tail) (m s ⟨ts.tail, none⟩)) (he : ∀ s ts e, Stays (m s ⟨ts, some e⟩) e) :
    Agree (nameT ts k) (m (identR ⟨ts, none⟩).1 (identR ⟨ts, none⟩).2) := by
  unfold nameT identR
  by_cases h : (hdT ts).kind = 1
  · simp only [h, Option.isNone_none, if_true]; exact hk _ hg.tail
  · simp only [h, Option.isNone_none, if_true, if_false]; exact he _ _ _
theorem Agree.ite {c : Prop} [Decidable c] {c' : Bool} {p1 p2 : PR} {q1 q2 : RR} (h : c ↔ c' = true) (h1 : c → Agree p1 q1) (h2 : ¬ c → Agree p2 q2) : Agree (if c then p1 else p2) (if c' = true then q1 else q2) := by
  by_cases hc : c
  · rw [if_pos hc, if_pos (h.1 hc)]; exact h1 hc
  · rw [if_neg hc, if_neg (fun e => hc (h.2 e))]; exact h2 hc
theorem Agree.within {d : Nat} {ts : List Tok} {p : PR} {q : RR} {t : Tree} (h : d + 1 ≤ 30 → Agree p q) : Agree (withinT d ts p) (if 30 < d + 1 then some (t, failR 4 ⟨ts, none⟩) else q) := by
  unfold withinT
  by_cases hd : 30 < d + 1
  · rw [if_pos hd, if_pos hd]; exact Agree.fail
  · rw [if_neg hd, if_neg hd]; exact h (by omega)
theorem next_ok (s : ByteArray) (ts : List Tok) : nextR s ⟨ts, none⟩ = isT s ts := by simp [nextR]
end Go.Proofs.YtgifgiipojedbaaGreatDoor

namespace Go.Proofs.YtgifgiipojedbaaGreatDoor
open Go Go.RowKit Go.Maps
set_option maxRecDepth 100000
set_option linter.unusedVariables false

set_option maxHeartbeats 4000000 in
theorem sign_any (w : World) (s : ByteArray) (hlen : s.size ≤ maxLen) (c0 : Int) (hc : (litD signL7).atKey (.string s.data.toList) (.lit (.int .i64 0)) = .lit (.int .i64 c0)) :
    Calls Tryz.prog 204 #[.string s] w fun e w' => e = .returned (.int .i64 c0) ∧ Below w.heap.size w w' := by
  have hmm := @run_makeMap Tryz.prog
  have h0 := World.ownsMap_made (H := Unit) w Tryz.prog 9 (plainElem Tryz.prog 3)
  have hB0 : Below w.heap.size w (w.alloc (.map #[] 0)) := (Below.refl _ _).alloc (Nat.le_refl _) _
  have HL := Lib.hid hlen
  have HC := Lib.hid hc
  clear hlen hc
  go_enter Tryz.func204, Tryz.ntmps204
  go_wp2_with (first | (refine wpList_insert_own _ rfl _ _ _ 165 rfl 9 3 Tryz.keyedS Tryz.underlying165 _ _ 0 _ rfl h0 (by unfold maxLen; omega) _ _ _ rfl rfl (WideMaps.keyOf_string_mk Tryz.underlying9 (by decide)) _ [] (plainElem_int Tryz.underlying3 (by decide)) ?_; intro w1 h1 g1) | (refine wpList_insert_own _ rfl _ _ _ 165 rfl 9 3 Tryz.keyedS Tryz.underlying165 _ _ 1 _ rfl h1 (by unfold maxLen; omega) _ _ _ rfl rfl (WideMaps.keyOf_string_mk Tryz.underlying9 (by decide)) _ [] (plainElem_int Tryz.underlying3 (by decide)) ?_; intro w2 h2 g2) | (refine wpList_insert_own _ rfl _ _ _ 165 rfl 9 3 Tryz.keyedS Tryz.underlying165 _ _ 2 _ rfl h2 (by unfold maxLen; omega) _ _ _ rfl rfl (WideMaps.keyOf_string_mk Tryz.underlying9 (by decide)) _ [] (plainElem_int Tryz.underlying3 (by decide)) ?_; intro w3 h3 g3) | (refine wpList_insert_own _ rfl _ _ _ 165 rfl 9 3 Tryz.keyedS Tryz.underlying165 _ _ 3 _ rfl h3 (by unfold maxLen; omega) _ _ _ rfl rfl (WideMaps.keyOf_string_mk Tryz.underlying9 (by decide)) _ [] (plainElem_int Tryz.underlying3 (by decide)) ?_; intro w4 h4 g4) | (refine wpList_insert_own _ rfl _ _ _ 165 rfl 9 3 Tryz.keyedS Tryz.underlying165 _ _ 4 _ rfl h4 (by unfold maxLen; omega) _ _ _ rfl rfl (WideMaps.keyOf_string_mk Tryz.underlying9 (by decide)) _ [] (plainElem_int Tryz.underlying3 (by decide)) ?_; intro w5 h5 g5) | (refine wpList_insert_own _ rfl _ _ _ 165 rfl 9 3 Tryz.keyedS Tryz.underlying165 _ _ 5 _ rfl h5 (by unfold maxLen; omega) _ _ _ rfl rfl (WideMaps.keyOf_string_mk Tryz.underlying9 (by decide)) _ [] (plainElem_int Tryz.underlying3 (by decide)) ?_; intro w6 h6 g6) | (refine wpList_insert_own _ rfl _ _ _ 165 rfl 9 3 Tryz.keyedS Tryz.underlying165 _ _ 6 _ rfl h6 (by unfold maxLen; omega) _ _ _ rfl rfl (WideMaps.keyOf_string_mk Tryz.underlying9 (by decide)) _ [] (plainElem_int Tryz.underlying3 (by decide)) ?_; intro w7 h7 g7) | (at_lookup; refine wpList_lookup_own_int _ rfl _ _ 165 rfl 9 3 .i64 Tryz.keyedS Tryz.underlying165 Tryz.underlying3 (Tryz.zeroI _) _ 7 _ rfl h7 _ _ rfl (WideMaps.keyOf_string_mk Tryz.underlying9 HL.out) ?_; intro c hat hwc))
  go_ret
  have e := HC.out.symm.trans hat
  obtain rfl : c0 = c := by
    have : (DataW.lit (.int .i64 c0) : DataW Unit) = .lit (.int .i64 c) := e
    simpa using this
  have s0 : w.heap.size ≤ (w.alloc (.map #[] 0)).heap.size := hB0.size
  have B1 := bel_grown hB0 g1 (Nat.le_refl _) s0
  have B2 := bel_grown B1 g2 (Nat.le_refl _) B1.size
  have B3 := bel_grown B2 g3 (Nat.le_refl _) B2.size
  have B4 := bel_grown B3 g4 (Nat.le_refl _) B3.size
  have B5 := bel_grown B4 g5 (Nat.le_refl _) B4.size
  have B6 := bel_grown B5 g6 (Nat.le_refl _) B5.size
  exact ⟨rfl, bel_grown B6 g7 (Nat.le_refl _) B6.size⟩
theorem sign_of (w : World) (s : ByteArray) (hs : signK s ≠ 0) : Calls Tryz.prog 204 #[.string s] w fun e w' => e = .returned (.int .i64 (signK s)) ∧ Below w.heap.size w w' := by
  have key : s = s_or ∨ s = s_and ∨ s = s_same ∨ s = s_less ∨ s = s_add ∨ s = s_sub ∨ s = s_mul := by
    unfold signK sameS at hs
    simp only [decide_eq_true_eq] at hs
    by_cases h1 : s = s_or
    · exact .inl h1
    by_cases h2 : s = s_and
    · exact .inr (.inl h2)
    by_cases h3 : s = s_same
    · exact .inr (.inr (.inl h3))
    by_cases h4 : s = s_less
    · exact .inr (.inr (.inr (.inl h4)))
    by_cases h5 : s = s_add
    · exact .inr (.inr (.inr (.inr (.inl h5))))
    by_cases h6 : s = s_sub
    · exact .inr (.inr (.inr (.inr (.inr (.inl h6)))))
    by_cases h7 : s = s_mul
    · exact .inr (.inr (.inr (.inr (.inr (.inr h7)))))
    simp [h1, h2, h3, h4, h5, h6, h7] at hs
  rcases key with rfl | rfl | rfl | rfl | rfl | rfl | rfl
  all_goals exact sign_any w _ (by decide) _ (by kernel_rfl)
end Go.Proofs.YtgifgiipojedbaaGreatDoor
