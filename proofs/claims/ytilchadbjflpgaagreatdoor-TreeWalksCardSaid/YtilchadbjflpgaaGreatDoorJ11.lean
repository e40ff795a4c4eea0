/- Package tree: statements. Package hoist: kids of a kind, in a row of their own. Package hoist: inner, Vars; tree.Strict. Package tree: Walk with hoist.Vars$1. Package hoist: Vars; tree.Strict. Package hoist: Names; tree.Strict. Maps from nodes to numbers. Package tree: Walk with run.Number$1. Package run: Number. -/
import Derived.Test.YtilchadbjflpgaaGreatDoorJ10
import Derived.Test.YtilchadbjflpgaaGreatDoorJ09
import Derived.Deep.Cut
import Derived.Test.YtilchadbjflpgaaGreatDoorJ01
import Derived.Lib.OwnKind
import Derived.LaidEql
namespace Go.Proofs.YtilchadbjflpgaaGreatDoor
open Go Go.RowKit
set_option maxRecDepth 100000
set_option linter.unusedVariables false
theorem Tryz.infoPtr : (Tryz.prog.info? 22).map (fun i => (i.zero, i.size, i.bytes)) = some (some (.pointer none), 1, 8) := by kernel_rfl
def leftOf (w : World) (rb : Nat) : Nat := match w.cell? ⟨rb, 0, none⟩ with | some (.slice _ n _) => n | _ => 0
theorem Rd.left {w : World} {rb : Nat} {ts : List Tok} {d : Nat} (h : Rd w rb ts d) : leftOf w rb = ts.length := by
 obtain ⟨tb, off, cap, h⟩ := h
 unfold leftOf
 rw [h.c0]
set_option maxHeartbeats 8000000 in
theorem stmts_says (F : Nat) (hS : ∀ g, g < F → Says 54 rArg .stmt g) :
 Says 22 (fun rb => #[.pointer (some ⟨rb, 0, none⟩), .int .i64 6, .string s_rbrace]) (.stmts 6 []) F := by
 intro w rb B d ts r hP hp
 have HC := lh (node_any w rb 6 ⟨#[]⟩ none 0 0)
 have HP := lh hP
 have HQ := lh hp
 have HS := lh hS
 have hmf : ∀ (fn : Fn) (first cap : Array Value) (w : World), (Instr.makeFunc fn first cap).run Tryz.prog w = .ok (.func fn first cap) w := fun _ _ _ _ => rfl
 obtain ⟨nb, hnb⟩ : ∃ b, b = w.heap.size := ⟨_, rfl⟩
 have G0 := Got.leaf (k := 6) (t := ⟨#[]⟩) (n := 0) hP.le (RFr.refl w rb)
 have R0 := hP.rd.below ((Below.refl _ _).alloc (Nat.le_refl _) (.cells #[.int .i64 6, .string ⟨#[]⟩, .int .i64 0, .slice none 0 0] 29))
 have F0 : RFr w (w.alloc (.cells #[.int .i64 6, .string ⟨#[]⟩, .int .i64 0, .slice none 0 0] 29)) rb := RFr.below ((Below.refl _ _).alloc (Nat.le_refl _) _)
 rw [← hnb] at G0 HC
 unfold s_rbrace
 clear hP hp hS
 simp only
 go_enter Tryz.func22, Tryz.ntmps22
 go_wp2_with fail
 refine HC.out.mono ?_
 rintro e w1 ⟨rfl, hw1⟩
 rw [← hw1] at G0 R0 F0
 have hst : ∃ (g : Nat) (acc : List Tree) (us : List Tok) (v : Value) (kids : List ATree), g ≤ F ∧ parseF g (.stmts 6 acc) d us = some r ∧ Got w B w1 (.mk nb v 6 ⟨#[]⟩ 0 kids) (.mk 6 ⟨#[]⟩ 0 acc) ∧ Rd w1 rb us d ∧ RFr w w1 rb ∧ acc.length + us.length ≤ ts.length ∧ (∀ x ∈ acc, x.kind = 15 → x.kids ≠ []) :=
  ⟨F, [], ts, _, [], Nat.le_refl _, HQ.out, G0, R0, F0, by simp, fun x hx => by cases hx⟩
 have ST := lh hst
 have HNB := lh hnb
 clear hst hw1 G0 R0 F0 HC hnb
 go_wp2_with fail
 go_loopw [] (fun wr => ∃ (g : Nat) (acc : List Tree) (us : List Tok) (v : Value) (kids : List ATree), g ≤ F ∧ parseF g (.stmts 6 acc) d us = some r ∧ Got w B wr (.mk nb v 6 ⟨#[]⟩ 0 kids) (.mk 6 ⟨#[]⟩ 0 acc) ∧ Rd wr rb us d ∧ RFr w wr rb ∧ acc.length + us.length ≤ ts.length ∧ (∀ x ∈ acc, x.kind = 15 → x.kids ≠ [])) (fun wr => leftOf wr rb)
 case atStart => exact ST.out
 case round =>
  obtain ⟨g, acc, us, v, kids, hg, hq, hG, hR, hF, hl, hx⟩ := hrel
  have G := lh hG
  have R := lh hR
  have FF := lh hF
  have HX := lh hx
  have RL := lh hR.left
  cases g with
  | zero => cases hq
  | succ g =>
  rw [parseF] at hq
  have HB := is_any wr rb us d s_rbrace hR
  by_cases hb : isT s_rbrace us = true
  ·rw [hb] at HB
   rw [if_pos (by rw [if_neg (by omega)]; exact hb)] at hq
   have hr := Option.some.inj hq
   have HRr := lh hr.symm
   have HB := lh HB
   unfold s_rbrace at HB
   clear hG hR hF hq hr hb hx ST
   go_wp2_with fail
   refine HB.out.mono ?_
   rintro e w2 ⟨rfl, hB2⟩
   have hlt := HP.out.lt
   have F2 := lh (FF.out.trans (RFr.below (rb := rb) hB2))
   have G2 := lh (G.out.rfr hlt (RFr.below (rb := rb) hB2))
   have R2 := lh (R.out.below hB2)
   have hblk := G2.out.at'.blkOf
   have hrow := G2.out.at'.rowOf
   simp only [ATree.b, ATree.v, ATree.kind, ATree.text, ATree.n, ATree.kids] at hblk hrow
   have n3 : w2.cell? ⟨nb, 3, none⟩ = some v := by simp [World.cell?, hblk]
   have nz : w2.frozen? ⟨nb, 1, none⟩ = false := by simp [World.frozen?, hblk]
   have nc1 : w2.cell? ⟨nb, 1, none⟩ = some (.string ⟨#[]⟩) := by simp [World.cell?, hblk]
   have htr := G2.out.tree
   simp only [ATree.tree, Tree.mk.injEq, true_and] at htr
   have fin0 : strictL acc = false → PPost w rb B d r (.returned (.pointer (some ⟨nb, 0, none⟩))) w2 := fun h => by
    rw [HRr.out, h]
    exact ⟨_, rfl, G2.out, R2.out, F2.out⟩
   have FIN0 := lh fin0
   have fin1 : strictL acc = true → PPost w rb B d r (.returned (.pointer (some ⟨nb, 0, none⟩))) (w2.setCell ⟨nb, 1, none⟩ (.string s_strict)) := fun h => by
    rw [HRr.out, h]
    obtain ⟨h1, h2, h3⟩ := Got.text (t' := s_strict) hlt HP.out.le G2.out F2.out R2.out
    exact ⟨_, rfl, h1, h3, h2⟩
   have FIN1 := lh fin1
   have HTR := lh htr
   have hks : ∀ a ∈ kids, TreeAt w2 B a := fun a ha => G2.out.at'.kid (k := a) ha
   have HKS := lh hks
   clear hB2 hblk fin0 fin1 htr hks HB FF G R
   cases kids with
   | nil =>
     have hs0 : strictL acc = false := by rw [← HTR.out]; rfl
     have H0 := lh (FIN0.out hs0)
     clear hs0
     rcases ownsRow_cases hrow with ⟨rfl, _⟩ | ⟨g0, cap0, rfl, _, _, _⟩
     all_goals
      clear hrow
      go_wp2
      go_ret
      exact H0.out
   | cons a0 ks =>
     rcases ownsRow_cases hrow with ⟨_, h0⟩ | ⟨g0, cap0, rfl, k1, k2, k3⟩
     ·simp at h0
     have p0 := ownsRow_cell1 hrow (g := g0) rfl (i := 0) (x := a0.ptr) rfl
     have hT0 := HKS.out a0 (by simp)
     have hb0 := hT0.blkOf
     have hr0 := hT0.rowOf
     have hx0 := HX.out a0.tree (by rw [← HTR.out]; simp [treeL])
     obtain ⟨b0, v0, kd0, t0, n0, l0⟩ := a0
     simp only [ATree.b, ATree.v, ATree.kind, ATree.text, ATree.n, ATree.kids, ATree.ptr, List.length_cons] at hb0 hr0 p0 k1 n3 ⊢
     unfold maxLen at k2
     have d0 : w2.cell? ⟨b0, 0, none⟩ = some (.int .i64 kd0) := by simp [World.cell?, hb0]
     have d3 : w2.cell? ⟨b0, 3, none⟩ = some v0 := by simp [World.cell?, hb0]
     by_cases h15 : kd0 = 15
     ·subst h15
      cases l0 with
      | nil => exact absurd rfl (hx0 rfl)
      | cons x xs =>
      rcases ownsRow_cases hr0 with ⟨_, h0⟩ | ⟨g1, cap1, rfl, j1, j2, j3⟩
      ·simp at h0
      have p1 := ownsRow_cell1 hr0 (g := g1) rfl (i := 0) (x := x.ptr) rfl
      have hb1 := (hT0.kid (k := x) (by simp [ATree.kids])).blkOf
      obtain ⟨b1, v1, kd1, t1, n1, l1⟩ := x
      simp only [ATree.b, ATree.v, ATree.kind, ATree.text, ATree.n, ATree.ptr, List.length_cons] at hb1 p1 j1 d3
      unfold maxLen at j2
      have e0 : w2.cell? ⟨b1, 0, none⟩ = some (.int .i64 kd1) := by simp [World.cell?, hb1]
      have e1 : w2.cell? ⟨b1, 1, none⟩ = some (.string t1) := by simp [World.cell?, hb1]
      have hstr : strictL acc = (decide (kd1 = 18) && sameS t1 s_usestrict) := by rw [← HTR.out]; rfl
      have HST := lh hstr
      clear hrow hr0 hT0 hb0 hb1 hx0 hstr
      by_cases h18 : kd1 = 18
      ·subst h18
       by_cases hus : t1 = s_usestrict
       ·subst hus
        have H1 := lh (FIN1.out (by rw [HST.out]; simp [sameS]))
        unfold s_usestrict at e1
        go_wp2
        go_ret
        exact H1.out
       ·have H0 := lh (FIN0.out (by rw [HST.out]; simp [sameS, hus]))
        have hne : ¬ t1.toList = s_usestrict.toList := fun h => hus (toList_inj h)
        have hne2 : (t1.toList == s_usestrict.toList) = false := by simpa using hne
        have hl : s_usestrict.toList = [117, 115, 101, 32, 115, 116, 114, 105, 99, 116] := by rw [Lib.toList_data]; rfl
        have hne3 : ¬ t1.toList = [117, 115, 101, 32, 115, 116, 114, 105, 99, 116] := by rw [← hl]; exact hne
        have hne4 : (t1.toList == [117, 115, 101, 32, 115, 116, 114, 105, 99, 116]) = false := by simpa using hne3
        unfold s_usestrict at hne hne2
        clear hus hl
        go_wp2
        go_ret
        exact H0.out
      ·have n18 : (kd1 == 18) = false := by simpa using h18
       have H0 := lh (FIN0.out (by rw [HST.out]; simp [h18]))
       clear h18
       go_wp2
       go_ret
       exact H0.out
     ·have n15 : (kd0 == 15) = false := by simpa using h15
      have H0 := lh (FIN0.out (by rw [← HTR.out]; cases l0 <;> simp [treeL, ATree.tree, strictL, h15]))
      clear hrow hr0 hT0 hb0 hx0 h15
      go_wp2
      go_ret
      exact H0.out
  ·have hb' : isT s_rbrace us = false := by simpa using hb
   rw [hb'] at HB
   rw [if_neg (by rw [if_neg (by omega)]; exact hb)] at hq
   have HB := lh HB
   unfold s_rbrace at HB
   have HQ2 := lh hq
   clear hG hR hF hq hb hb' hx ST
   go_wp2_with fail
   refine HB.out.mono ?_
   rintro e w2 ⟨rfl, hB2⟩
   have F2 := FF.out.trans (RFr.below (rb := rb) hB2)
   have G2 := G.out.rfr HP.out.lt (RFr.below (rb := rb) hB2)
   have R2 := R.out.below hB2
   have n3 : w2.cell? ⟨nb, 3, none⟩ = some v := by have := G2.at'.blkOf; simp only [ATree.b, ATree.v, ATree.kind, ATree.text, ATree.n] at this; simp [World.cell?, this]
   have F2 := lh F2
   have G2 := lh G2
   have R2 := lh R2
   clear hB2 HB FF G R
   go_wp2_with fail
   refine wp_region_plan [(true, 0), (true, 1), (true, 2), (true, 3), (true, 4), (true, 5), (true, 6), (true, 7), (false, 8), (false, 9), (false, 10)] [11, 12, 13] (fun W => W.cell? ⟨nb, 3, none⟩ = some v) (by kernel_rfl) (by kernel_rfl) (fun _ _ d _ _ h => by cases d <;> exact h) n3 (fun hS0 => ?_)
   simp only [planOps, List.filterMap_cons, List.filterMap_nil, List.getElem?_toArray, List.getElem?_cons_zero, List.getElem?_cons_succ, Option.map_some]
   iterate 8
    first
     | (refine wpPlan_take ?_ (by rfl) (fun w' hS' => ?_) ?_; rotate_left; (have s0 := hS'; go_simp; first | done | with_reducible rfl); simp only [Act.put, zA, zB, zC])
     | (refine wpPlan_skip (by rfl) ?_; simp only [Act.put, zA, zB, zC])
   refine wpPlan_go (fun K hK => ?_)
   go_simp
   have hlt := HP.out.lt
   have hRF2 : RFr w2 w2.drew rb := (RFr.refl w2 rb).drew
   have hus : us.length ≤ 4000 := by have := HP.out.few; omega
   have hle2 : B ≤ w2.drew.heap.size := Nat.le_trans HP.out.le F2.out.size
   rcases bindT_some HQ2.out with ⟨⟨c, p⟩, hv, rfl⟩ | ⟨t, vs, hv, hq3⟩
   ·refine (within_statement w2.drew rb B us d _ _ R2.out.drew (by have := HP.out.deep; omega) hlt hv fun hd h1 w1 hR1 hs => HS.out g (by omega) w1 rb B (d + 1) us _ ⟨hR1, hd, hlt, by omega, hus⟩ h1).mono ?_
    rintro e w3 ⟨⟨b, rfl, h1, h2⟩, hF3⟩
    exact ⟨rfl, PPost.pre F2.out.drew (r := .error (c, p)) ⟨⟨b, rfl, h1, h2⟩, hF3⟩⟩
   ·have hvl : vs.length < us.length := Leaves.within (parse_leaves g .stmt (d + 1) us) t vs hv
    have hvx : t.kind = 15 → t.kids ≠ [] := by
     unfold withinT at hv
     by_cases h30 : 30 < d + 1
     ·rw [if_pos h30] at hv; cases hv
     ·rw [if_neg h30] at hv
      cases g with
      | zero => cases hv
      | succ g => exact stmt_expr hv
    have HVX := lh hvx
    have HQ3 := lh hq3
    refine (within_statement w2.drew rb B us d _ _ R2.out.drew (by have := HP.out.deep; omega) hlt hv fun hd h1 w1 hR1 hs => HS.out g (by omega) w1 rb B (d + 1) us _ ⟨hR1, hd, hlt, by omega, hus⟩ h1).mono ?_
    rintro e w3 ⟨a, rfl, hA, hR3, hF3⟩
    have hF23 : RFr w2 w3 rb := hRF2.trans hF3
    have hN3 := G2.out.rfr hlt hF23
    have hblk := hN3.at'.blkOf
    simp only [ATree.b, ATree.v, ATree.kind, ATree.text, ATree.n] at hblk
    have m3 : w3.cell? ⟨nb, 3, none⟩ = some v := by simp [World.cell?, hblk]
    have mz : w3.frozen? ⟨nb, 3, none⟩ = false := by simp [World.frozen?, hblk]
    have hnb3 : nb < w3.heap.size := (Array.getElem?_eq_some_iff.1 hblk).1
    have hnd := hN3.nodup
    simp only [ATree.blocks, List.nodup_cons, List.mem_append, Option.mem_toList, not_or] at hnd
    have hne : v.ownBlock ≠ some nb := hnd.1.1
    have hkl : kids.length = acc.length := by
     have := hN3.tree
     simp only [ATree.tree, Tree.mk.injEq, true_and] at this
     rw [← this, treeL_map, List.length_map]
    have hk4 : kids.length ≤ 4000 := by have := HP.out.few; omega
    have N3 := lh hN3
    have A3 := lh hA
    have R3 := lh hR3
    have F3 := lh (F2.out.trans hF23)
    have NE := lh hne
    have HKL := lh hkl
    refine hK _ _ m3 ?_
    obtain ⟨i0, hi, hz0, hz1, hz2⟩ := info_parts Tryz.infoPtr
    clear hK K hA hR3 hF3 hF23 hN3 hblk hnd hne hvx hq3 hv hkl n3 hRF2
    refine wpPlan_go (fun K hK => ?_)
    go_simp
    refine hK _ _ ((cell_old hnb3).trans m3) ?_
    clear hK K
    refine wpPlan_go (fun K hK => ?_)
    refine step_append_lies _ (by rfl) (.tmp 37) (.tmp 42) 27 (by rfl) B 22 i0 _ 1 8 Tryz.underlying27 hi hz0 hz1 hz2 rfl (by decide) v kids.length (kids.map ATree.ptr) (by rfl) (N3.out.at'.rowOf.alloc _) ⟨w3.heap.size, 0, none⟩ 1 1 [a.ptr] (by rfl) rfl (World.news_of_block (cs := #[a.ptr]) (t := 22) (fr := (0, 0)) (heap_alloc_new w3 _)) (by simp [ATree.ptr, Value.oneCell']) (by decide) (by unfold maxLen; omega) (by omega) (by simp; have := F3.out.size; have := HP.out.le; omega) (w3.heap.size + 1) (by simp) ?_
    intro gg cap w4 hown4 hgrow4 hat4 hlt4
    have m4 : w4.cell? ⟨nb, 3, none⟩ = some v := (hgrow4.cell_far ⟨nb, 3, none⟩ (by simp; omega) (fun e => NE.out e.symm)).trans ((cell_old hnb3).trans m3)
    have mz4 : w4.frozen? ⟨nb, 3, none⟩ = false := (hgrow4.frozen_far ⟨nb, 3, none⟩ (by simp; omega) (fun e => NE.out e.symm)).trans ((frozen_old hnb3).trans mz)
    refine hK _ _ m4 ?_
    clear hK K
    simp only [Act.put, zA, zB, zC]
    have hfin := Got.push hlt HP.out.le N3.out (wA := w2.drew) (fun x hx => (G2.out.new x hx).2) A3.out F3.out R3.out ((Below.refl _ _).alloc (Nat.le_refl _) _) hgrow4 hown4 (by rcases hat4 with h | h; (exact .inl h); (exact .inr (by omega))) hlt4
    have FIN := lh hfin
    clear hgrow4 hown4 hat4 hlt4 hfin
    refine wpPlan_end ?_
    go_wp2
    go_roundw
    case rel =>
     refine ⟨g, acc ++ [t], vs, .slice (some ⟨gg, 0, none⟩) (kids.length + 1) cap, kids ++ [a], by omega, HQ3.out, ?_, FIN.out.2.2, FIN.out.2.1, by simp; omega, fun x hx => ?_⟩
     ·have h1 := FIN.out.1
      have h2 := G2.out.tree
      simp only [ATree.tree, Tree.mk.injEq, true_and] at h2
      rw [h2] at h1
      exact h1
     ·rcases List.mem_append.1 hx with hx | hx
      ·exact HX.out x hx
      ·simp only [List.mem_singleton] at hx; subst hx; exact HVX.out
    case measure =>
     rw [FIN.out.2.2.left, RL.out]
     exact hvl
def Nodes (w : World) (B : Nat) (v : Value) (l : List ATree) : Prop := w.ownsRow B 22 1 v l.length (l.map ATree.ptr)
theorem Nodes.nil (w : World) (B : Nat) : Nodes w B (.slice none 0 0) [] := World.ownsRow_nil w B _ _
theorem Nodes.bel {w w' : World} {B : Nat} {v : Value} {l : List ATree} (h : Nodes w B v l) (g : Below w.heap.size w w') : Nodes w' B v l :=
 ownsRow_block h fun k hk => g.block k (World.ownsRow.lt h k hk).2
theorem Nodes.form {w : World} {B : Nat} {v : Value} {l : List ATree} (h : Nodes w B v l) : (v = .slice none 0 0 ∧ l = []) ∨ ∃ g cap, v = .slice (some ⟨g, 0, none⟩) l.length cap ∧ l.length ≤ cap ∧ cap ≤ maxLen := by
 rcases ownsRow_cases h with ⟨h1, h2⟩ | ⟨g, cap, h1, h2, h3, _⟩
 ·exact .inl ⟨h1, List.eq_nil_of_length_eq_zero h2⟩
 ·exact .inr ⟨g, cap, h1, h2, h3⟩
theorem Nodes.cell {w : World} {B : Nat} {v : Value} {l : List ATree} (h : Nodes w B v l) {b : Nat} (hb : v.ownBlock = some b) {j : Nat} {x : ATree} (hs : l[j]? = some x) : w.cell? ⟨b, j, none⟩ = some (.pointer (some ⟨x.b, 0, none⟩)) :=
 ownsRow_cell1 h hb (by rw [List.getElem?_map, hs]; rfl)
theorem TreeAt.c0 {w : World} {B : Nat} {a : ATree} (h : TreeAt w B a) : w.cell? ⟨a.b, 0, none⟩ = some (.int .i64 a.kind) := by simp [World.cell?, h.blkOf]
theorem TreeAt.c1 {w : World} {B : Nat} {a : ATree} (h : TreeAt w B a) : w.cell? ⟨a.b, 1, none⟩ = some (.string a.text) := by simp [World.cell?, h.blkOf]
theorem TreeAt.c3 {w : World} {B : Nat} {a : ATree} (h : TreeAt w B a) : w.cell? ⟨a.b, 3, none⟩ = some a.v := by simp [World.cell?, h.blkOf]
theorem TreeAt.vOf {w : World} {B : Nat} {a : ATree} (h : TreeAt w B a) : ∃ p cp, a.v = .slice p a.kids.length cp ∧ a.kids.length ≤ cp ∧ cp ≤ maxLen := by
 rcases ownsRow_cases h.rowOf with ⟨h1, h2⟩ | ⟨g0, cap0, h1, h2, h3, _⟩
 ·exact ⟨none, 0, by rw [h1, h2], by omega, by unfold maxLen; omega⟩
 ·exact ⟨_, _, h1, h2, h3⟩
theorem Texts.slice {w : World} {B : Nat} {v : Value} {l : List ByteArray} (h : Texts w B v l) : ∃ p n c, v = .slice p n c := by
 rcases h.form with ⟨h, _⟩ | ⟨g, cap, h, _⟩
 ·exact ⟨_, _, _, h⟩
 ·exact ⟨_, _, _, h⟩
theorem addL_nodup {l : List ByteArray} {s : ByteArray} (h : l.Nodup) : (addL l s).Nodup := by
 unfold addL
 by_cases hc : Lib.containsS l s = true
 ·rw [if_pos hc]; exact h
 ·rw [if_neg hc]
  rw [Lib.containsS_iff] at hc
  rw [List.nodup_append]
  exact ⟨h, by simp, fun a ha b hb e => hc (by simp at hb; rw [← hb, ← e]; exact ha)⟩
theorem addL_mem {l : List ByteArray} {s x : ByteArray} (h : x ∈ addL l s) : x ∈ l ∨ x = s := by
 unfold addL at h
 split at h
 ·exact .inl h
 ·simpa using h
structure VInv (w0 : World) (c : Nat) (T : List ByteArray) (l : List ByteArray) (w : World) : Prop where
 cell : ∃ v, w.heap[c]? = some (.cells #[v] 44 (0, 0)) ∧ Texts w (c + 1) v l
 bel : Below c w0 w
 nd : l.Nodup
 sub : ∀ s ∈ l, s ∈ T
section
variable {w0 w : World} {c B : Nat} {T l : List ByteArray} {a : ATree}
theorem VInv.lt (h : VInv w0 c T l w) : c < w.heap.size := by obtain ⟨v, hb, _⟩ := h.cell; exact (Array.getElem?_eq_some_iff.1 hb).1
theorem VInv.tree (h : VInv w0 c T l w) (hT : TreeAt w0 B a) (hc : w0.heap.size ≤ c) : TreeAt w B a := hT.keep fun k _ hk => h.bel.block k (by omega)
theorem VInv.drew (h : VInv w0 c T l w) : VInv w0 c T l w.drew := ⟨h.cell, h.bel.drew, h.nd, h.sub⟩
theorem VInv.add {w1 : World} {v' : Value} {s : ByteArray} (h : VInv w0 c T l w) (hs : s ∈ T) (hB : Below (c + 1) w w1) (ht : Texts w1 (c + 1) v' (addL l s)) : VInv w0 c T (addL l s) (w1.setCell ⟨c, 0, none⟩ v') := by
 obtain ⟨v, hb, _⟩ := h.cell
 have hb1 : w1.heap[c]? = some (.cells #[v] 44 (0, 0)) := (hB.block c (by omega)).trans hb
 refine ⟨⟨v', setCell_block (o := 0) v' hb1, ?_⟩, ?_, addL_nodup h.nd, fun x hx => (addL_mem hx).elim (h.sub x) (fun e => by rw [e]; exact hs)⟩
 ·exact ownsRow_block ht fun k hk => Below.heap_setCell _ _ _ _ (by have := (World.ownsRow.lt ht k hk).1; simp only; omega)
 ·exact (h.bel.trans (hB.mono (by omega))).setCell (p := ⟨c, 0, none⟩) (Nat.le_refl _) _
end
theorem Texts.base {w : World} {B B' : Nat} {v : Value} {l : List ByteArray} (h : Texts w B v l) (hB : B' ≤ B) : Texts w B' v l := by
 refine ⟨h.1, ?_⟩
 rcases h.2 with hn | ⟨g, cap, cur, h1, h2, rest⟩
 ·exact .inl hn
 ·exact .inr ⟨g, cap, cur, h1, by omega, rest⟩
theorem subsL_len (l : List ATree) : (subsL l).length = manyLA l := by
 have key : ∀ n, ∀ l : List ATree, manyLA l ≤ n → (subsL l).length = manyLA l := by
  intro n
  induction n with
  | zero =>
    intro l hl
    cases l with
    | nil => rfl
    | cons a l => exfalso; obtain ⟨b, v, k, t, m, ks⟩ := a; simp only [manyLA, ATree.many] at hl; omega
  | succ n ih =>
    intro l hl
    cases l with
    | nil => rfl
    | cons a l =>
      obtain ⟨b, v, k, t, m, ks⟩ := a
      simp only [manyLA, ATree.many] at hl ⊢
      have h1 := ih ks (by omega)
      have h2 := ih l (by omega)
      simp only [subsL, ATree.subs, List.length_append, List.length_cons, h1, h2]
 exact key _ l (Nat.le_refl _)
theorem subs_tree {w : World} {B : Nat} : ∀ {a x : ATree}, TreeAt w B a → x ∈ a.subs → TreeAt w B x := by
 have key : ∀ n, ∀ a x : ATree, a.many ≤ n → TreeAt w B a → x ∈ a.subs → TreeAt w B x := by
  intro n
  induction n with
  | zero => intro a x h; exfalso; obtain ⟨b, v, k, t, m, ks⟩ := a; simp only [ATree.many] at h; omega
  | succ n ih =>
    intro a x hn hT hx
    obtain ⟨b, v, k, t, m, ks⟩ := a
    simp only [ATree.subs, List.mem_cons] at hx
    rcases hx with rfl | hx
    ·exact hT
    ·have : ∀ l : List ATree, (∀ y ∈ l, y ∈ ks) → x ∈ subsL l → TreeAt w B x := by
      intro l
      induction l with
      | nil => intro _ h; simp [subsL] at h
      | cons y l ih2 =>
        intro hl h
        simp only [subsL, List.mem_append] at h
        rcases h with h | h
        ·have hy : y ∈ (ATree.mk b v k t m ks).kids := hl y (by simp)
         exact ih y x (by have := many_kid hy; omega) (hT.kid hy) h
        ·exact ih2 (fun z hz => hl z (List.mem_cons_of_mem _ hz)) h
     exact this ks (fun y h => h) hx
 intro a x hT hx
 exact key _ a x (Nat.le_refl _) hT hx
theorem Nodes.far {w w' : World} {B B' : Nat} {v v' : Value} {l : List ATree} {ks : List ByteArray} (h : Nodes w B v l) (ht : Texts w B' v' ks) (hf : ∀ k, k < w.heap.size → v'.ownBlock ≠ some k → w'.heap[k]? = w.heap[k]?) : Nodes w' B v l := by
 refine ownsRow_block h fun k hk => hf k (World.ownsRow.lt h k hk).2 fun e => ?_
 obtain ⟨c1, f1, h1⟩ := Lib.ownsRow_kind h k hk
 obtain ⟨c2, f2, h2⟩ := Lib.ownsRow_kind ht k e
 rw [h1] at h2
 simp only [Option.some.injEq, Obj.cells.injEq] at h2
 exact absurd h2.2.1 (by decide)
end Go.Proofs.YtilchadbjflpgaaGreatDoor
namespace Go.Proofs.YtilchadbjflpgaaGreatDoor
open Go Go.RowKit Go.ChangeMaps Go.MapKept
set_option maxRecDepth 100000
set_option linter.unusedVariables false
def nodeP (b : Nat) : Value := .pointer (some ⟨b, 0, none⟩)
def Cells (w : World) (k : Nat) : Prop := ∃ c t, w.heap[k]? = some (.cells c t (0, 0))
def PMap (w : World) (b : Nat) (l : List (Nat × Nat)) : Prop :=
 ∃ es clock, w.heap[b]? = some (.map es clock) ∧ es.toList.map (fun e => (e.key, e.val)) = l.map (fun x => (nodeP x.1, Value.int .i64 x.2)) ∧ Go.MapKept.Stamped es clock
theorem PMap.len {w : World} {b : Nat} {l : List (Nat × Nat)} (h : PMap w b l) : ∃ es clock, w.heap[b]? = some (.map es clock) ∧ es.size = l.length := by
 obtain ⟨es, clock, hb, he, hst⟩ := h
 refine ⟨es, clock, hb, ?_⟩
 have := congrArg List.length he
 simpa using this
end Go.Proofs.YtilchadbjflpgaaGreatDoor
namespace Go.Proofs.YtilchadbjflpgaaGreatDoor
open Go Go.RowKit
set_option maxRecDepth 100000
set_option linter.unusedVariables false
theorem subsL_app (l m : List ATree) : subsL (l ++ m) = subsL l ++ subsL m := by
 induction l with
 | nil => rfl
 | cons a l ih => simp only [List.cons_append, subsL, ih, List.append_assoc]
theorem subs_eq (a : ATree) : a.subs = a :: subsL a.kids := by cases a; rfl
theorem subsL_at {l : List ATree} {i : Nat} {k : ATree} (h : l[i]? = some k) : subsL l = subsL (l.take i) ++ (k.subs ++ subsL (l.drop (i + 1))) := by
 obtain ⟨hi, hk⟩ := List.getElem?_eq_some_iff.1 h
 have : l = l.take i ++ (k :: l.drop (i + 1)) := by
  rw [← hk, List.getElem_cons_drop, List.take_append_drop]
 rw [show subsL l = subsL (l.take i ++ (k :: l.drop (i + 1))) from congrArg subsL this, subsL_app]
 rfl
theorem Cells.bel {w0 w : World} {k : Nat} (h : Cells w0 k) (g : Below w0.heap.size w0 w) : Cells w k := by
 obtain ⟨c, t, h⟩ := h
 exact ⟨c, t, (g.block k (Array.getElem?_eq_some_iff.1 h).1).trans h⟩
theorem TreeAt.cellsOf {w : World} {B : Nat} {a : ATree} (h : TreeAt w B a) : Cells w a.b := ⟨_, _, h.blkOf⟩
theorem subs_length (a : ATree) : a.subs.length = a.many := by
 obtain ⟨b, v, k, t, n, ks⟩ := a
 simp only [ATree.subs, ATree.many, List.length_cons, subsL_len]
end Go.Proofs.YtilchadbjflpgaaGreatDoor
