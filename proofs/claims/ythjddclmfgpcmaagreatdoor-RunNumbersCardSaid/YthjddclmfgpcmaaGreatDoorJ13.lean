/- Package tree: the kinds of what is read. Package tree: statements. The document's parser: list, with any closure. -/
import Derived.Test.YthjddclmfgpcmaaGreatDoorJ09
import Derived.Test.YthjddclmfgpcmaaGreatDoorJ12
import Derived.Deep.Cut
namespace Go.Proofs.YthjddclmfgpcmaaGreatDoor
open Go Go.RowKit
set_option maxRecDepth 100000

theorem okT_inj {t t' : Tree} {ts ts' : List Tok} (h : okT t ts = some (.ok (t', ts'))) : t = t' ∧ ts = ts' := by simpa [okT] using h
theorem bindT_ok {p : PR} {k : Tree → List Tok → PR} {t : Tree} {ts : List Tok} (h : bindT p k = some (.ok (t, ts))) : ∃ x us, p = some (.ok (x, us)) ∧ k x us = some (.ok (t, ts)) := by
 rcases bindT_some h with ⟨e, _, he⟩ | h
 ·cases he
 ·exact h
theorem wantT_ok {s : ByteArray} {us : List Tok} {k : List Tok → PR} {t : Tree} {ts : List Tok} (h : wantT s us k = some (.ok (t, ts))) : isT s us = true ∧ k us.tail = some (.ok (t, ts)) := by
 rcases wantT_some h with h | ⟨_, h⟩
 ·exact h
 ·cases h
theorem nameT_ok {us : List Tok} {k : ByteArray → List Tok → PR} {t : Tree} {ts : List Tok} (h : nameT us k = some (.ok (t, ts))) : (hdT us).kind = 1 ∧ k (hdT us).text us.tail = some (.ok (t, ts)) := by
 rcases nameT_some h with h | ⟨_, h⟩
 ·exact h
 ·cases h
theorem decl_kind {f d : Nat} {k : Int} {m : Bool} {us ts : List Tok} {t : Tree} (h : parseF f (.decl k m) d us = some (.ok (t, ts))) : t.kind = k := by
 cases f with
 | zero => cases h
 | succ f =>
   obtain ⟨_, h⟩ := nameT_ok h
   split at h
   ·cases h
   ·split at h
    ·obtain ⟨x, vs, _, h⟩ := bindT_ok h
     obtain ⟨rfl, _⟩ := okT_inj h; rfl
    ·obtain ⟨rfl, _⟩ := okT_inj h; rfl
theorem func_kind {f d : Nat} {k : Int} {s : ByteArray} {us ts : List Tok} {t : Tree} (h : parseF f (.func k s) d us = some (.ok (t, ts))) : t.kind = k := by
 cases f with
 | zero => cases h
 | succ f =>
   obtain ⟨_, h⟩ := wantT_ok h
   obtain ⟨x, vs, _, h⟩ := bindT_ok h
   obtain ⟨_, h⟩ := wantT_ok h
   obtain ⟨x, vs, _, h⟩ := bindT_ok h
   obtain ⟨rfl, _⟩ := okT_inj h; rfl
theorem stmts_kind : ∀ {f d : Nat} {k : Int} {acc : List Tree} {us ts : List Tok} {t : Tree}, parseF f (.stmts k acc) d us = some (.ok (t, ts)) → t.kind = k := by
 intro f
 induction f with
 | zero => intro d k acc us ts t h; cases h
 | succ f ih =>
   intro d k acc us ts t h
   rw [parseF] at h
   generalize (if k = 1 then decide ((hdT us).kind = 6) else isT s_rbrace us) = c at h
   cases c
   ·obtain ⟨x, vs, _, h⟩ := bindT_ok h
    exact ih h
   ·obtain ⟨rfl, _⟩ := okT_inj h; rfl
theorem block_kind {f d : Nat} {b : Bool} {us ts : List Tok} {t : Tree} (h : parseF f (.block b) d us = some (.ok (t, ts))) : t.kind = 6 := by
 cases f with
 | zero => cases h
 | succ f =>
   obtain ⟨_, h⟩ := wantT_ok h
   obtain ⟨x, vs, hx, h⟩ := bindT_ok h
   obtain ⟨_, h⟩ := wantT_ok h
   obtain ⟨h1, _⟩ := okT_inj h
   cases b
   ·simp at h1; rw [← h1]; rfl
   ·simp at h1; rw [← h1]; exact stmts_kind hx
theorem try_kind {f d : Nat} {us ts : List Tok} {t : Tree} (h : parseF f .try_ d us = some (.ok (t, ts))) : t.kind = 12 := by
 cases f with
 | zero => cases h
 | succ f =>
   have key : ∀ (l : List Tree) (us : List Tok), (if isT s_finally us = true then bindT (parseF f (.block false) d us.tail) fun c ts => okT (.mk 12 ByteArray.empty 0 (l ++ [.mk 14 ByteArray.empty 0 [c]])) ts else if l.length = 1 then failT 3 us else okT (.mk 12 ByteArray.empty 0 l) us) = some (.ok (t, ts)) → t.kind = 12 := by
    intro l us h
    by_cases c : isT s_finally us = true
    ·rw [if_pos c] at h
     obtain ⟨x, vs, hx, h⟩ := bindT_ok h
     obtain ⟨rfl, _⟩ := okT_inj h; rfl
    ·rw [if_neg c] at h
     by_cases c2 : l.length = 1
     ·rw [if_pos c2] at h; cases h
     ·rw [if_neg c2] at h; obtain ⟨rfl, _⟩ := okT_inj h; rfl
   rw [parseF] at h
   obtain ⟨x, vs, hx, h⟩ := bindT_ok h
   dsimp only at h
   by_cases c : isT s_catch vs = true
   ·rw [if_pos c] at h
    obtain ⟨_, h⟩ := wantT_ok h
    obtain ⟨_, h⟩ := nameT_ok h
    obtain ⟨_, h⟩ := wantT_ok h
    obtain ⟨x, vs, hx, h⟩ := bindT_ok h
    exact key _ _ h
   ·rw [if_neg c] at h
    exact key _ _ h
/-- an Expr has what it is of -/
theorem stmt_expr {f d : Nat} {us ts : List Tok} {t : Tree} (h : parseF (f + 1) .stmt d us = some (.ok (t, ts))) (hk : t.kind = 15) : t.kids ≠ [] := by
 have hend : ∀ {n : Tree} {vs : List Tok}, endT n vs = some (.ok (t, ts)) → n = t := fun h => (okT_inj (wantT_ok h).2).1
 rw [parseF] at h
 by_cases c0 : isT s_lbrace us = true
 ·rw [if_pos c0] at h
  have := block_kind h; omega
 rw [if_neg c0] at h
 by_cases c1 : isT s_semi us = true
 ·rw [if_pos c1] at h
  obtain ⟨rfl, _⟩ := okT_inj h; cases hk
 rw [if_neg c1] at h
 by_cases c2 : isT s_var us = true
 ·rw [if_pos c2] at h
  obtain ⟨x, vs, hx, h⟩ := bindT_ok h
  have := decl_kind hx; have := hend h; subst this; omega
 rw [if_neg c2] at h
 by_cases c3 : isT s_let us = true
 ·rw [if_pos c3] at h
  obtain ⟨x, vs, hx, h⟩ := bindT_ok h
  have := decl_kind hx; have := hend h; subst this; omega
 rw [if_neg c3] at h
 by_cases c4 : isT s_const us = true
 ·rw [if_pos c4] at h
  obtain ⟨x, vs, hx, h⟩ := bindT_ok h
  have := decl_kind hx; have := hend h; subst this; omega
 rw [if_neg c4] at h
 by_cases c5 : isT s_function us = true
 ·rw [if_pos c5] at h
  obtain ⟨_, h⟩ := nameT_ok h
  have := func_kind h; omega
 rw [if_neg c5] at h
 by_cases c6 : isT s_if us = true
 ·rw [if_pos c6] at h
  obtain ⟨x, vs, hx, h⟩ := bindT_ok h
  obtain ⟨y, vs, hx, h⟩ := bindT_ok h
  split at h
  ·obtain ⟨z, vs, hx, h⟩ := bindT_ok h
   obtain ⟨rfl, _⟩ := okT_inj h; cases hk
  ·obtain ⟨rfl, _⟩ := okT_inj h; cases hk
 rw [if_neg c6] at h
 by_cases c7 : isT s_while us = true
 ·rw [if_pos c7] at h
  obtain ⟨x, vs, hx, h⟩ := bindT_ok h
  obtain ⟨y, vs, hx, h⟩ := bindT_ok h
  obtain ⟨rfl, _⟩ := okT_inj h; cases hk
 rw [if_neg c7] at h
 by_cases c8 : isT s_with us = true
 ·rw [if_pos c8] at h
  obtain ⟨x, vs, hx, h⟩ := bindT_ok h
  obtain ⟨y, vs, hx, h⟩ := bindT_ok h
  obtain ⟨rfl, _⟩ := okT_inj h; cases hk
 rw [if_neg c8] at h
 by_cases c9 : isT s_return us = true
 ·rw [if_pos c9] at h
  split at h
  ·have := hend h; subst this; cases hk
  ·obtain ⟨x, vs, hx, h⟩ := bindT_ok h
   have := hend h; subst this; cases hk
 rw [if_neg c9] at h
 by_cases c10 : isT s_throw us = true
 ·rw [if_pos c10] at h
  obtain ⟨x, vs, hx, h⟩ := bindT_ok h
  have := hend h; subst this; cases hk
 rw [if_neg c10] at h
 by_cases c11 : isT s_try us = true
 ·rw [if_pos c11] at h
  have := try_kind h; omega
 rw [if_neg c11] at h
 obtain ⟨x, vs, hx, h⟩ := bindT_ok h
 have := hend h; subst this
 simp [Tree.kids]
end Go.Proofs.YthjddclmfgpcmaaGreatDoor

namespace Go.Proofs.YthjddclmfgpcmaaGreatDoor
open Go Go.RowKit
set_option maxRecDepth 100000
set_option linter.unusedVariables false

theorem Tryz.infoPtr : (Tryz.prog.info? 22).map (fun i => (i.zero, i.size, i.bytes)) = some (some (.pointer none), 1, 8) := by kernel_rfl
/-- the length of a reader's tokens -/
def leftOf (w : World) (rb : Nat) : Nat := match w.cell? ⟨rb, 0, none⟩ with | some (.slice _ n _) => n | _ => 0
theorem Rd.left {w : World} {rb : Nat} {ts : List Tok} {d : Nat} (h : Rd w rb ts d) : leftOf w rb = ts.length := by
 obtain ⟨tb, off, cap, h⟩ := h
 unfold leftOf
 rw [h.c0]

set_option maxHeartbeats 8000000 in
theorem stmts_says (F : Nat) (hS : ∀ g, g < F → Says 47 rArg .stmt g) :
 Says 19 (fun rb => #[.pointer (some ⟨rb, 0, none⟩), .int .i64 6, .string s_rbrace]) (.stmts 6 []) F := by
 intro w rb B d ts r hP hp
 have HC := Lib.hid (node_any w rb 6 ⟨#[]⟩ none 0 0)
 have HP := Lib.hid hP
 have HQ := Lib.hid hp
 have HS := Lib.hid hS
 have hmf : ∀ (fn : Fn) (first cap : Array Value) (w : World), (Instr.makeFunc fn first cap).run Tryz.prog w = .ok (.func fn first cap) w := fun _ _ _ _ => rfl
 obtain ⟨nb, hnb⟩ : ∃ b, b = w.heap.size := ⟨_, rfl⟩
 have G0 := Got.leaf (k := 6) (t := ⟨#[]⟩) (n := 0) hP.le (RFr.refl w rb)
 have R0 := hP.rd.below ((Below.refl _ _).alloc (Nat.le_refl _) (.cells #[.int .i64 6, .string ⟨#[]⟩, .int .i64 0, .slice none 0 0] 30))
 have F0 : RFr w (w.alloc (.cells #[.int .i64 6, .string ⟨#[]⟩, .int .i64 0, .slice none 0 0] 30)) rb := RFr.below ((Below.refl _ _).alloc (Nat.le_refl _) _)
 rw [← hnb] at G0 HC
 unfold s_rbrace
 clear hP hp hS
 simp only
 go_enter Tryz.func19, Tryz.ntmps19
 go_wp2_with fail
 refine HC.out.mono ?_
 rintro e w1 ⟨rfl, hw1⟩
 rw [← hw1] at G0 R0 F0
 have hst : ∃ (g : Nat) (acc : List Tree) (us : List Tok) (v : Value) (kids : List ATree), g ≤ F ∧ parseF g (.stmts 6 acc) d us = some r ∧ Got w B w1 (.mk nb v 6 ⟨#[]⟩ 0 kids) (.mk 6 ⟨#[]⟩ 0 acc) ∧ Rd w1 rb us d ∧ RFr w w1 rb ∧ acc.length + us.length ≤ ts.length ∧ (∀ x ∈ acc, x.kind = 15 → x.kids ≠ []) :=
  ⟨F, [], ts, _, [], Nat.le_refl _, HQ.out, G0, R0, F0, by simp, fun x hx => by cases hx⟩
 have ST := Lib.hid hst
 have HNB := Lib.hid hnb
 clear hst hw1 G0 R0 F0 HC hnb
 go_wp2_with fail
 go_loopw [] (fun wr => ∃ (g : Nat) (acc : List Tree) (us : List Tok) (v : Value) (kids : List ATree), g ≤ F ∧ parseF g (.stmts 6 acc) d us = some r ∧ Got w B wr (.mk nb v 6 ⟨#[]⟩ 0 kids) (.mk 6 ⟨#[]⟩ 0 acc) ∧ Rd wr rb us d ∧ RFr w wr rb ∧ acc.length + us.length ≤ ts.length ∧ (∀ x ∈ acc, x.kind = 15 → x.kids ≠ [])) (fun wr => leftOf wr rb)
 case atStart => exact ST.out
 case round =>
  obtain ⟨g, acc, us, v, kids, hg, hq, hG, hR, hF, hl, hx⟩ := hrel
  have G := Lib.hid hG
  have R := Lib.hid hR
  have FF := Lib.hid hF
  have HX := Lib.hid hx
  have RL := Lib.hid hR.left
  cases g with
  | zero => cases hq
  | succ g =>
  rw [parseF] at hq
  have HB := is_any wr rb us d s_rbrace hR
  by_cases hb : isT s_rbrace us = true
  ·rw [hb] at HB
   rw [if_pos (by rw [if_neg (by omega)]; exact hb)] at hq
   have hr := Option.some.inj hq
   have HRr := Lib.hid hr.symm
   have HB := Lib.hid HB
   unfold s_rbrace at HB
   clear hG hR hF hq hr hb hx ST
   go_wp2_with fail
   refine HB.out.mono ?_
   rintro e w2 ⟨rfl, hB2⟩
   have hlt := HP.out.lt
   have F2 := Lib.hid (FF.out.trans (RFr.below (rb := rb) hB2))
   have G2 := Lib.hid (G.out.rfr hlt (RFr.below (rb := rb) hB2))
   have R2 := Lib.hid (R.out.below hB2)
   have hblk := G2.out.at'.blkOf
   have hrow := G2.out.at'.rowOf
   simp only [ATree.b, ATree.v, ATree.kind, ATree.text, ATree.n, ATree.kids] at hblk hrow
   have n3 : w2.cell? ⟨nb, 3, none⟩ = some v := by simp [World.cell?, hblk]
   have nz : w2.frozen? ⟨nb, 1, none⟩ = false := by simp [World.frozen?, hblk]
   have nc1 : w2.cell? ⟨nb, 1, none⟩ = some (.string ⟨#[]⟩) := by simp [World.cell?, hblk]
   have htr := G2.out.tree
   simp only [ATree.tree, Tree.mk.injEq, true_and] at htr
   -- what is handed back, without and with the directive
   have fin0 : strictL acc = false → PPost w rb B d r (.returned (.pointer (some ⟨nb, 0, none⟩))) w2 := fun h => by
    rw [HRr.out, h]
    exact ⟨_, rfl, G2.out, R2.out, F2.out⟩
   have FIN0 := Lib.hid fin0
   have fin1 : strictL acc = true → PPost w rb B d r (.returned (.pointer (some ⟨nb, 0, none⟩))) (w2.setCell ⟨nb, 1, none⟩ (.string s_strict)) := fun h => by
    rw [HRr.out, h]
    obtain ⟨h1, h2, h3⟩ := Got.text (t' := s_strict) hlt HP.out.le G2.out F2.out R2.out
    exact ⟨_, rfl, h1, h3, h2⟩
   have FIN1 := Lib.hid fin1
   have HTR := Lib.hid htr
   have hks : ∀ a ∈ kids, TreeAt w2 B a := fun a ha => G2.out.at'.kid (k := a) ha
   have HKS := Lib.hid hks
   clear hB2 hblk fin0 fin1 htr hks HB FF G R
   cases kids with
   | nil =>
     have hs0 : strictL acc = false := by rw [← HTR.out]; rfl
     have H0 := Lib.hid (FIN0.out hs0)
     clear hs0
     rcases ownsRow_cases hrow with ⟨rfl, _⟩ | ⟨g0, cap0, rfl, _, _, _⟩
     all_goals
      clear hrow
      go_wp2
      go_ret
      exact H0.out
   | cons a0 ks =>
     rcases ownsRow_cases hrow with ⟨_, h0⟩ | ⟨g0, cap0, rfl, k1, k2, k3⟩
     ·simp at h0
     have p0 := ownsRow_cell1 hrow (g := g0) rfl (i := 0) (x := a0.ptr) rfl
     have hT0 := HKS.out a0 (by simp)
     have hb0 := hT0.blkOf
     have hr0 := hT0.rowOf
     have hx0 := HX.out a0.tree (by rw [← HTR.out]; simp [treeL])
     obtain ⟨b0, v0, kd0, t0, n0, l0⟩ := a0
     simp only [ATree.b, ATree.v, ATree.kind, ATree.text, ATree.n, ATree.kids, ATree.ptr, List.length_cons] at hb0 hr0 p0 k1 n3 ⊢
     unfold maxLen at k2
     have d0 : w2.cell? ⟨b0, 0, none⟩ = some (.int .i64 kd0) := by simp [World.cell?, hb0]
     have d3 : w2.cell? ⟨b0, 3, none⟩ = some v0 := by simp [World.cell?, hb0]
     by_cases h15 : kd0 = 15
     ·subst h15
      cases l0 with
      | nil => exact absurd rfl (hx0 rfl)
      | cons x xs =>
      rcases ownsRow_cases hr0 with ⟨_, h0⟩ | ⟨g1, cap1, rfl, j1, j2, j3⟩
      ·simp at h0
      have p1 := ownsRow_cell1 hr0 (g := g1) rfl (i := 0) (x := x.ptr) rfl
      have hb1 := (hT0.kid (k := x) (by simp [ATree.kids])).blkOf
      obtain ⟨b1, v1, kd1, t1, n1, l1⟩ := x
      simp only [ATree.b, ATree.v, ATree.kind, ATree.text, ATree.n, ATree.ptr, List.length_cons] at hb1 p1 j1 d3
      unfold maxLen at j2
      have e0 : w2.cell? ⟨b1, 0, none⟩ = some (.int .i64 kd1) := by simp [World.cell?, hb1]
      have e1 : w2.cell? ⟨b1, 1, none⟩ = some (.string t1) := by simp [World.cell?, hb1]
      have hstr : strictL acc = (decide (kd1 = 18) && sameS t1 s_usestrict) := by rw [← HTR.out]; rfl
      have HST := Lib.hid hstr
      clear hrow hr0 hT0 hb0 hb1 hx0 hstr
      by_cases h18 : kd1 = 18
      ·subst h18
       by_cases hus : t1 = s_usestrict
       ·subst hus
        have H1 := Lib.hid (FIN1.out (by rw [HST.out]; simp [sameS]))
        unfold s_usestrict at e1
        go_wp2
        go_ret
        exact H1.out
       ·have H0 := Lib.hid (FIN0.out (by rw [HST.out]; simp [sameS, hus]))
        have hne : ¬ t1.toList = s_usestrict.toList := fun h => hus (toList_inj h)
        have hne2 : (t1.toList == s_usestrict.toList) = false := by simpa using hne
        have hl : s_usestrict.toList = [117, 115, 101, 32, 115, 116, 114, 105, 99, 116] := by rw [Lib.toList_data]; rfl
        have hne3 : ¬ t1.toList = [117, 115, 101, 32, 115, 116, 114, 105, 99, 116] := by rw [← hl]; exact hne
        have hne4 : (t1.toList == [117, 115, 101, 32, 115, 116, 114, 105, 99, 116]) = false := by simpa using hne3
        unfold s_usestrict at hne hne2
        clear hus hl
        go_wp2
        go_ret
        exact H0.out
      ·have n18 : (kd1 == 18) = false := by simpa using h18
       have H0 := Lib.hid (FIN0.out (by rw [HST.out]; simp [h18]))
       clear h18
       go_wp2
       go_ret
       exact H0.out
     ·have n15 : (kd0 == 15) = false := by simpa using h15
      have H0 := Lib.hid (FIN0.out (by rw [← HTR.out]; cases l0 <;> simp [treeL, ATree.tree, strictL, h15]))
      clear hrow hr0 hT0 hb0 hx0 h15
      go_wp2
      go_ret
      exact H0.out
  ·have hb' : isT s_rbrace us = false := by simpa using hb
   rw [hb'] at HB
   rw [if_neg (by rw [if_neg (by omega)]; exact hb)] at hq
   have HB := Lib.hid HB
   unfold s_rbrace at HB
   have HQ2 := Lib.hid hq
   clear hG hR hF hq hb hb' hx ST
   go_wp2_with fail
   refine HB.out.mono ?_
   rintro e w2 ⟨rfl, hB2⟩
   have F2 := FF.out.trans (RFr.below (rb := rb) hB2)
   have G2 := G.out.rfr HP.out.lt (RFr.below (rb := rb) hB2)
   have R2 := R.out.below hB2
   have n3 : w2.cell? ⟨nb, 3, none⟩ = some v := by have := G2.at'.blkOf; simp only [ATree.b, ATree.v, ATree.kind, ATree.text, ATree.n] at this; simp [World.cell?, this]
   have F2 := Lib.hid F2
   have G2 := Lib.hid G2
   have R2 := Lib.hid R2
   clear hB2 HB FF G R
   go_wp2_with fail
   refine wp_region_plan [(true, 0), (true, 1), (true, 2), (true, 3), (true, 4), (true, 5), (true, 6), (true, 7), (false, 8), (false, 9), (false, 10)] [11, 12, 13] (fun W => W.cell? ⟨nb, 3, none⟩ = some v) (by kernel_rfl) (by kernel_rfl) (fun _ _ d _ _ h => by cases d <;> exact h) n3 (fun hS0 => ?_)
   simp only [planOps, List.filterMap_cons, List.filterMap_nil, List.getElem?_toArray, List.getElem?_cons_zero, List.getElem?_cons_succ, Option.map_some]
   iterate 8
    first
     | (refine wpPlan_take ?_ (by rfl) (fun w' hS' => ?_) ?_; rotate_left; (have s0 := hS'; go_simp; first | done | with_reducible rfl); simp only [Act.put, List.setIfInBounds_toArray, List.set_cons_zero, List.set_cons_succ])
     | (refine wpPlan_skip (by rfl) ?_; simp only [Act.put, List.setIfInBounds_toArray, List.set_cons_zero, List.set_cons_succ])
   refine wpPlan_go (fun K hK => ?_)
   go_simp
   have hlt := HP.out.lt
   have hRF2 : RFr w2 w2.drew rb := (RFr.refl w2 rb).drew
   have hus : us.length ≤ 4000 := by have := HP.out.few; omega
   have hle2 : B ≤ w2.drew.heap.size := Nat.le_trans HP.out.le F2.out.size
   rcases bindT_some HQ2.out with ⟨⟨c, p⟩, hv, rfl⟩ | ⟨t, vs, hv, hq3⟩
   ·refine (within_statement w2.drew rb B us d _ _ R2.out.drew (by have := HP.out.deep; omega) hlt hv fun hd h1 w1 hR1 hs => HS.out g (by omega) w1 rb B (d + 1) us _ ⟨hR1, hd, hlt, by omega, hus⟩ h1).mono ?_
    rintro e w3 ⟨⟨b, rfl, h1, h2⟩, hF3⟩
    exact ⟨rfl, PPost.pre F2.out.drew (r := .error (c, p)) ⟨⟨b, rfl, h1, h2⟩, hF3⟩⟩
   ·have hvl : vs.length < us.length := Leaves.within (parse_leaves g .stmt (d + 1) us) t vs hv
    have hvx : t.kind = 15 → t.kids ≠ [] := by
     unfold withinT at hv
     by_cases h30 : 30 < d + 1
     ·rw [if_pos h30] at hv; cases hv
     ·rw [if_neg h30] at hv
      cases g with
      | zero => cases hv
      | succ g => exact stmt_expr hv
    have HVX := Lib.hid hvx
    have HQ3 := Lib.hid hq3
    refine (within_statement w2.drew rb B us d _ _ R2.out.drew (by have := HP.out.deep; omega) hlt hv fun hd h1 w1 hR1 hs => HS.out g (by omega) w1 rb B (d + 1) us _ ⟨hR1, hd, hlt, by omega, hus⟩ h1).mono ?_
    rintro e w3 ⟨a, rfl, hA, hR3, hF3⟩
    have hF23 : RFr w2 w3 rb := hRF2.trans hF3
    have hN3 := G2.out.rfr hlt hF23
    have hblk := hN3.at'.blkOf
    simp only [ATree.b, ATree.v, ATree.kind, ATree.text, ATree.n] at hblk
    have m3 : w3.cell? ⟨nb, 3, none⟩ = some v := by simp [World.cell?, hblk]
    have mz : w3.frozen? ⟨nb, 3, none⟩ = false := by simp [World.frozen?, hblk]
    have hnb3 : nb < w3.heap.size := (Array.getElem?_eq_some_iff.1 hblk).1
    have hnd := hN3.nodup
    simp only [ATree.blocks, List.nodup_cons, List.mem_append, Option.mem_toList, not_or] at hnd
    have hne : v.ownBlock ≠ some nb := hnd.1.1
    have hkl : kids.length = acc.length := by
     have := hN3.tree
     simp only [ATree.tree, Tree.mk.injEq, true_and] at this
     rw [← this, treeL_map, List.length_map]
    have hk4 : kids.length ≤ 4000 := by have := HP.out.few; omega
    have N3 := Lib.hid hN3
    have A3 := Lib.hid hA
    have R3 := Lib.hid hR3
    have F3 := Lib.hid (F2.out.trans hF23)
    have NE := Lib.hid hne
    have HKL := Lib.hid hkl
    refine hK _ _ m3 ?_
    obtain ⟨i0, hi, hz0, hz1, hz2⟩ := info_parts Tryz.infoPtr
    clear hK K hA hR3 hF3 hF23 hN3 hblk hnd hne hvx hq3 hv hkl n3 hRF2
    refine wpPlan_go (fun K hK => ?_)
    go_simp
    refine hK _ _ ((cell_old hnb3).trans m3) ?_
    clear hK K
    refine wpPlan_go (fun K hK => ?_)
    refine step_append_lies _ (by rfl) (.tmp 37) (.tmp 42) 27 (by rfl) B 22 i0 _ 1 8 Tryz.underlying27 hi hz0 hz1 hz2 rfl (by decide) v kids.length (kids.map ATree.ptr) (by rfl) (N3.out.at'.rowOf.alloc _) ⟨w3.heap.size, 0, none⟩ 1 1 [a.ptr] (by rfl) rfl (World.news_of_block (cs := #[a.ptr]) (t := 22) (fr := (0, 0)) (heap_alloc_new w3 _)) (by simp [ATree.ptr, Value.oneCell']) (by decide) (by unfold maxLen; omega) (by omega) (by simp; have := F3.out.size; have := HP.out.le; omega) (w3.heap.size + 1) (by simp) ?_
    intro gg cap w4 hown4 hgrow4 hat4 hlt4
    have m4 : w4.cell? ⟨nb, 3, none⟩ = some v := (hgrow4.cell_far ⟨nb, 3, none⟩ (by simp; omega) (fun e => NE.out e.symm)).trans ((cell_old hnb3).trans m3)
    have mz4 : w4.frozen? ⟨nb, 3, none⟩ = false := (hgrow4.frozen_far ⟨nb, 3, none⟩ (by simp; omega) (fun e => NE.out e.symm)).trans ((frozen_old hnb3).trans mz)
    refine hK _ _ m4 ?_
    clear hK K
    simp only [Act.put, List.setIfInBounds_toArray, List.set_cons_zero, List.set_cons_succ]
    have hfin := Got.push hlt HP.out.le N3.out (wA := w2.drew) (fun x hx => (G2.out.new x hx).2) A3.out F3.out R3.out ((Below.refl _ _).alloc (Nat.le_refl _) _) hgrow4 hown4 (by rcases hat4 with h | h; (exact .inl h); (exact .inr (by omega))) hlt4
    have FIN := Lib.hid hfin
    clear hgrow4 hown4 hat4 hlt4 hfin
    refine wpPlan_end ?_
    go_wp2
    go_roundw
    case rel =>
     refine ⟨g, acc ++ [t], vs, .slice (some ⟨gg, 0, none⟩) (kids.length + 1) cap, kids ++ [a], by omega, HQ3.out, ?_, FIN.out.2.2, FIN.out.2.1, by simp; omega, fun x hx => ?_⟩
     ·have h1 := FIN.out.1
      have h2 := G2.out.tree
      simp only [ATree.tree, Tree.mk.injEq, true_and] at h2
      rw [h2] at h1
      exact h1
     ·rcases List.mem_append.1 hx with hx | hx
      ·exact HX.out x hx
      ·simp only [List.mem_singleton] at hx; subst hx; exact HVX.out
    case measure =>
     rw [FIN.out.2.2.left, RL.out]
     exact hvl
end Go.Proofs.YthjddclmfgpcmaaGreatDoor

namespace Go.Proofs.YthjddclmfgpcmaaGreatDoor
open Go Go.RowKit
set_option maxRecDepth 100000
set_option linter.unusedVariables false

theorem least_exists {P : Nat → Prop} (h : ∃ g, P g) : ∃ m, P m ∧ ∀ k, P k → m ≤ k := by
 obtain ⟨g, hg⟩ := h
 induction g using Nat.strongRecOn with
 | ind g ih =>
   by_cases h : ∃ k, k < g ∧ P k
   ·obtain ⟨k, hk, hp⟩ := h
    exact ih k hk hp
   ·exact ⟨g, hg, fun k hk => Nat.le_of_not_lt fun hl => h ⟨k, hl, hk⟩⟩
open Classical in
/-- the least number for which it holds -/
noncomputable def least (P : Nat → Prop) : Nat := if h : ∃ g, P g then Classical.choose (least_exists h) else 0
theorem least_spec {P : Nat → Prop} (h : ∃ g, P g) : P (least P) := by
 unfold least
 rw [dif_pos h]
 exact (Classical.choose_spec (least_exists h)).1
theorem least_le {P : Nat → Prop} {g : Nat} (h : P g) : least P ≤ g := by
 unfold least
 rw [dif_pos ⟨g, h⟩]
 exact (Classical.choose_spec (least_exists ⟨g, h⟩)).2 g h
theorem failR_f (c : Int) (σ : RS) : (failR c σ).f.isNone = false := by
 unfold failR
 cases h : σ.f with
 | none => simp
 | some x => simp [h]
/-- a list handed back -/
def QList (w0 : World) (C : QC) (B : Nat) (ts : List Tree) (σ' : RS) (e : Ending) (w' : World) : Prop :=
 ∃ v kids, e = .returned v ∧ ListAt w0 B w' v kids ts ∧ QS w' C σ' ∧ RFr w0 w' C.rb ∧ ts.length ≤ 8
theorem ListAt.len {w0 w : World} {B : Nat} {v : Value} {kids : List ATree} {ts : List Tree} (L : ListAt w0 B w v kids ts) : kids.length = ts.length := by rw [← L.ks.tree, treeL_map, List.length_map]
theorem ListAt.slice {w0 w : World} {B : Nat} {v : Value} {kids : List ATree} {ts : List Tree} (L : ListAt w0 B w v kids ts) : ∃ p cp, v = .slice p ts.length cp := by
 rw [← L.len]
 rcases ownsRow_cases L.row with ⟨h1, h2⟩ | ⟨g0, cap0, h1, _⟩
 ·exact ⟨none, 0, by rw [h1, h2]⟩
 ·exact ⟨_, _, h1⟩
/-- where a list's loop stands -/
def LInv (w0 : World) (C : QC) (B d : Nat) (J : List Tree → RJob) (t : Tree) (σ' : RS) (g : Nat) (v : Value) (wr : World) : Prop :=
 ∃ (acc : List Tree) (kids : List ATree) (σ : RS), refF g (J acc) d σ = some (t, σ') ∧ ListAt w0 B wr v kids acc ∧ QS wr C σ ∧ RFr w0 wr C.rb ∧ acc.length ≤ 8

set_option maxHeartbeats 8000000 in
theorem list_q (F d : Nat) (K : FuncId) (caps : Array Value) (s : ByteArray) (J : List Tree → RJob) (item : Nat → RS → RR)
 (he : ∀ (args : Array Value) (w : World), (callFunc K args).run Tryz.prog w = .ok (.enter K args) w)
 (hstep : ∀ g acc σ, refF (g + 1) (J acc) d σ = if (σ.f.isNone && !nextR s σ) = true then (if (fullR (decide (acc.length = 8)) (commaR (decide (0 < acc.length)) σ)).f.isNone = true then bindR (item g (fullR (decide (acc.length = 8)) (commaR (decide (0 < acc.length)) σ))) fun x σ' => refF g (J (acc ++ [x])) d σ' else refF g (J acc) d (fullR (decide (acc.length = 8)) (commaR (decide (0 < acc.length)) σ))) else some (.mk 0 ByteArray.empty 0 acc, mustR s σ))
 (w0 : World) (C : QC) (B : Nat) (hr : C.rb < B) (hB : B ≤ w0.heap.size)
 (hcall : ∀ g, g < F → ∀ w σ x σ', RFr w0 w C.rb → QS w C σ → item g σ = some (x, σ') → Calls Tryz.prog K caps w (QPost w C B x σ'))
 (σ : RS) (hQ : QS w0 C σ) (t : Tree) (σ' : RS) (hp : refF F (J []) d σ = some (t, σ')) :
 Calls Tryz.prog 52 #[.pointer (some ⟨C.rb, 0, none⟩), .string s, .func (.func K) #[] caps] w0 (QList w0 C B t.kids σ') := by
 have HSTEP := Lib.hid hstep
 have HE := Lib.hid he
 have HCALL := Lib.hid hcall
 have HR := Lib.hid hr
 have HB := Lib.hid hB
 have ST := Lib.hid (show ∃ g, g ≤ F ∧ LInv w0 C B d J t σ' g (.slice none 0 0) w0 from ⟨F, Nat.le_refl _, [], [], σ, hp, ListAt.nil, hQ, RFr.refl _ _, by simp⟩)
 clear he hstep hcall hr hB hQ hp
 go_enter Tryz.func52, Tryz.ntmps52
 go_wp2_with fail
 go_loopw [7] (fun v wr => ∃ g, g ≤ F ∧ LInv w0 C B d J t σ' g v wr) (fun v wr => least fun g => g ≤ F ∧ LInv w0 C B d J t σ' g v wr)
 case atStart => exact ST.out
 case round =>
  have hI := least_spec hrel
  clear ST
  obtain ⟨g, hg⟩ : ∃ g, g = least fun g => g ≤ F ∧ LInv w0 C B d J t σ' g u7 wr := ⟨_, rfl⟩
  rw [← hg] at hI
  have HG := Lib.hid hg
  clear hg hrel
  obtain ⟨hgF, acc, kids, σ, hp, hL, hQ, hF, h8⟩ := hI
  cases g with
  | zero => simp [refF] at hp
  | succ g =>
  rw [HSTEP.out] at hp
  have HO := qok_any hQ
  have HN := qnext_any hQ s
  obtain ⟨p, cp, rfl⟩ := hL.slice
  have HL := Lib.hid hL
  have HQ := Lib.hid hQ
  have HF := Lib.hid hF
  have H8 := Lib.hid h8
  have HGF := Lib.hid hgF
  by_cases hf : σ.f.isNone = true
  rotate_left
  ·have hf : σ.f.isNone = false := Bool.eq_false_iff.2 hf
   rw [hf] at HO
   rw [if_neg (by simp [hf])] at hp
   simp only [Option.some.injEq, Prod.mk.injEq] at hp
   have HO := Lib.hid HO
   have HP := Lib.hid hp
   clear hL hQ hF h8 hgF hf hp HN
   go_wp2_with fail
   refine HO.out.mono ?_
   rintro e w1 ⟨rfl, rfl⟩
   go_wp2_with fail
   refine (qmust_any HQ.out s B HR.out (Nat.le_trans HB.out HF.out.size)).mono ?_
   rintro e w2 ⟨rfl, h2, h3⟩
   have Q2 := Lib.hid h2
   have F2 := Lib.hid h3
   clear h2 h3
   go_wp2
   go_ret
   obtain ⟨h4, h5⟩ := HP.out
   refine ⟨_, kids, rfl, ?_, by rw [← h5]; exact Q2.out, HF.out.trans F2.out, by rw [← h4]; exact H8.out⟩
   rw [← h4]
   exact HL.out.rfr HR.out F2.out
  rw [hf] at HO
  by_cases hn : nextR s σ = true
  ·rw [hn] at HN
   rw [if_neg (by simp [hn])] at hp
   simp only [Option.some.injEq, Prod.mk.injEq] at hp
   have HO := Lib.hid HO
   have HN := Lib.hid HN
   have HP := Lib.hid hp
   clear hL hQ hF h8 hgF hf hn hp
   go_wp2_with fail
   refine HO.out.mono ?_
   rintro e w1 ⟨rfl, rfl⟩
   go_wp2_with fail
   refine HN.out.mono ?_
   rintro e w1 ⟨rfl, hb1⟩
   have Q1 := Lib.hid (HQ.out.below hb1)
   have F1 := Lib.hid (RFr.below (rb := C.rb) hb1)
   clear hb1
   go_wp2_with fail
   refine (qmust_any Q1.out s B HR.out (Nat.le_trans HB.out (HF.out.trans F1.out).size)).mono ?_
   rintro e w2 ⟨rfl, h2, h3⟩
   have Q2 := Lib.hid h2
   have F2 := Lib.hid (F1.out.trans h3)
   clear h2 h3
   go_wp2
   go_ret
   obtain ⟨h4, h5⟩ := HP.out
   refine ⟨_, kids, rfl, ?_, by rw [← h5]; exact Q2.out, HF.out.trans F2.out, by rw [← h4]; exact H8.out⟩
   rw [← h4]
   exact HL.out.rfr HR.out F2.out
  have hn : nextR s σ = false := by simpa using hn
  rw [hn] at HN
  rw [if_pos (by simp [hn, hf])] at hp
  have HO := Lib.hid HO
  have HN := Lib.hid HN
  have HK := Lib.hid (hL.len)
  obtain ⟨i0, hi, hz0, hz1, hz2⟩ := info_parts Tryz.infoPtr
  clear hL hQ hF h8 hgF hn
  by_cases h0 : acc.length = 0
  ·have a0 : decide (0 < acc.length) = false := by simp [h0]
   have n8 : ((acc.length : Int) == 8) = false := by simp [h0]
   have d8 : decide (acc.length = 8) = false := by simp [h0]
   rw [a0, d8] at hp
   simp only [fullR, commaR, Bool.false_eq_true, if_false] at hp
   rw [if_pos hf] at hp
   obtain ⟨x, σ3, hit, hrest⟩ := bindR_some hp
   have IT := Lib.hid hit
   have RE := Lib.hid hrest
   have H0 := Lib.hid h0
   have HNE := Lib.hid (show acc.length ≠ 8 by omega)
   have HFF := Lib.hid hf
   clear hp hit hrest d8 h0 hf
   go_wp2_with fail
   refine HO.out.mono ?_
   rintro e w1 ⟨rfl, rfl⟩
   go_wp2_with fail
   refine HN.out.mono ?_
   rintro e w1 ⟨rfl, hb1⟩
   have Q1 := Lib.hid (HQ.out.below hb1)
   have F1 := Lib.hid (HF.out.trans (RFr.below (rb := C.rb) hb1))
   have L1 := Lib.hid (HL.out.rfr HR.out (RFr.below (rb := C.rb) hb1))
   clear hb1 HO HN HQ HF HL
   go_wp2_with fail
   have HO2 := qok_any Q1.out
   rw [HFF.out] at HO2
   refine HO2.mono ?_
   rintro e w2 ⟨rfl, rfl⟩
   go_wp2_with fail
   rw [HE.out, Oper.upon_enter]
   refine (HCALL.out g (by have := HGF.out; omega) w1 σ x σ3 F1.out Q1.out IT.out).mono ?_
   rintro e w2 ⟨a, rfl, h2, h3, h4⟩
   have A2 := Lib.hid h2
   have Q2 := Lib.hid h3
   have F2 := Lib.hid h4
   have L2 := Lib.hid (L1.out.rfr HR.out h4)
   clear h2 h3 h4 Q1
   go_wp2_with (at_builtin; go_must (refine wpList_append_lies _ rfl (.tmp 28) (.tmp 31) 27 rfl B 22 i0 _ 1 8 Tryz.underlying27 hi hz0 hz1 hz2 rfl (by decide) (.slice p acc.length cp) kids.length (kids.map ATree.ptr) rfl (L2.out.row.alloc _) ⟨w2.heap.size, 0, none⟩ 1 1 [a.ptr] rfl rfl (World.news_of_block (cs := #[a.ptr]) (t := 22) (fr := (0, 0)) (heap_alloc_new w2 _)) (by simp [ATree.ptr, Value.oneCell']) (by decide) (by have := HK.out; have := H8.out; unfold maxLen; omega) (by have := HK.out; have := H8.out; omega) (by simp; have := F1.out.size; have := F2.out.size; have := HB.out; omega) (w2.heap.size + 1) (by simp) ?_); intro gg cap w4 hown2 hgrow2 hat2 hgl2)
   have hpush := L2.out.push (wA := w1) (fun y hy => (L1.out.ks.new y hy).2) (fun y hy => (L1.out.own y hy).2.1) A2.out F1.out.size F2.out.size ((Below.refl _ _).alloc (Nat.le_refl _) _) hgrow2 hown2 (by rcases hat2 with h | h; (exact .inl h); (exact .inr (by omega))) hgl2 (F1.out.trans F2.out)
   have hinv : g ≤ F ∧ LInv w0 C B d J t σ' g (.slice (some ⟨gg, 0, none⟩) (kids.length + 1) cap) w4 :=
    ⟨by have := HGF.out; omega, acc ++ [x], kids ++ [a], σ3, RE.out, hpush.1, Q2.out.keep fun k hk => hpush.2.1 k (by have := Q2.out.rlt; omega) (fun e => by have h1 := (L2.out.own k e).1; have h2 := HR.out; have h3 := HB.out; omega), hpush.2.2.2, by have := H8.out; have := HNE.out; simp; omega⟩
   exact ⟨⟨g, hinv⟩, by rw [← HG.out]; exact Nat.lt_succ_of_le (least_le hinv)⟩
  ·have a0 : decide (0 < acc.length) = true := by simp; omega
   rw [a0] at hp
   simp only [commaR, if_true] at hp
   have H0 := Lib.hid h0
   have HFF := Lib.hid hf
   have b0 : acc.length > 0 := by omega
   by_cases h88 : acc.length = 8
   ·have n8 : ((acc.length : Int) == 8) = true := by simp [h88]
    have d8 : decide (acc.length = 8) = true := by simp [h88]
    rw [d8] at hp
    simp only [fullR, if_true] at hp
    rw [if_neg (by rw [failR_f]; decide)] at hp
    have RE := Lib.hid hp
    clear hp d8 h0 h88 hf
    go_wp2_with fail
    refine HO.out.mono ?_
    rintro e w1 ⟨rfl, rfl⟩
    go_wp2_with fail
    refine HN.out.mono ?_
    rintro e w1 ⟨rfl, hb1⟩
    have Q1 := Lib.hid (HQ.out.below hb1)
    have F1 := Lib.hid (HF.out.trans (RFr.below (rb := C.rb) hb1))
    have L1 := Lib.hid (HL.out.rfr HR.out (RFr.below (rb := C.rb) hb1))
    clear hb1 HO HN HQ HF HL
    go_wp2_with fail
    refine (qmust_any Q1.out s_comma B HR.out (Nat.le_trans HB.out F1.out.size)).mono ?_
    rintro e w2 ⟨rfl, h2, h3⟩
    have Q2 := Lib.hid h2
    have F2 := Lib.hid (F1.out.trans h3)
    have L2 := Lib.hid (L1.out.rfr HR.out h3)
    clear h2 h3 Q1 F1 L1
    go_wp2_with fail
    refine (qfail_any Q2.out 4 (by decide) B HR.out (Nat.le_trans HB.out F2.out.size)).mono ?_
    rintro e w3 ⟨a, rfl, _, h2, h3⟩
    have Q3 := Lib.hid h2
    have F3 := Lib.hid (F2.out.trans h3)
    have L3 := Lib.hid (L2.out.rfr HR.out h3)
    clear h2 h3 Q2 F2 L2
    go_wp2_with fail
    have HO2 := qok_any Q3.out
    rw [failR_f] at HO2
    refine HO2.mono ?_
    rintro e w4 ⟨rfl, rfl⟩
    clear HO2
    go_wp2
    have hinv : g ≤ F ∧ LInv w0 C B d J t σ' g (.slice p acc.length cp) w3 := ⟨by have := HGF.out; omega, acc, kids, _, RE.out, L3.out, Q3.out, F3.out, H8.out⟩
    exact ⟨⟨g, hinv⟩, by rw [← HG.out]; exact Nat.lt_succ_of_le (least_le hinv)⟩
   ·have n8 : ((acc.length : Int) == 8) = false := by simp; omega
    have d8 : decide (acc.length = 8) = false := by simp [h88]
    rw [d8] at hp
    simp only [fullR, Bool.false_eq_true, if_false] at hp
    have HNE := Lib.hid h88
    by_cases hf2 : (mustR s_comma σ).f.isNone = true
    ·rw [if_pos hf2] at hp
     obtain ⟨x, σ3, hit, hrest⟩ := bindR_some hp
     have IT := Lib.hid hit
     have RE := Lib.hid hrest
     have HF2 := Lib.hid hf2
     clear hp hit hrest d8 h0 hf h88 hf2
     go_wp2_with fail
     refine HO.out.mono ?_
     rintro e w1 ⟨rfl, rfl⟩
     go_wp2_with fail
     refine HN.out.mono ?_
     rintro e w1 ⟨rfl, hb1⟩
     have Q1 := Lib.hid (HQ.out.below hb1)
     have F1 := Lib.hid (HF.out.trans (RFr.below (rb := C.rb) hb1))
     have L1 := Lib.hid (HL.out.rfr HR.out (RFr.below (rb := C.rb) hb1))
     clear hb1 HO HN HQ HF HL
     go_wp2_with fail
     refine (qmust_any Q1.out s_comma B HR.out (Nat.le_trans HB.out F1.out.size)).mono ?_
     rintro e w1' ⟨rfl, h2, h3⟩
     replace Q1 := Lib.hid h2
     replace F1 := Lib.hid (F1.out.trans h3)
     replace L1 := Lib.hid (L1.out.rfr HR.out h3)
     clear h2 h3
     go_wp2_with fail
     have HO2 := qok_any Q1.out
     rw [HF2.out] at HO2
     refine HO2.mono ?_
     rintro e w2 ⟨rfl, rfl⟩
     clear HO2
     go_wp2_with fail
     rw [HE.out, Oper.upon_enter]
     refine (HCALL.out g (by have := HGF.out; omega) w1' _ x σ3 F1.out Q1.out IT.out).mono ?_
     rintro e w2 ⟨a, rfl, h2, h3, h4⟩
     have A2 := Lib.hid h2
     have Q2 := Lib.hid h3
     have F2 := Lib.hid h4
     have L2 := Lib.hid (L1.out.rfr HR.out h4)
     clear h2 h3 h4 Q1
     go_wp2_with (at_builtin; go_must (refine wpList_append_lies _ rfl (.tmp 28) (.tmp 31) 27 rfl B 22 i0 _ 1 8 Tryz.underlying27 hi hz0 hz1 hz2 rfl (by decide) (.slice p acc.length cp) kids.length (kids.map ATree.ptr) rfl (L2.out.row.alloc _) ⟨w2.heap.size, 0, none⟩ 1 1 [a.ptr] rfl rfl (World.news_of_block (cs := #[a.ptr]) (t := 22) (fr := (0, 0)) (heap_alloc_new w2 _)) (by simp [ATree.ptr, Value.oneCell']) (by decide) (by have := HK.out; have := H8.out; unfold maxLen; omega) (by have := HK.out; have := H8.out; omega) (by simp; have := F1.out.size; have := F2.out.size; have := HB.out; omega) (w2.heap.size + 1) (by simp) ?_); intro gg cap w4 hown2 hgrow2 hat2 hgl2)
     have hpush := L2.out.push (wA := w1') (fun y hy => (L1.out.ks.new y hy).2) (fun y hy => (L1.out.own y hy).2.1) A2.out F1.out.size F2.out.size ((Below.refl _ _).alloc (Nat.le_refl _) _) hgrow2 hown2 (by rcases hat2 with h | h; (exact .inl h); (exact .inr (by omega))) hgl2 (F1.out.trans F2.out)
     have hinv : g ≤ F ∧ LInv w0 C B d J t σ' g (.slice (some ⟨gg, 0, none⟩) (kids.length + 1) cap) w4 :=
      ⟨by have := HGF.out; omega, acc ++ [x], kids ++ [a], σ3, RE.out, hpush.1, Q2.out.keep fun k hk => hpush.2.1 k (by have := Q2.out.rlt; omega) (fun e => by have h1 := (L2.out.own k e).1; have h2 := HR.out; have h3 := HB.out; omega), hpush.2.2.2, by have := H8.out; have := HNE.out; simp; omega⟩
     exact ⟨⟨g, hinv⟩, by rw [← HG.out]; exact Nat.lt_succ_of_le (least_le hinv)⟩
    ·have hf2 : (mustR s_comma σ).f.isNone = false := Bool.eq_false_iff.2 hf2
     rw [if_neg (by simp [hf2])] at hp
     have RE := Lib.hid hp
     have HF2 := Lib.hid hf2
     clear hp d8 h0 hf h88 hf2
     go_wp2_with fail
     refine HO.out.mono ?_
     rintro e w1 ⟨rfl, rfl⟩
     go_wp2_with fail
     refine HN.out.mono ?_
     rintro e w1 ⟨rfl, hb1⟩
     have Q1 := Lib.hid (HQ.out.below hb1)
     have F1 := Lib.hid (HF.out.trans (RFr.below (rb := C.rb) hb1))
     have L1 := Lib.hid (HL.out.rfr HR.out (RFr.below (rb := C.rb) hb1))
     clear hb1 HO HN HQ HF HL
     go_wp2_with fail
     refine (qmust_any Q1.out s_comma B HR.out (Nat.le_trans HB.out F1.out.size)).mono ?_
     rintro e w3 ⟨rfl, h2, h3⟩
     have Q3 := Lib.hid h2
     have F3 := Lib.hid (F1.out.trans h3)
     have L3 := Lib.hid (L1.out.rfr HR.out h3)
     clear h2 h3 Q1 F1 L1
     go_wp2_with fail
     have HO2 := qok_any Q3.out
     rw [HF2.out] at HO2
     refine HO2.mono ?_
     rintro e w2 ⟨rfl, rfl⟩
     clear HO2
     go_wp2
     have hinv : g ≤ F ∧ LInv w0 C B d J t σ' g (.slice p acc.length cp) w3 := ⟨by have := HGF.out; omega, acc, kids, _, RE.out, L3.out, Q3.out, F3.out, H8.out⟩
     exact ⟨⟨g, hinv⟩, by rw [← HG.out]; exact Nat.lt_succ_of_le (least_le hinv)⟩
end Go.Proofs.YthjddclmfgpcmaaGreatDoor
