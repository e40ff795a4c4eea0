/- Package alpha: is it a function's body? -/
import Derived.Test.YtgmnfgljkocnpaaGreatDoorJ01
import Derived.Test.YtgmnfgljkocnpaaGreatDoorJ10
import Derived.Test.YtgmnfgljkocnpaaGreatDoorJ48
namespace Go.Proofs.YtgmnfgljkocnpaaGreatDoor
open Go Go.RowKit
set_option maxRecDepth 100000
set_option maxHeartbeats 20000000
set_option linter.unusedVariables false
def hitB (xb : Nat) (y : ATree) : Bool := Z0m y && (match y.kids with | [_, q] => q.b == xb | _ => false)
def ibG (xb : Nat) (s : Bool) (y : ATree) : Bool × Bool := (true, s || hitB xb y)
mutual
theorem Zfv (xb : Nat) : ∀ (a : ATree) (s : Bool), Z2p (ibG xb) a s = (s || a.subs.any (hitB xb))
 | .mk b v k t n ks, s => by
   rw [Z64];simp only [ibG, if_true, ATree.kids];rw [Zcw xb ks];simp only [ATree.subs, List.any_cons, Bool.or_assoc]
theorem Zcw (xb : Nat) : ∀ (l : List ATree) (s : Bool), Z14 (ibG xb) l s = (s || (Z0x l).any (hitB xb))
 | [], s => by simp [Z14, Z0x]
 | a :: l, s => by
   simp only [Z14, Z0x, List.any_append];rw [Zcw xb l, Zfv xb a, Bool.or_assoc]
end
structure OInv (w0 : World) (c : Nat) (s : Bool) (w : World) : Prop where
 cell : w.heap[c]? = some (.cells #[.bool s] 4 (0, 0))
 fr : RFr w0 w c
theorem OInv.drew {w0 w : World} {c : Nat} {s : Bool} (h : OInv w0 c s w) : OInv w0 c s w.drew := ⟨h.cell, h.fr.drew⟩
theorem OInv.set {w0 w : World} {c : Nat} {s s' : Bool} (h : OInv w0 c s w) : OInv w0 c s' (w.setCell ⟨c, 0, none⟩ (.bool s')) :=
 ⟨Zn (o := 0) _ h.cell, h.fr.trans (RFr.of_set 0 _)⟩
theorem Zim (w0 : World) (c xc xb : Nat) (hx0 : w0.heap[xc]? = some (.cells #[.pointer (some ⟨xb, 0, none⟩)] 22 (0, 0))) (hne : xc ≠ c) (B : Nat) (y : ATree) (s : Bool) (w : World) (hI : OInv w0 c s w) (hT : TreeAt w B y) (hWT : WT y.tree) (hxb : Z47 w xb) :
 Calls Tryz.prog 38 #[y.ptr, .pointer (some ⟨c, 0, none⟩), .pointer (some ⟨xc, 0, none⟩)] w fun e w' => e = .returned (.bool (ibG xb s y).1) ∧ OInv w0 c (ibG xb s y).2 w' := by
 have c0 : w.cell? ⟨c, 0, none⟩ = some (.bool s) := by simp [World.cell?, hI.cell]
 have cz : w.frozen? ⟨c, 0, none⟩ = false := by simp [World.frozen?, hI.cell]
 have hxw := (hI.fr.block xc (Array.getElem?_eq_some_iff.1 hx0).1 hne).trans hx0;have x0 : w.cell? ⟨xc, 0, none⟩ = some (.pointer (some ⟨xb, 0, none⟩)) := by simp [World.cell?, hxw]
 have k0 := hT.c0;have HI := lh hI;unfold ATree.ptr;obtain ⟨kd, hkd⟩ : ∃ kd, kd = y.kind := ⟨_, rfl⟩
 rw [← hkd] at k0;cases s with
 | true =>
   have hg : (ibG xb true y).2 = true := by simp [ibG]
   rw [hg];clear hI hT hWT hxb hx0 hne hxw hg hkd;go_enter Tryz.func38, Tryz.ntmps38
   go_wp2_with fail
   refine Z0 [(true, 0), (true, 1), (true, 2), (true, 3), (true, 4), (true, 5), (true, 6), (true, 7), (true, 8), (true, 9), (true, 10), (true, 11), (true, 12), (true, 13), (true, 14), (true, 15), (true, 16), (true, 17), (true, 18), (true, 19), (true, 20), (true, 21)] [22, 23, 24, 25] (fun W => W.cell? ⟨c, 0, none⟩ = some (.bool true)) (by kernel_rfl) (by kernel_rfl) (fun _ _ d _ _ h => by cases d <;> exact h) c0 (fun hS0 => ?_);simp only [Za, List.filterMap_cons, List.filterMap_nil, List.getElem?_toArray, List.getElem?_cons_zero, List.getElem?_cons_succ, Option.map_some]
   iterate 22
    first
     | (refine Z2 ?_ (by rfl) (fun w' hS' => ?_) ?_; rotate_left; (have s0 := hS'; go_simp; first | done | with_reducible rfl); simp only [Act.put, zA, zB, zC])
     | (refine Z1 (by rfl) ?_; simp only [Act.put, zA, zB, zC])
   refine Z5 ?_;go_wp2_with fail
   all_goals
    first
     | (go_ret; exact ⟨rfl, HI.out.drew.set⟩)
     | (rename_i h1 _; exact absurd (Option.some.inj h1) (by unfold undef; exact fun h => by cases h))
 | false =>
   by_cases hin : Z0m y = true
   ·obtain ⟨p, q, hk⟩ := hWT.two (by unfold Z0m at hin; simpa using hin);obtain ⟨gk, ck, r3, r4, r5, hck, _, hTq⟩ := hT.two hk;have hg : (ibG xb false y).2 = decide (q.b = xb) := by simp [ibG, hitB, hin, hk]; exact Bool.eq_iff_iff.2 (by simp)
    rw [hg];have heq := Z7w w.drew q.b xb hTq.cellsOf hxb;unfold Z32 at heq;have hkk : kd = 5 ∨ kd = 37 := by rw [hkd]; unfold Z0m at hin; simpa using hin
    by_cases hqb : q.b = xb
    ·rw [decide_eq_true hqb, hqb] at heq;rw [decide_eq_true hqb];rw [hqb] at r5;clear hI hT hWT hxb hx0 hne hxw hg hkd hTq hk hin hqb r4;rcases hkk with rfl | rfl
     ·go_enter Tryz.func38, Tryz.ntmps38
      go_wp2_with fail
      refine Z0 [(true, 0), (true, 1), (true, 2), (true, 3), (true, 4), (true, 5), (true, 6), (true, 7), (true, 8), (true, 9), (true, 10), (true, 11), (true, 12), (true, 13), (true, 14), (true, 15), (true, 16), (true, 17), (true, 18), (true, 19), (true, 20), (true, 21)] [22, 23, 24, 25] (fun W => W.cell? ⟨c, 0, none⟩ = some (.bool false) ∧ W.cell? ⟨y.b, 0, none⟩ = some (.int .i64 5) ∧ W.cell? ⟨y.b, 3, none⟩ = some (.slice (some ⟨gk, 0, none⟩) 2 ck) ∧ W.cell? ⟨gk, 1, none⟩ = some (.pointer (some ⟨xb, 0, none⟩)) ∧ W.cell? ⟨xc, 0, none⟩ = some (.pointer (some ⟨xb, 0, none⟩))) (by kernel_rfl) (by kernel_rfl) (fun _ _ d _ _ h => by cases d <;> exact h) ⟨c0, k0, r3, r5, x0⟩ (fun hS0 => ?_)
      simp only [Za, List.filterMap_cons, List.filterMap_nil, List.getElem?_toArray, List.getElem?_cons_zero, List.getElem?_cons_succ, Option.map_some]
      iterate 22
       first
        | (refine Z2 ?_ (by rfl) (fun w' hS' => ?_) ?_; rotate_left; (obtain ⟨s0, s1, s2, s3, s4⟩ := hS'; go_simp; first | done | with_reducible rfl); simp only [Act.put, zA, zB, zC])
        | (refine Z1 (by rfl) ?_; simp only [Act.put, zA, zB, zC])
      refine Z5 ?_;go_wp2;go_ret;exact ⟨rfl, HI.out.drew.set⟩
     ·go_enter Tryz.func38, Tryz.ntmps38
      go_wp2_with fail
      refine Z0 [(true, 0), (true, 1), (true, 2), (true, 3), (true, 4), (true, 5), (true, 6), (true, 7), (true, 8), (true, 9), (true, 10), (true, 11), (true, 12), (true, 13), (true, 14), (true, 15), (true, 16), (true, 17), (true, 18), (true, 19), (true, 20), (true, 21)] [22, 23, 24, 25] (fun W => W.cell? ⟨c, 0, none⟩ = some (.bool false) ∧ W.cell? ⟨y.b, 0, none⟩ = some (.int .i64 37) ∧ W.cell? ⟨y.b, 3, none⟩ = some (.slice (some ⟨gk, 0, none⟩) 2 ck) ∧ W.cell? ⟨gk, 1, none⟩ = some (.pointer (some ⟨xb, 0, none⟩)) ∧ W.cell? ⟨xc, 0, none⟩ = some (.pointer (some ⟨xb, 0, none⟩))) (by kernel_rfl) (by kernel_rfl) (fun _ _ d _ _ h => by cases d <;> exact h) ⟨c0, k0, r3, r5, x0⟩ (fun hS0 => ?_)
      simp only [Za, List.filterMap_cons, List.filterMap_nil, List.getElem?_toArray, List.getElem?_cons_zero, List.getElem?_cons_succ, Option.map_some]
      iterate 22
       first
        | (refine Z2 ?_ (by rfl) (fun w' hS' => ?_) ?_; rotate_left; (obtain ⟨s0, s1, s2, s3, s4⟩ := hS'; go_simp; first | done | with_reducible rfl); simp only [Act.put, zA, zB, zC])
        | (refine Z1 (by rfl) ?_; simp only [Act.put, zA, zB, zC])
      refine Z5 ?_;go_wp2;go_ret;exact ⟨rfl, HI.out.drew.set⟩
    ·rw [decide_eq_false hqb] at heq;rw [decide_eq_false hqb];clear hI hT hWT hxb hx0 hne hxw hg hkd hTq hk hin r4;rcases hkk with rfl | rfl
     ·go_enter Tryz.func38, Tryz.ntmps38
      go_wp2_with fail
      refine Z0 [(true, 0), (true, 1), (true, 2), (true, 3), (true, 4), (true, 5), (true, 6), (true, 7), (true, 8), (true, 9), (true, 10), (true, 11), (true, 12), (true, 13), (true, 14), (true, 15), (true, 16), (true, 17), (true, 18), (true, 19), (true, 20), (true, 21)] [22, 23, 24, 25] (fun W => W.cell? ⟨c, 0, none⟩ = some (.bool false) ∧ W.cell? ⟨y.b, 0, none⟩ = some (.int .i64 5) ∧ W.cell? ⟨y.b, 3, none⟩ = some (.slice (some ⟨gk, 0, none⟩) 2 ck) ∧ W.cell? ⟨gk, 1, none⟩ = some (.pointer (some ⟨q.b, 0, none⟩)) ∧ W.cell? ⟨xc, 0, none⟩ = some (.pointer (some ⟨xb, 0, none⟩))) (by kernel_rfl) (by kernel_rfl) (fun _ _ d _ _ h => by cases d <;> exact h) ⟨c0, k0, r3, r5, x0⟩ (fun hS0 => ?_)
      simp only [Za, List.filterMap_cons, List.filterMap_nil, List.getElem?_toArray, List.getElem?_cons_zero, List.getElem?_cons_succ, Option.map_some]
      iterate 22
       first
        | (refine Z2 ?_ (by rfl) (fun w' hS' => ?_) ?_; rotate_left; (obtain ⟨s0, s1, s2, s3, s4⟩ := hS'; go_simp; first | done | with_reducible rfl); simp only [Act.put, zA, zB, zC])
        | (refine Z1 (by rfl) ?_; simp only [Act.put, zA, zB, zC])
      refine Z5 ?_;go_wp2;go_ret;exact ⟨rfl, HI.out.drew.set⟩
     ·go_enter Tryz.func38, Tryz.ntmps38
      go_wp2_with fail
      refine Z0 [(true, 0), (true, 1), (true, 2), (true, 3), (true, 4), (true, 5), (true, 6), (true, 7), (true, 8), (true, 9), (true, 10), (true, 11), (true, 12), (true, 13), (true, 14), (true, 15), (true, 16), (true, 17), (true, 18), (true, 19), (true, 20), (true, 21)] [22, 23, 24, 25] (fun W => W.cell? ⟨c, 0, none⟩ = some (.bool false) ∧ W.cell? ⟨y.b, 0, none⟩ = some (.int .i64 37) ∧ W.cell? ⟨y.b, 3, none⟩ = some (.slice (some ⟨gk, 0, none⟩) 2 ck) ∧ W.cell? ⟨gk, 1, none⟩ = some (.pointer (some ⟨q.b, 0, none⟩)) ∧ W.cell? ⟨xc, 0, none⟩ = some (.pointer (some ⟨xb, 0, none⟩))) (by kernel_rfl) (by kernel_rfl) (fun _ _ d _ _ h => by cases d <;> exact h) ⟨c0, k0, r3, r5, x0⟩ (fun hS0 => ?_)
      simp only [Za, List.filterMap_cons, List.filterMap_nil, List.getElem?_toArray, List.getElem?_cons_zero, List.getElem?_cons_succ, Option.map_some]
      iterate 22
       first
        | (refine Z2 ?_ (by rfl) (fun w' hS' => ?_) ?_; rotate_left; (obtain ⟨s0, s1, s2, s3, s4⟩ := hS'; go_simp; first | done | with_reducible rfl); simp only [Act.put, zA, zB, zC])
        | (refine Z1 (by rfl) ?_; simp only [Act.put, zA, zB, zC])
      refine Z5 ?_;go_wp2;go_ret;exact ⟨rfl, HI.out.drew.set⟩
   ·have hg : (ibG xb false y).2 = false := by simp [ibG, hitB, hin]
    rw [hg];have n5 : (kd == 5) = false := by rw [hkd]; unfold Z0m at hin; simp at hin ⊢; exact hin.1
    have n37 : (kd == 37) = false := by rw [hkd]; unfold Z0m at hin; simp at hin ⊢; exact hin.2
    clear hI hT hWT hxb hx0 hne hxw hg hkd hin;go_enter Tryz.func38, Tryz.ntmps38
    go_wp2_with fail
    refine Z0 [(true, 0), (true, 1), (true, 2), (true, 3), (true, 4), (true, 5), (true, 6), (true, 7), (true, 8), (true, 9), (true, 10), (true, 11), (true, 12), (true, 13), (true, 14), (true, 15), (true, 16), (true, 17), (true, 18), (true, 19), (true, 20), (true, 21)] [22, 23, 24, 25] (fun W => W.cell? ⟨c, 0, none⟩ = some (.bool false) ∧ W.cell? ⟨y.b, 0, none⟩ = some (.int .i64 kd)) (by kernel_rfl) (by kernel_rfl) (fun _ _ d _ _ h => by cases d <;> exact h) ⟨c0, k0⟩ (fun hS0 => ?_)
    simp only [Za, List.filterMap_cons, List.filterMap_nil, List.getElem?_toArray, List.getElem?_cons_zero, List.getElem?_cons_succ, Option.map_some]
    iterate 22
     first
      | (refine Z2 ?_ (by rfl) (fun w' hS' => ?_) ?_; rotate_left; (obtain ⟨s0, s1⟩ := hS'; go_simp; first | done | with_reducible rfl); simp only [Act.put, zA, zB, zC])
      | (refine Z1 (by rfl) ?_; simp only [Act.put, zA, zB, zC])
    refine Z5 ?_;go_wp2;go_ret;exact ⟨rfl, HI.out.drew.set⟩
theorem Zd5 {a x : ATree} {n : Nat} (hd : (a.subs.map (·.b)).Nodup) (hx : a.subs[n]? = some x) : a.subs.any (hitB x.b) = true ↔ Z54 a n := by
 constructor
 ·intro h;obtain ⟨y, hy, h1⟩ := List.any_eq_true.1 h;obtain ⟨i, hi⟩ := List.getElem?_of_mem hy;unfold hitB at h1;rw [Bool.and_eq_true] at h1;obtain ⟨h2, h3⟩ := h1;split at h3
  ·rename_i p q hk;exact Zcn hd hx hi h2 hk (by simpa using h3)
  ·cases h3
 ·rintro ⟨i, y, p, q, hy, hin, hk, hn⟩;refine List.any_eq_true.2 ⟨y, List.mem_of_getElem? hy, ?_⟩;have h5 := Z8p hy hk;rw [← hn, hx] at h5;unfold hitB;rw [hin, hk, Option.some.inj h5];simp
theorem Zec (w : World) (B : Nat) (a x : ATree) (hT : TreeAt w B a) (hWT : WT a.tree) (hx : TreeAt w B x) :
 Calls Tryz.prog 16 #[a.ptr, x.ptr] w fun e w' => e = .returned (.bool (a.subs.any (hitB x.b))) ∧ Below w.heap.size w w' := by
 obtain ⟨w1, hw1⟩ : ∃ W, W = (w.alloc (.cells #[.pointer (some ⟨x.b, 0, none⟩)] 22)).alloc (.cells #[.bool false] 4) := ⟨_, rfl⟩
 have hb1 : Below w.heap.size w w1 := by rw [hw1]; exact ((Below.refl _ _).alloc (Nat.le_refl _) _).alloc (by simp) _
 have h0 : w1.heap[w.heap.size]? = some (.cells #[.pointer (some ⟨x.b, 0, none⟩)] 22 (0, 0)) := by
  rw [hw1];exact ((Go.MapKept.heap_alloc (w.alloc (.cells #[.pointer (some ⟨x.b, 0, none⟩)] 22)) (.cells #[.bool false] 4)).2 _ (by simp)).trans (Go.MapKept.heap_alloc w (.cells #[.pointer (some ⟨x.b, 0, none⟩)] 22)).1
 have h1 : w1.heap[w.heap.size + 1]? = some (.cells #[.bool false] 4 (0, 0)) := by
  rw [hw1];have := (Go.MapKept.heap_alloc (w.alloc (.cells #[.pointer (some ⟨x.b, 0, none⟩)] 22)) (.cells #[.bool false] 4)).1;simpa using this
 have bel : ∀ {s : Bool} {W : World}, OInv w1 (w.heap.size + 1) s W → Below w.heap.size w W := fun h =>
  ⟨h.fr.os.trans hb1.os, h.fr.tape.trans hb1.tape, h.fr.output.trans hb1.output, Nat.le_trans hb1.size h.fr.size, fun k hk => (h.fr.block k (Nat.lt_of_lt_of_le hk hb1.size) (by omega)).trans (hb1.block k hk)⟩
 have HW := lh (Ziq ⟨w.heap.size + 1, 0, none⟩ ⟨w.heap.size, 0, none⟩ (OInv w1 (w.heap.size + 1)) (ibG x.b) B a.many a (Nat.le_refl _) (fun s W h => hT.bel (bel h)) false
  (fun y s' hy W h => Zim w1 (w.heap.size + 1) w.heap.size x.b h0 (by omega) B y s' W h (Z57 (hT.bel (bel h)) hy.sub) (Zb4 a hWT y hy.sub) (hx.bel (bel h)).cellsOf) w1 ⟨h1, RFr.refl _ _⟩)
 rw [Zfv] at HW;simp only [Bool.false_or] at HW;have HBL := lh (fun (W : World) (h : OInv w1 (w.heap.size + 1) (a.subs.any (hitB x.b)) W) => bel h);have HW1 := lh hw1;obtain ⟨s, hs⟩ : ∃ s, s = a.subs.any (hitB x.b) := ⟨_, rfl⟩
 rw [← hs] at HW HBL ⊢;unfold ATree.ptr at HW ⊢;clear hw1 hb1 h0 h1 bel hT hWT hx hs;go_enter Tryz.func16, Tryz.ntmps16
 go_wp2_with fail
 rw [← HW1.out];refine HW.out.mono ?_;rintro e w2 ⟨rfl, hI⟩;have cc : w2.cell? ⟨w.heap.size + 1, 0, none⟩ = some (.bool s) := by simp [World.cell?, hI.cell]
 have HB := lh (HBL.out w2 hI);clear hI HW HBL;go_wp2;go_ret;exact ⟨rfl, HB.out⟩
end Go.Proofs.YtgmnfgljkocnpaaGreatDoor
