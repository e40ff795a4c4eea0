/- The document's parser: a statement; all of the reader, by the fuel. The document's Parse at any text. Package plain: Same, of two trees that are the same. The laws' both: a program, and the document's. Package where: the numbering; blocks apart. -/
import Derived.Test.YtgmnfgljkocnpaaGreatDoorJ01
import Derived.Test.YtgmnfgljkocnpaaGreatDoorJ38
import Derived.Test.YtgmnfgljkocnpaaGreatDoorJ39
import Derived.Test.YtgmnfgljkocnpaaGreatDoorJ40
import Derived.Test.YtgmnfgljkocnpaaGreatDoorJ42
import Derived.Test.YtgmnfgljkocnpaaGreatDoorJ45
import Derived.Test.YtgmnfgljkocnpaaGreatDoorJ35
import Derived.Test.YtgmnfgljkocnpaaGreatDoorJ20
import Derived.OwnWalk
import Derived.Test.YtgmnfgljkocnpaaGreatDoorJ13
namespace Go.Proofs.YtgmnfgljkocnpaaGreatDoor
open Go Go.RowKit
set_option maxRecDepth 100000
set_option maxHeartbeats 20000000
set_option linter.unusedVariables false
theorem Zja (f : Nat) (hBr : Z0y 50 (Z7x false) (.braces false) f) (hFn : ∀ s, Z0y 53 (fArg 5 s) (.func 5 s) f) (hH : Z0y 54 qd .head f) (hS2 : Z0y 55 qd .stmt2 f) (hV : Z0y 57 qd .value f) : Z0y 25 qd .stmt (f + 1) := by
 intro w C B d σ t σ' hQ hr hB hdf hp;rw [refF] at hp;by_cases c : 30 < d
 ·rw [if_pos c] at hp;obtain ⟨rfl, rfl⟩ : gT = t ∧ Z2q 4 σ = σ' := by simpa using hp
  exact Zeo w C B d σ hQ hr hB c (by omega)
 rw [if_neg c] at hp;have hd : d ≤ 30 := by omega
 by_cases n1 : Zg Zb σ = true
 ·rw [if_pos n1] at hp;exact Zcf f hBr w C B d σ t σ' hQ hr hB hd hdf n1 hp
 rw [if_neg n1] at hp;by_cases n2 : Zg Zh σ = true
 ·rw [if_pos n2] at hp;obtain ⟨rfl, rfl⟩ : Tree.mk 16 ByteArray.empty 0 [] = t ∧ advR σ = σ' := by simpa using hp
  exact Zew w C B d σ hQ hr hB hd n2
 rw [if_neg n2] at hp;by_cases n3 : Zg Z8 σ = true
 ·rw [if_pos n3] at hp;exact Za3 f hFn w C B d σ t σ' hQ hr hB hd hdf (fun s h => Z2a n3 (Ne.symm h)) n3 hp
 rw [if_neg n3] at hp;by_cases n4 : Zg s_if σ = true
 ·rw [if_pos n4] at hp;obtain ⟨x, σ1, hx, hp⟩ := Zf hp;obtain ⟨y, σ2, hy, hp⟩ := Zf hp;by_cases n5 : Zg Z5a σ2 = true
  ·rw [if_pos n5] at hp;obtain ⟨z, σ3, hz, hp⟩ := Zf hp;obtain ⟨rfl, rfl⟩ : Tree.mk 7 ByteArray.empty 0 [x, y, z] = t ∧ σ3 = σ' := by simpa using hp
   exact Zch f hH hS2 x y z σ1 σ2 w C B d σ _ _ hQ hr hB hd hdf (fun s h => Z2a n4 (Ne.symm h)) n4 rfl n5 hx hy hz
  ·rw [if_neg n5] at hp;obtain ⟨rfl, rfl⟩ : Tree.mk 7 ByteArray.empty 0 [x, y] = t ∧ σ2 = σ' := by simpa using hp
   exact Zi4 f hH hS2 x y σ1 w C B d σ _ _ hQ hr hB hd hdf (fun s h => Z2a n4 (Ne.symm h)) n4 rfl (by simpa using n5) hx hy
 rw [if_neg n4] at hp;by_cases n5 : (Zg Zp σ || Zg Z01 σ) = true
 ·rw [if_pos n5] at hp;obtain ⟨x, σ1, hx, hp⟩ := Zf hp;obtain ⟨y, σ2, hy, hp⟩ := Zf hp;by_cases n6 : Zg Z01 σ = true
  ·rw [if_pos n6] at hp;obtain ⟨rfl, rfl⟩ : Tree.mk 9 ByteArray.empty 0 [x, y] = t ∧ σ2 = σ' := by simpa using hp
   exact Zf9 f hH hS2 x y σ1 w C B d σ _ _ hQ hr hB hd hdf (fun s h => Z2a n6 (Ne.symm h)) n6 rfl hx hy
  ·rw [if_neg n6] at hp;obtain ⟨rfl, rfl⟩ : Tree.mk 8 ByteArray.empty 0 [x, y] = t ∧ σ2 = σ' := by simpa using hp
   have n7 : Zg Zp σ = true := by
    simp only [Bool.or_eq_true] at n5;exact n5.resolve_right n6
   exact Zdg f hH hS2 x y σ1 w C B d σ _ _ hQ hr hB hd hdf (fun s h => Z2a n7 (Ne.symm h)) n7 rfl hx hy
 rw [if_neg n5] at hp;simp only [Bool.or_eq_true, not_or] at n5;by_cases n7 : Zg Z1i σ = true
 ·rw [if_pos n7] at hp;have hsee : ∀ s : ByteArray, s ≠ Z1i → Zg s σ = false := fun s h => Z2a n7 (Ne.symm h);obtain ⟨b, σ1, hb, hp⟩ := Zf hp;by_cases m1 : Zg Z23 σ1 = true
  ·simp only [if_pos m1] at hp;obtain ⟨c', σ2, hc, hp⟩ := Zf hp;by_cases m2 : Zg Zz σ2 = true
   ·simp only [if_pos m2] at hp;obtain ⟨e', σ3, he, hp⟩ := Zf hp;obtain ⟨rfl, rfl⟩ : Tree.mk 12 ByteArray.empty 0 [b, .mk 13 (Zj (Z08 Z05 (advR σ1))).1 0 [c'], .mk 14 ByteArray.empty 0 [e']] = t ∧ σ3 = σ' := by simpa [tryF] using hp
    exact Ze7 f hBr b c' e' σ1 σ2 w C B d σ _ _ hQ hr hB hd hdf hsee n7 rfl m1 m2 hb hc he
   ·simp only [if_neg m2] at hp;obtain ⟨rfl, rfl⟩ : Tree.mk 12 ByteArray.empty 0 [b, .mk 13 (Zj (Z08 Z05 (advR σ1))).1 0 [c']] = t ∧ σ2 = σ' := by simpa [tryF] using hp
    exact Zef f hBr b c' σ1 w C B d σ _ _ hQ hr hB hd hdf hsee n7 rfl m1 (by simpa using m2) hb hc
  ·simp only [if_neg m1] at hp;by_cases m2 : Zg Zz σ1 = true
   ·simp only [if_pos m2] at hp;obtain ⟨e', σ3, he, hp⟩ := Zf hp;obtain ⟨rfl, rfl⟩ : Tree.mk 12 ByteArray.empty 0 [b, .mk 14 ByteArray.empty 0 [e']] = t ∧ σ3 = σ' := by simpa [tryF] using hp
    exact Ze2 f hBr b e' σ1 w C B d σ _ _ hQ hr hB hd hdf hsee n7 rfl (by simpa using m1) m2 hb he
   ·simp only [if_neg m2] at hp;obtain ⟨rfl, rfl⟩ : Tree.mk 12 ByteArray.empty 0 [b] = t ∧ Z2q 3 σ1 = σ' := by simpa [tryF] using hp
    exact Zds f hBr b σ1 w C B d σ _ _ hQ hr hB hd hdf hsee n7 rfl (by simpa using m1) (by simpa using m2) rfl hb
 rw [if_neg n7] at hp;by_cases n8 : Zg Z19 σ = true
 ·have hdk : Z3t σ = 2 := by simp [Z3t, n8]
  have hsee : ∀ s : ByteArray, s ≠ Z19 → Zg s σ = false := fun s h => Z2a n8 (Ne.symm h);rw [hdk, if_pos (by decide)] at hp;have hmq : Z1p 2 (Zj (advR σ)).2 = (Zj (advR σ)).2 := by simp [Z1p]
  rw [hmq] at hp;exact Zh4 f hV w C B d σ t σ' hQ hr hB hd hdf hsee n8 hp
 by_cases n9 : Zg Z1f σ = true
 ·have hdk : Z3t σ = 3 := by simp [Z3t, n8, n9]
  have hsee : ∀ s : ByteArray, s ≠ Z1f → Zg s σ = false := fun s h => Z2a n9 (Ne.symm h);rw [hdk, if_pos (by decide)] at hp;have hmq : Z1p 3 (Zj (advR σ)).2 = (Zj (advR σ)).2 := by simp [Z1p]
  rw [hmq] at hp;exact Zhq f hV w C B d σ t σ' hQ hr hB hd hdf hsee n9 hp
 by_cases n10 : Zg Z02 σ = true
 ·have hdk : Z3t σ = 4 := by simp [Z3t, n8, n9, n10]
  have hsee : ∀ s : ByteArray, s ≠ Z02 → Zg s σ = false := fun s h => Z2a n10 (Ne.symm h);rw [hdk, if_pos (by decide)] at hp;exact Zdi f hV w C B d σ t σ' hQ hr hB hd hdf hsee n10 hp
 by_cases n11 : Zg Z0b σ = true
 ·have hdk : ¬ Z3t σ ≠ 0 := by simp [Z3t, n8, n9, n10]
  rw [if_neg hdk, if_pos n11] at hp;have hsee : ∀ s : ByteArray, s ≠ Z0b → Zg s σ = false := fun s h => Z2a n11 (Ne.symm h);by_cases m1 : Zg Zh (advR σ) = true
  ·rw [if_pos m1] at hp;obtain ⟨rfl, rfl⟩ : Tree.mk 10 ByteArray.empty 0 [] = t ∧ Z08 Zh (advR σ) = σ' := by simpa using hp
   exact Zb6 f w C B d σ _ _ hQ hr hB hd hdf hsee n11 rfl rfl m1
  ·rw [if_neg m1] at hp;obtain ⟨x, σ1, hx, hp⟩ := Zf hp;obtain ⟨rfl, rfl⟩ : Tree.mk 10 ByteArray.empty 0 [x] = t ∧ Z08 Zh σ1 = σ' := by simpa using hp
   exact Zaj f hV x σ1 w C B d σ _ _ hQ hr hB hd hdf hsee n11 rfl rfl (by simpa using m1) hx
 have hdk : ¬ Z3t σ ≠ 0 := by simp [Z3t, n8, n9, n10]
 rw [if_neg hdk, if_neg n11] at hp;by_cases n12 : Zg Z1k σ = true
 ·rw [if_pos n12] at hp;obtain ⟨x, σ1, hx, hp⟩ := Zf hp;obtain ⟨rfl, rfl⟩ : Tree.mk 11 ByteArray.empty 0 [x] = t ∧ Z08 Zh σ1 = σ' := by simpa using hp
  exact Zdd f hV x σ1 w C B d σ _ _ hQ hr hB hd hdf (fun s h => Z2a n12 (Ne.symm h)) n12 rfl rfl hx
 rw [if_neg n12] at hp;obtain ⟨x, σ1, hx, hp⟩ := Zf hp;obtain ⟨rfl, rfl⟩ : Tree.mk 15 ByteArray.empty 0 [x] = t ∧ Z08 Zh σ1 = σ' := by simpa using hp
 refine Zg6 f hV x σ1 w C B d σ _ _ hQ hr hB hd hdf (fun s h => ?_) rfl rfl hx;simp only [List.mem_cons, List.not_mem_nil, or_false] at h;rcases h with rfl | rfl | rfl | rfl | rfl | rfl | rfl | rfl | rfl | rfl | rfl | rfl;·simpa using n1
 ·simpa using n2
 ·simpa using n3
 ·simpa using n4
 ·simpa using n5.1
 ·simpa using n5.2
 ·simpa using n7
 ·simpa using n8
 ·simpa using n9
 ·simpa using n10
 ·simpa using n11
 ·simpa using n12
structure AllQ (f : Nat) : Prop where
 br : ∀ b, Z0y 50 (Z7x b) (.braces b) f
 st : Z0y 25 qd .stmt f
 st2 : Z0y 55 qd .stmt2 f
 hd : Z0y 54 qd .head f
 fn : ∀ k s, Z0y 53 (fArg k s) (.func k s) f
 va : Z0y 57 qd .value f
 si : Z0y 98 qd .single f
 fi : Z0y 107 qd .first f
theorem Z0y.zero (F : FuncId) (args : Nat → Nat → Array Value) (job : RJob) : Z0y F args job 0 := by
 intro w C B d σ t σ' _ _ _ _ hp;rw [refF] at hp;cases hp
theorem Zjy (f : Nat) : AllQ f := by
 induction f using Nat.strongRecOn with
 | _ f ih =>
 cases f with
 | zero => exact ⟨fun b => .zero _ _ _, .zero _ _ _, .zero _ _ _, .zero _ _ _, fun k s => .zero _ _ _, .zero _ _ _, .zero _ _ _, .zero _ _ _⟩
 | succ f =>
   have h := ih f (by omega);refine ⟨fun b => ?_, Zja f (h.br false) (fun s => h.fn 5 s) h.hd h.st2 h.va, Zij f h.st, Zjh f h.va, fun k s => Zjg f k s (h.br true), ?_, ?_, ?_⟩
   ·cases b with
    | false => exact Z99 f fun g hg => (ih g (by omega)).st
    | true => exact Za0 f fun g hg => (ih g (by omega)).st
   ·exact Zif f (Zfc f (fun g hg => (ih g (by omega)).si) 0 (by omega) f (by omega)) h.va
   ·exact Zhb f h.si h.fi fun g hg => (ih g (by omega)).va
   ·exact Zip f h.hd (fun g hg => (ih g (by omega)).va) fun s => h.fn 37 s
theorem Zbv (text : ByteArray) (j : Nat) (e : Int × Nat) (h : Z13 text j = .error e) : e.1 ≠ 0 := by
 unfold Z13 at h;simp only at h;split at h
 ·split at h;·cases h
  ·split at h;·cases h; simp
   ·cases h
 ·split at h
  ·split at h;·cases h; simp
   ·split at h;·cases h; simp
    ·cases h
  ·split at h
   ·split at h;·cases h; simp
    ·split at h;·cases h; simp
     ·cases h
   ·split at h;·cases h; simp
    ·cases h
theorem Zde (text : ByteArray) : ∀ (f i : Nat) (acc : List Tok) (e : Int × Nat), lexF text f i acc = .error e → e.1 ≠ 0 := by
 intro f;induction f with
 | zero => intro i acc e h; simp [lexF] at h
 | succ f ih =>
   intro i acc e h;simp only [lexF] at h;split at h;·cases h
   ·split at h
    ·rename_i e' ht;cases h;exact Zbv text _ _ ht
    ·exact ih _ _ _ h
theorem Zas (w : World) (text : ByteArray) (hm : 3000 < text.size) :
 Calls Tryz.prog 23 #[.string text] w fun e w' => e = .returned (.tuple #[.slice none 0 0, .agg #[.int .i64 4, .int .i64 (-1)]]) ∧ Below w.heap.size w w' := by
 have hmI : (3000 : Int) < (text.size : Int) := by omega
 have hst : RMid w (w.alloc (.cells #[.int .i64 0, .int .i64 0] 34)) (.slice none 0 0) [] := ⟨(Go.MapKept.heap_alloc w _).1, (Below.refl _ _).alloc (Nat.le_refl _) _, World.ownsRow_nil _ _ _ _⟩
 have ST := lh hst;have HB := lh (Zax (w.alloc (.cells #[.int .i64 0, .int .i64 0] 34)) 4);clear hst hm;go_enter Tryz.func23, Tryz.ntmps23
 go_wp2_with fail
 refine HB.out.mono ?_;rintro e w1 ⟨rfl, hb⟩;have HM := lh (ST.out.on hb);have z0 : w1.cell? ⟨w.heap.size, 0, none⟩ = some (.int .i64 0) := by simp [World.cell?, HM.out.blk]
 have z1 : w1.cell? ⟨w.heap.size, 1, none⟩ = some (.int .i64 0) := by simp [World.cell?, HM.out.blk]
 have y0 : w1.frozen? ⟨w.heap.size, 0, none⟩ = false := by simp [World.frozen?, HM.out.blk]
 have y1 : w1.frozen? ⟨w.heap.size, 1, none⟩ = false := by simp [World.frozen?, HM.out.blk]
 have EP := lh (HM.out.put (.int .i64 4) (.int .i64 (-1)));have EF := lh (HM.out.fin (.int .i64 4) (.int .i64 (-1)));clear hb HB;go_wp2;refine bodyPost_ret (rres (cb := w.heap.size) rfl rfl EP.out.1 EP.out.2) rfl ?_;exact ⟨rfl, EF.out.2⟩
theorem Z9k (w : World) (text : ByteArray) (c p : Int) (hc : c ≠ 0)
 (HC : ∀ w0, Below w.heap.size w w0 → Calls Tryz.prog 23 #[.string text] w0 fun e w' => e = .returned (.tuple #[.slice none 0 0, .agg #[.int .i64 c, .int .i64 p]]) ∧ Below w0.heap.size w0 w') :
 Calls Tryz.prog 10 #[.string text] w (Z7j w (.error (c, p))) := by
 obtain ⟨w0, hw0⟩ : ∃ w0, w0 = w.alloc (.cells #[.int .i64 0, .int .i64 0] 34) := ⟨_, rfl⟩
 have hal : Below w.heap.size w w0 := by rw [hw0]; exact (Below.refl _ _).alloc (Nat.le_refl _) _
 have hs0 : w0.heap.size = w.heap.size + 1 := by rw [hw0]; simp
 have hA0 : w0.heap[w.heap.size]? = some (.cells #[.int .i64 0, .int .i64 0] 34 (0, 0)) := by rw [hw0]; exact heap_alloc_new _ _
 have HT := lh (HC w0 hal);have nc : (c != 0) = true := by simpa using hc
 have HCC := lh hc;have HAL := lh hal;have HS0 := lh hs0;have HA0 := lh hA0;have HW0 := lh hw0;clear hw0 hal hs0 hA0 HC hc;go_enter Tryz.func10, Tryz.ntmps10
 go_wp2_with fail
 rw [← HW0.out];refine HT.out.mono ?_;rintro e w1 ⟨rfl, hB⟩;obtain ⟨ab, hab⟩ : ∃ b, b = w.heap.size := ⟨_, rfl⟩
 have hA1 : w1.heap[ab]? = some (.cells #[.int .i64 0, .int .i64 0] 34 (0, 0)) := by rw [hab]; exact (hB.block w.heap.size (by rw [HS0.out]; omega)).trans HA0.out
 obtain ⟨w2, hw2⟩ : ∃ w2, w2 = w1.alloc (.cells #[.int .i64 c, .int .i64 p] 34) := ⟨_, rfl⟩
 have h12 : Below w1.heap.size w1 w2 := by rw [hw2]; exact (Below.refl _ _).alloc (Nat.le_refl _) _
 have hf2 : w2.heap[w1.heap.size]? = some (.cells #[.int .i64 c, .int .i64 p] 34 (0, 0)) := by rw [hw2]; exact heap_alloc_new _ _
 have hA2 : w2.heap[ab]? = some (.cells #[.int .i64 0, .int .i64 0] 34 (0, 0)) := (h12.block ab (Array.getElem?_eq_some_iff.1 hA1).1).trans hA1;have f0 : w2.cell? ⟨w1.heap.size, 0, none⟩ = some (.int .i64 c) := by simp [World.cell?, hf2]
 have f1 : w2.cell? ⟨w1.heap.size, 1, none⟩ = some (.int .i64 p) := by simp [World.cell?, hf2]
 have x0 : w2.cell? ⟨ab, 0, none⟩ = some (.int .i64 0) := by simp [World.cell?, hA2]
 have x1 : w2.cell? ⟨ab, 1, none⟩ = some (.int .i64 0) := by simp [World.cell?, hA2]
 have xz0 : w2.frozen? ⟨ab, 0, none⟩ = false := by simp [World.frozen?, hA2]
 have xz1 : w2.frozen? ⟨ab, 1, none⟩ = false := by simp [World.frozen?, hA2]
 have HA2 := lh hA2;have HW2 := lh hw2;have HAB := lh hab;have BEL := lh ((HAL.out.trans (hB.mono HAL.out.size)).trans (h12.mono (by have := HS0.out; have := hB.size; omega)));clear hB hA1 hw2 h12 hf2 hA2 hab HT;go_wp2_with fail
 rw [← HW2.out, ← HAB.out];refine Z0 [(true, 0), (true, 1)] [2] (fun W => W.cell? ⟨w1.heap.size, 0, none⟩ = some (.int .i64 c) ∧ W.cell? ⟨w1.heap.size, 1, none⟩ = some (.int .i64 p)) (by kernel_rfl) (by kernel_rfl) (fun _ _ d _ _ h => by cases d <;> exact h) ⟨f0, f1⟩ (fun hS0 => ?_);simp only [Za, List.filterMap_cons, List.filterMap_nil, List.getElem?_toArray, List.getElem?_cons_zero, List.getElem?_cons_succ, Option.map_some]
 iterate 2
  first
   | (refine Z2 ?_ (by rfl) (fun w' hS' => ?_) ?_; rotate_left; (obtain ⟨s0, s1⟩ := hS'; go_simp; first | done | with_reducible rfl); simp only [Act.put, zA, zB, zC])
   | (refine Z1 (by rfl) ?_; simp only [Act.put, zA, zB, zC])
 refine Z5 ?_;go_wp2;have hput := put2 HA2.out (.int .i64 c) (.int .i64 p);refine bodyPost_ret (Zhy (cb := ab) (v := .pointer none) rfl rfl hput.1 hput.2) rfl ?_;have h1 := (BEL.out.setCell (p := ⟨ab, 0, none⟩) (by rw [HAB.out]; exact Nat.le_refl _) (.int .i64 c)).setCell (p := ⟨ab, 1, none⟩) (by rw [HAB.out]; exact Nat.le_refl _) (.int .i64 p);exact ⟨by first | exact h1 | exact h1.drew, HCC.out, rfl⟩
theorem Zdm (w : World) (text : ByteArray) (hW : Z68 w) (hF : Z69 w) :
 Calls Tryz.prog 10 #[.string text] w (Z7j w (Z0n text)) := by
 by_cases hm : 3000 < text.size
 ·have e : Z0n text = .error (4, -1) := by unfold Z0n; rw [if_pos hm]
  rw [e];exact Z9k w text 4 (-1) (by decide) fun w0 _ => Zas w0 text hm
 ·cases ht : Z5m text with
  | ok ts => exact Zc2 (fun g => (Zjy g).st) w text (by omega) hW hF ts ht
  | error x =>
    obtain ⟨c, p⟩ := x;have e : Z0n text = .error (c, (p : Int)) := by unfold Z0n; rw [if_neg hm, ht]
    rw [e];refine Z9k w text c p (Zde text _ _ _ (c, p) ht) fun w0 hb => ?_;have HC := Z8u w0 text (by omega) (hW.below hb) (hF.below hb);rw [ht] at HC;exact HC
theorem Z3k {a b : ATree} (h : a.tree = b.tree) : a.kind = b.kind ∧ a.text = b.text ∧ a.n = b.n ∧ Z10 a.kids = Z10 b.kids := by
 cases a; cases b;simp only [ATree.tree, Tree.mk.injEq] at h;exact h
theorem Z88 {l m : List ATree} (h : Z10 l = Z10 m) : l.length = m.length := by
 have := congrArg List.length h;rwa [Z2d, Z2d, List.length_map, List.length_map] at this
theorem Zh6 {l m : List ATree} {k : Nat} {x y : ATree} (h : Z10 l = Z10 m) (hx : l[k]? = some x) (hy : m[k]? = some y) : x.tree = y.tree := by
 rw [Z2d, Z2d] at h;have := congrArg (fun r => r[k]?) h;simp only [List.getElem?_map, hx, hy, Option.map_some, Option.some.injEq] at this;exact this
theorem Zct (n0 : Nat) : ∀ (a b : ATree), a.many ≤ n0 → a.many ≤ 100000 → a.tree = b.tree → ∀ (w : World) (B1 B2 : Nat), TreeAt w B1 a → TreeAt w B2 b →
 Calls Tryz.prog 8 #[a.ptr, b.ptr] w fun e w' => e = .returned (.bool true) ∧ Below w.heap.size w w' := by
 induction n0 with
 | zero => intro a b h; cases a; simp [ATree.many] at h
 | succ n0 ih =>
 intro a b hn hmx hab w B1 B2 hT1 hT2;have HIH := lh ih;obtain ⟨e1, e2, e3, e4⟩ := Z3k hab;have e5 := Z88 e4;obtain ⟨p, cp, hv, hge, hgm⟩ := hT1.vOf;obtain ⟨q, cq, hw, hhe, hhm⟩ := hT2.vOf;have a0 := hT1.c0;have a1 := hT1.c1;have a3 := hT1.c3;have b0 := hT2.c0;have b1 := hT2.c1;have b3 := hT2.c3;have a2 : w.cell? ⟨a.b, 2, none⟩ = some (.int .i64 a.n) := by simp [World.cell?, hT1.blkOf]
 have b2 : w.cell? ⟨b.b, 2, none⟩ = some (.int .i64 b.n) := by simp [World.cell?, hT2.blkOf]
 rw [← e1] at b0;rw [← e2] at b1;rw [← e3] at b2;rw [hv] at a3;rw [hw, ← e5] at b3;rw [← e5] at hhe;have hkm := Z24 a;have hlen : a.kids.length ≤ 100000 := by omega
 have HT1 := lh hT1;have HT2 := lh hT2;have HV := lh hv;have HW := lh hw;have HE4 := lh e4;have HNN := lh hn;have HMX := lh hmx;unfold ATree.ptr;obtain ⟨n, hnn⟩ : ∃ n, n = a.kids.length := ⟨_, rfl⟩
 rw [← hnn] at a3 b3 hge hhe hlen e5;have HN := lh hnn;have HN2 := lh e5;obtain ⟨kd, hkd⟩ : ∃ kd, kd = a.kind := ⟨_, rfl⟩
 obtain ⟨tx, htx⟩ : ∃ tx, tx = a.text := ⟨_, rfl⟩
 obtain ⟨nn, hnv⟩ : ∃ nn, nn = a.n := ⟨_, rfl⟩
 rw [← hkd] at a0 b0;rw [← htx] at a1 b1;rw [← hnv] at a2 b2;have hkk : (kd == kd) = true := beq_self_eq_true _;have htt : (tx.toList == tx.toList) = true := beq_self_eq_true _;have hvv : (nn == nn) = true := beq_self_eq_true _;have hll : ((n : Int) == (n : Int)) = true := beq_self_eq_true _;clear hab hn hmx e1 e2 e3 e4 e5 hv hw hkm hnn hkd htx hnv hT1 hT2 ih;go_enter Tryz.func8, Tryz.ntmps8
 go_wp2_with fail
 refine Z0 [(true, 0), (true, 1), (true, 2), (true, 3), (true, 4), (true, 5), (true, 6), (true, 7), (true, 8), (true, 9), (true, 10), (true, 11), (true, 12), (true, 13), (true, 14), (true, 15), (true, 16), (true, 17), (true, 18), (true, 19), (true, 20), (true, 21), (true, 22), (true, 23), (true, 24), (true, 25), (true, 26), (true, 27), (true, 28), (true, 29), (true, 30), (true, 31), (true, 32), (true, 33), (true, 34), (true, 35), (true, 36), (true, 37), (true, 38), (true, 39), (true, 40), (true, 41)] [42, 43] (fun W => W.cell? ⟨a.b, 0, none⟩ = some (.int .i64 kd) ∧ W.cell? ⟨b.b, 0, none⟩ = some (.int .i64 kd) ∧ W.cell? ⟨a.b, 1, none⟩ = some (.string tx) ∧ W.cell? ⟨b.b, 1, none⟩ = some (.string tx) ∧ W.cell? ⟨a.b, 2, none⟩ = some (.int .i64 nn) ∧ W.cell? ⟨b.b, 2, none⟩ = some (.int .i64 nn) ∧ W.cell? ⟨a.b, 3, none⟩ = some (.slice p n cp) ∧ W.cell? ⟨b.b, 3, none⟩ = some (.slice q n cq)) (by kernel_rfl) (by kernel_rfl) (fun _ _ d _ _ h => by cases d <;> exact h) ⟨a0, b0, a1, b1, a2, b2, a3, b3⟩ (fun hS0 => ?_)
 simp only [Za, List.filterMap_cons, List.filterMap_nil, List.getElem?_toArray, List.getElem?_cons_zero, List.getElem?_cons_succ, Option.map_some]
 iterate 42
  first
   | (refine Z2 ?_ (by rfl) (fun w' hS' => ?_) ?_; rotate_left; (obtain ⟨s0, s1, s2, s3, s4, s5, s6, s7⟩ := hS'; go_simp; first | done | with_reducible rfl); simp only [Act.put, zA, zB, zC])
   | (refine Z1 (by rfl) ?_; simp only [Act.put, zA, zB, zC])
 refine Z5 ?_;go_wp2_with fail
 go_loopw [64] (fun i wr => ∃ (k : Nat), k ≤ n ∧ i = .int .i64 k ∧ Hid (Below w.heap.size w wr)) (fun i _ => n - (intOf i).toNat)
 case atStart => exact ⟨0, Nat.zero_le _, rfl, lh (by repeat (first | exact Below.refl _ _ | refine Below.drew ?_))⟩
 case round =>
  obtain ⟨k, hk, rfl, HB⟩ := hrel;by_cases hkn : k < n
  ·obtain ⟨x, hx⟩ : ∃ x, a.kids[k]? = some x := ⟨_, List.getElem?_eq_getElem (by rw [← HN.out]; exact hkn)⟩
   obtain ⟨y, hy⟩ : ∃ y, b.kids[k]? = some y := ⟨_, List.getElem?_eq_getElem (by rw [← HN2.out]; exact hkn)⟩
   have hTa := HT1.out.bel HB.out;have hTb := HT2.out.bel HB.out;have hra := hTa.rowOf;have hrb := hTb.rowOf;rcases Zc hra with ⟨_, h2⟩ | ⟨g0, cap0, hv0, _⟩;·rw [← HN.out] at h2; omega
   rcases Zc hrb with ⟨_, h2⟩ | ⟨g1, cap1, hv1, _⟩;·rw [← HN2.out] at h2; omega
   have hp : p = some ⟨g0, 0, none⟩ := by
    have := HV.out.symm.trans hv0;simp only [Value.slice.injEq] at this;exact this.1
   have hq : q = some ⟨g1, 0, none⟩ := by
    have := HW.out.symm.trans hv1;simp only [Value.slice.injEq] at this;exact this.1
   subst hp hq;have cx := Zo hra (g := g0) (by rw [hv0]; rfl) (i := k) (x := x.ptr) (by rw [List.getElem?_map, hx]; rfl);have cy := Zo hrb (g := g1) (by rw [hv1]; rfl) (i := k) (x := y.ptr) (by rw [List.getElem?_map, hy]; rfl);unfold ATree.ptr at cx cy;have j3 : wr.cell? ⟨a.b, 3, none⟩ = some (.slice (some ⟨g0, 0, none⟩) n cp) := (World.cell?_of_block (HB.out.block a.b HT1.out.lt)).trans a3;have l3 : wr.cell? ⟨b.b, 3, none⟩ = some (.slice (some ⟨g1, 0, none⟩) n cq) := (World.cell?_of_block (HB.out.block b.b HT2.out.lt)).trans b3;have hxm := Z3n (List.mem_of_getElem? hx)
   have HC := lh (fun (W : World) (hW : Below wr.heap.size wr W) => HIH.out x y (by have := HNN.out; omega) (by have := HMX.out; omega) (Zh6 HE4.out hx hy) W B1 B2 ((hTa.kid (List.mem_of_getElem? hx)).bel hW) ((hTb.kid (List.mem_of_getElem? hy)).bel hW));unfold ATree.ptr at HC;clear hTa hTb hra hrb hv0 hv1 hx hy hxm a0 a1 a2 a3 b0 b1 b2 b3;go_wp2_with fail
   refine Z0 [(true, 0), (true, 1), (true, 2), (true, 3), (true, 4), (true, 5), (true, 6), (true, 7), (true, 8), (true, 9), (true, 10), (true, 11), (true, 12), (true, 13)] [14, 15] (fun W => W.cell? ⟨a.b, 3, none⟩ = some (.slice (some ⟨g0, 0, none⟩) n cp) ∧ W.cell? ⟨b.b, 3, none⟩ = some (.slice (some ⟨g1, 0, none⟩) n cq) ∧ W.cell? ⟨g0, k, none⟩ = some (.pointer (some ⟨x.b, 0, none⟩)) ∧ W.cell? ⟨g1, k, none⟩ = some (.pointer (some ⟨y.b, 0, none⟩))) (by kernel_rfl) (by kernel_rfl) (fun _ _ d _ _ h => by cases d <;> exact h) ⟨j3, l3, cx, cy⟩ (fun hS0 => ?_)
   simp only [Za, List.filterMap_cons, List.filterMap_nil, List.getElem?_toArray, List.getElem?_cons_zero, List.getElem?_cons_succ, Option.map_some]
   iterate 14
    first
     | (refine Z2 ?_ (by rfl) (fun w' hS' => ?_) ?_; rotate_left; (obtain ⟨s0, s1, s2, s3⟩ := hS'; go_simp; first | done | with_reducible rfl); simp only [Act.put, zA, zB, zC])
     | (refine Z1 (by rfl) ?_; simp only [Act.put, zA, zB, zC])
   refine Z5 ?_;go_wp2_with fail
   refine (HC.out _ (by repeat (first | exact Below.refl _ _ | refine Below.drew ?_))).mono ?_;rintro e w1 ⟨rfl, hb1⟩;have HB1 := lh (show Below w.heap.size w w1 from HB.out.trans (Below.mono (show Below wr.heap.size wr w1 from ((Below.refl wr.heap.size wr).drew).trans hb1) HB.out.size));clear hb1 HC;go_wp2;go_roundw
   case rel => exact ⟨k + 1, by omega, by go_num, HB1⟩
   case measure => simp [intOf]; omega
  ·have hk2 : k = n := by omega
   subst hk2;go_wp2;go_ret;exact ⟨rfl, HB.out⟩
theorem Z6x {text : ByteArray} {t : Tree} (h : Z0n text = .ok t) : t.many ≤ 1500 := by
 unfold Z0n at h;split at h;·cases h
 ·split at h;·cases h
  ·split at h;·cases h
   ·cases h
   ·split at h;·cases h
    ·have e := by simpa using h
     subst e;omega
theorem Got.belowG {w0 w w' : World} {B : Nat} {a : ATree} {t : Tree} (G : Got w0 B w a t) (h : Below w.heap.size w w') : Got w0 B w' a t :=
 ⟨G.tree, G.at'.bel h, G.nodup, fun x hx => ⟨(G.new x hx).1, Nat.lt_of_lt_of_le (G.new x hx).2 h.size⟩⟩
theorem Got.preG {w0 w1 w : World} {B B' : Nat} {a : ATree} {t : Tree} (G : Got w1 B w a t) (h : w0.heap.size ≤ w1.heap.size) (hB : B' ≤ B) : Got w0 B' w a t :=
 ⟨G.tree, G.at'.base hB, G.nodup, fun x hx => ⟨Nat.le_trans h (G.new x hx).1, (G.new x hx).2⟩⟩
theorem Z3e.belowL {w w' : World} (h : Z3e w w.heap.size) (hB : Below w.heap.size w w') : Z3e w' w'.heap.size :=
 Z3e.mono (h.keep (w' := w') fun k hk => hB.block k hk) hB.size
def Zh9 (w : World) (r : Except (Int × Int) Tree) (e : Ending) (w' : World) : Prop :=
 Below w.heap.size w w' ∧ match r with
 | .ok t => ∃ a b, e = .returned (.tuple #[a.ptr, b.ptr, .bool true]) ∧ Got w w.heap.size w' a t ∧ Got w w.heap.size w' b t
 | .error _ => e = .returned (.tuple #[.pointer none, .pointer none, .bool false])
theorem Zgt (w : World) (text : ByteArray) (hW : Words w) (hL : Z3e w w.heap.size) (hR : Z68 w) (hF : Z69 w) :
 Calls Tryz.prog 4 #[.string text] w (Zh9 w (Z0n text)) := by
 by_cases hm : 3000 < text.size
 ·have e : Z0n text = .error (4, -1) := by unfold Z0n; rw [if_pos hm]
  rw [e];have hmI : decide ((text.size : Int) > 3000) = true := by simp; omega
  clear e hm hW hL hR hF;go_enter Tryz.func4, Tryz.ntmps4
  go_wp2;go_ret3
  exact ⟨Below.refl _ _, rfl⟩
 have hmI : decide ((text.size : Int) > 3000) = false := by simp; omega
 have HR := Zdm w text hR hF;cases hr : Z0n text with
 | error x =>
   obtain ⟨c, p⟩ := x;rw [hr] at HR;have HR := lh HR;clear hm hW hL hR hF hr;go_enter Tryz.func4, Tryz.ntmps4
   go_wp2_with fail
   refine HR.out.mono ?_;rintro e w1 ⟨hb, hc, rfl⟩;have nc : (c != 0) = true := by simpa using hc
   have BEL := lh (hb.trans (((Below.refl w1.heap.size w1).alloc (Nat.le_refl _) (.cells #[.int .i64 c, .int .i64 p] 34)).mono hb.size));clear hb hc HR;go_wp2;go_ret3
   exact ⟨BEL.out, rfl⟩
 | ok t =>
   rw [hr] at HR;have hmn := Z6x hr;have HP := lh (fun (w1 : World) (hb : Below w.heap.size w w1) => Zfr w1 text (hW.below hb) (hL.belowL hb));rw [hr] at HP;have HR := lh HR;have HMN := lh hmn;clear hm hW hL hR hF hr hmn;go_enter Tryz.func4, Tryz.ntmps4
   go_wp2_with fail
   refine HR.out.mono ?_;rintro e w1 ⟨hb, b, rfl, hG⟩;have hal := (Below.refl w1.heap.size w1).alloc (Nat.le_refl _) (.cells #[.int .i64 0, .int .i64 (-1)] 34);obtain ⟨w2, hw2⟩ : ∃ w2, w2 = w1.alloc (.cells #[.int .i64 0, .int .i64 (-1)] 34) := ⟨_, rfl⟩
   rw [← hw2] at hal;have G2 := lh (hG.belowG hal);have B2 := lh (hb.trans (hal.mono hb.size));have HPA := lh (HP.out w2 B2.out);have HW2 := lh hw2;unfold ATree.ptr;clear hb hG hal hw2 HR HP;go_wp2_with fail
   rw [← HW2.out];refine HPA.out.mono ?_;rintro e w3 ⟨hb3, a, rfl, hA⟩;have G3 := lh (G2.out.belowG hb3);have A3 := lh (hA.preG (w0 := w) (B' := w.heap.size) B2.out.size B2.out.size);have B3 := lh (B2.out.trans (hb3.mono B2.out.size));have hma : a.many = t.many := by rw [← Z2t, hA.tree]
   have HS := lh (Zct _ a b (Nat.le_refl _) (by have := HMN.out; omega) (hA.tree.trans G2.out.tree.symm) w3 _ _ A3.out.at' G3.out.at');unfold ATree.ptr at HS;clear hb3 hA hma HPA;go_wp2_with fail
   refine HS.out.mono ?_;rintro e w4 ⟨rfl, hb4⟩;have G4 := lh (G3.out.belowG hb4);have A4 := lh (A3.out.belowG hb4);have B4 := lh (B3.out.trans (hb4.mono B3.out.size));clear hb4 HS;go_wp2;go_ret3
   exact ⟨B4.out, a, b, rfl, A4.out, G4.out⟩
mutual
theorem Z8g : ∀ a : ATree, (a.subs.map ATree.b).Sublist a.blocks
 | .mk b v k t n ks => by
   simp only [ATree.subs, List.map_cons, ATree.b, ATree.blocks];exact List.Sublist.cons_cons _ ((Z7u ks).trans (by first | exact List.Sublist.refl _ | exact List.sublist_append_right _ _))
theorem Z7u : ∀ l : List ATree, ((Z0x l).map ATree.b).Sublist (Zv l)
 | [] => by simp [Z0x]
 | a :: l => by
   simp only [Z0x, Zv, List.map_append];exact List.Sublist.append (Z8g a) (Z7u l)
end
theorem Got.apart {w w' : World} {B : Nat} {a : ATree} {t : Tree} (h : Got w B w' a t) : (a.subs.map ATree.b).Nodup := h.nodup.sublist (Z8g a)
def Z91 (l : List (Nat × Nat)) : Prop := ∀ (i : Nat) (x : Nat × Nat), l[i]? = some x → x.2 = i
theorem Z91.push {l : List (Nat × Nat)} (h : Z91 l) (b : Nat) : Z91 (l ++ [(b, l.length)]) := by
 intro i x hx;rcases Nat.lt_or_ge i l.length with hi | hi
 ·rw [List.getElem?_append_left hi] at hx;exact h i x hx
 ·rw [List.getElem?_append_right hi] at hx;cases hd : i - l.length with
  | zero =>
    rw [hd] at hx;simp only [List.getElem?_cons_zero, Option.some.injEq] at hx;rw [← hx];simp only;omega
  | succ n => rw [hd] at hx; simp at hx
mutual
theorem Z76 : ∀ (a : ATree) (l : List (Nat × Nat)), Z91 l → Z91 (Z2p numG a l)
 | .mk b v k t n ks, l, h => by
   simp only [Z2p, numG, if_true];exact Z8b ks _ (h.push _)
theorem Z8b : ∀ (ks : List ATree) (l : List (Nat × Nat)), Z91 l → Z91 (Z14 numG ks l)
 | [], l, h => by simpa [Z14] using h
 | a :: ks, l, h => by
   simp only [Z14];exact Z8b ks _ (Z76 a l h)
end
end Go.Proofs.YtgmnfgljkocnpaaGreatDoor
