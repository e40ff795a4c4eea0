/- Package tree: a program has no more nodes than twice its tokens. Package tree: signKind. Package tree: binary. -/
import Derived.Test.YtgmnfgljkocnpaaGreatDoorJ01
import Derived.Test.YtgmnfgljkocnpaaGreatDoorJ04
import Derived.Test.YtgmnfgljkocnpaaGreatDoorJ18
import Derived.Test.YtgmnfgljkocnpaaGreatDoorJ10
import Derived.Test.YtgmnfgljkocnpaaGreatDoorJ13
import Derived.WalkMore
import Derived.ScopeJumps
namespace Go.Proofs.YtgmnfgljkocnpaaGreatDoor
open Go Go.RowKit
set_option maxRecDepth 100000
set_option maxHeartbeats 20000000
set_option linter.unusedVariables false
def Bnd (n : Nat) (p : PR) : Prop := ∀ t ts, p = some (.ok (t, ts)) → t.many + 2 * ts.length ≤ n
theorem Bnd.fail {n : Nat} {e : Int} {ts : List Tok} : Bnd n (Z2m e ts) := by intro t ts' h; cases h
theorem Bnd.none {n : Nat} : Bnd n none := by intro t ts' h; cases h
theorem Bnd.err {n : Nat} {e : Int × Nat} : Bnd n (some (.error e)) := by intro t ts' h; cases h
theorem Bnd.ok {n : Nat} {t : Tree} {ts : List Tok} (h : t.many + 2 * ts.length ≤ n) : Bnd n (okT t ts) := by
 intro t' ts' h';simp only [okT, Option.some.injEq, Except.ok.injEq, Prod.mk.injEq] at h';rw [← h'.1, ← h'.2]; exact h
theorem Bnd.bind {n m : Nat} {p : PR} {k : Tree → List Tok → PR} (hp : Bnd m p) (hk : ∀ t ts, t.many + 2 * ts.length ≤ m → Bnd n (k t ts)) : Bnd n (Zx p k) := by
 cases p with
 | none => exact Bnd.none
 | some r =>
   cases r with
   | error e => exact Bnd.err
   | ok x => obtain ⟨t, ts⟩ := x; exact hk t ts (hp t ts rfl)
theorem Bnd.want {n : Nat} {s : ByteArray} {ts : List Tok} {k : List Tok → PR} (hk : ts.tail.length < ts.length → Bnd n (k ts.tail)) : Bnd n (Z0u s ts k) := by
 unfold Z0u;by_cases h : isT s ts = true;·rw [if_pos h]; exact hk (Z00 h)
 ·rw [if_neg h]; exact Bnd.fail
theorem Bnd.name {n : Nat} {ts : List Tok} {k : ByteArray → List Tok → PR} (hk : ∀ s, ts.tail.length < ts.length → Bnd n (k s ts.tail)) : Bnd n (Z3b ts k) := by
 unfold Z3b;by_cases h : (hdT ts).kind = 1;·rw [if_pos h]; exact hk _ (Z3d (by omega))
 ·rw [if_neg h]; exact Bnd.fail
theorem Bnd.within {n d : Nat} {ts : List Tok} {p : PR} (h : Bnd n p) : Bnd n (Z0q d ts p) := by
 unfold Z0q;by_cases h' : 30 < d + 1;·rw [if_pos h']; exact Bnd.fail
 ·rw [if_neg h']; exact h
theorem Bnd.ite {n : Nat} {c : Prop} [Decidable c] {p q : PR} (hp : c → Bnd n p) (hq : ¬ c → Bnd n q) : Bnd n (if c then p else q) := by
 by_cases h : c;·rw [if_pos h]; exact hp h
 ·rw [if_neg h]; exact hq h
theorem Bnd.comma {n : Nat} {c : Prop} [Decidable c] {ts : List Tok} {k : List Tok → PR} (hk : ∀ ts', ts'.length ≤ ts.length → Bnd n (k ts')) : Bnd n ((if c then Z0u Z0p ts else fun k => k ts) k) := by
 by_cases h : c;·rw [if_pos h]; exact Bnd.want fun h' => hk _ (by omega)
 ·rw [if_neg h]; exact hk _ (Nat.le_refl _)
theorem Bnd.end' {n : Nat} {t : Tree} {ts : List Tok} (h : t.many + 2 * ts.length ≤ n + 2) : Bnd n (endT t ts) := Bnd.want fun h' => Bnd.ok (by omega)
def Job.base : Job → Nat
 | .stmts _ acc => Z3w acc + 1
 | .params acc => Z3w acc + 1
 | .try_ => 1
 | .binLoop _ x => x.many
 | .postLoop x => x.many
 | .args acc => Z3w acc + 1
 | .object acc => Z3w acc + 1
 | _ => 0
theorem Z5w (l m : List Tree) : Z3w (l ++ m) = Z3w l + Z3w m := by
 induction l with
 | nil => simp [Z3w]
 | cons x l ih => simp only [List.cons_append, Z3w, ih]; omega
theorem Z0z (k : Int) (s : ByteArray) (n : Int) (l : List Tree) : (Tree.mk k s n l).many = Z3w l + 1 := by simp [Tree.many]
theorem Z1x (x : Tree) : Z3w [x] = x.many := by simp [Z3w]
theorem Z4k (x y : Tree) : Z3w [x, y] = x.many + y.many := by simp [Z3w]
theorem Zcb (x y z : Tree) : Z3w [x, y, z] = x.many + y.many + z.many := by simp [Z3w]; omega
theorem Z2n : Z3w [] = 0 := by simp [Z3w]
theorem Zfs (x : Tree) : x.many = Z3w x.kids + 1 := by cases x; simp [Tree.many, Tree.kids]
theorem Z9o : ∀ (f : Nat) (job : Job) (d : Nat) (ts : List Tok), Bnd (job.base + 2 * ts.length) (Z4 f job d ts) := by
 intro f;induction f with
 | zero => intro job d ts; exact Bnd.none
 | succ f ih =>
   intro job d ts;have htl := Z0k ts;have ih' : ∀ (job : Job) (d : Nat) (us : List Tok) {n : Nat}, job.base + 2 * us.length ≤ n → Bnd n (Z4 f job d us) := fun job d us n h t vs hp => Nat.le_trans (ih job d us t vs hp) h;cases job with
   | stmts kind acc =>
     rw [Z4];refine Bnd.ite (fun _ => Bnd.ok ?_) fun _ => Bnd.bind (Bnd.within (ih .stmt _ _)) fun t us h => ih' _ _ _ ?_;·rw [Z0z]; simp only [Job.base]; omega
     ·simp only [Job.base, Z5w, Z1x] at *; omega
   | block body =>
     rw [Z4];refine Bnd.want fun h1 => Bnd.bind (ih (.stmts 6 []) _ _) fun t us h => Bnd.want fun h2 => Bnd.ok ?_;simp only [Job.base, Z2n] at *;cases body;·simp only [Bool.false_eq_true, if_false]; rw [Z0z]; rw [Zfs] at h; omega
     ·simp only [if_true]; omega
   | func kind text =>
     rw [Z4];refine Bnd.want fun h1 => Bnd.bind (ih (.params []) _ _) fun t us h => Bnd.want fun h2 => Bnd.bind (ih (.block true) _ _) fun t vs h3 => Bnd.ok ?_;simp only [Job.base, Z2n, Z0z, Z4k] at *; omega
   | params acc =>
     rw [Z4];refine Bnd.ite (fun _ => Bnd.ok ?_) fun _ => Bnd.comma fun us h => Bnd.ite (fun _ => Bnd.fail) fun _ => Bnd.name fun s h2 => ih' _ _ _ ?_;·rw [Z0z]; simp only [Job.base]; omega
     ·simp only [Job.base, Z5w, Z1x, Z0z, Z2n] at *; omega
   | around =>
     rw [Z4];refine Bnd.want fun h1 => Bnd.bind (ih .value _ _) fun t us h => Bnd.want fun h2 => Bnd.ok ?_;simp only [Job.base] at *; omega
   | stmt =>
     rw [Z4];refine Bnd.ite (fun h => ih' _ _ _ (by simp only [Job.base]; omega)) fun _ => ?_;refine Bnd.ite (fun h => Bnd.ok (by have := Z00 h; simp only [Job.base, Z0z, Z2n]; omega)) fun _ => ?_;refine Bnd.ite (fun h => Bnd.bind (ih _ _ _) fun t us h2 => Bnd.end' (by simp only [Job.base] at *; omega)) fun _ => ?_;refine Bnd.ite (fun h => Bnd.bind (ih _ _ _) fun t us h2 => Bnd.end' (by simp only [Job.base] at *; omega)) fun _ => ?_;refine Bnd.ite (fun h => Bnd.bind (ih _ _ _) fun t us h2 => Bnd.end' (by simp only [Job.base] at *; omega)) fun _ => ?_
     refine Bnd.ite (fun h => Bnd.name fun s h2 => ih' _ _ _ (by simp only [Job.base]; omega)) fun _ => ?_;refine Bnd.ite (fun h => ?_) fun _ => ?_
     ·have := Z00 h;refine Bnd.bind (ih .around _ _) fun t us h2 => Bnd.bind (Bnd.within (ih .stmt _ _)) fun t vs h3 => ?_;have := Z0k vs;exact Bnd.ite (fun h4 => Bnd.bind (Bnd.within (ih .stmt _ _)) fun t xs h5 => Bnd.ok (by simp only [Job.base, Z0z, Zcb] at *; omega)) fun _ => Bnd.ok (by simp only [Job.base, Z0z, Z4k] at *; omega)
     refine Bnd.ite (fun h => ?_) fun _ => ?_
     ·have := Z00 h;exact Bnd.bind (ih .around _ _) fun t us h2 => Bnd.bind (Bnd.within (ih .stmt _ _)) fun t vs h3 => Bnd.ok (by simp only [Job.base, Z0z, Z4k] at *; omega)
     refine Bnd.ite (fun h => ?_) fun _ => ?_
     ·have := Z00 h;exact Bnd.bind (ih .around _ _) fun t us h2 => Bnd.bind (Bnd.within (ih .stmt _ _)) fun t vs h3 => Bnd.ok (by simp only [Job.base, Z0z, Z4k] at *; omega)
     refine Bnd.ite (fun h => ?_) fun _ => ?_
     ·have := Z00 h;exact Bnd.ite (fun h1 => Bnd.end' (by simp only [Job.base, Z0z, Z2n] at *; omega)) fun _ => Bnd.bind (ih .value _ _) fun t us h2 => Bnd.end' (by simp only [Job.base, Z0z, Z1x] at *; omega)
     refine Bnd.ite (fun h => ?_) fun _ => ?_
     ·have := Z00 h;exact Bnd.bind (ih .value _ _) fun t us h2 => Bnd.end' (by simp only [Job.base, Z0z, Z1x] at *; omega)
     refine Bnd.ite (fun h => ih' _ _ _ (by have := Z00 h; simp only [Job.base]; omega)) fun _ => ?_;exact Bnd.bind (ih .value _ _) fun t us h2 => Bnd.end' (by simp only [Job.base, Z0z, Z1x] at *; omega)
   | decl kind must =>
     rw [Z4];refine Bnd.name fun s h => Bnd.ite (fun _ => Bnd.fail) fun _ => Bnd.ite (fun h2 => Bnd.bind (ih .value _ _) fun t us h3 => Bnd.ok ?_) fun _ => Bnd.ok ?_;·have := Z0k ts.tail; simp only [Job.base, Z0z, Z1x] at *; omega
     ·simp only [Job.base, Z0z, Z2n] at *; omega
   | try_ =>
     rw [Z4];refine Bnd.bind (ih (.block false) _ _) fun b us h => ?_;have hk : ∀ (l : List Tree) (vs : List Tok), Z3w l + 2 * vs.length ≤ 2 * ts.length → Bnd (1 + 2 * ts.length) (if isT Zz vs then Zx (Z4 f (.block false) d vs.tail) fun c ts => okT (.mk 12 ByteArray.empty 0 (l ++ [.mk 14 ByteArray.empty 0 [c]])) ts else if l.length = 1 then Z2m 3 vs else okT (.mk 12 ByteArray.empty 0 l) vs) := by
      intro l vs h2;refine Bnd.ite (fun h3 => Bnd.bind (ih (.block false) _ _) fun t xs h4 => Bnd.ok ?_) fun _ => Bnd.ite (fun _ => Bnd.fail) fun _ => Bnd.ok ?_;·have := Z00 h3; simp only [Job.base, Z0z, Z5w, Z1x] at *; omega
      ·rw [Z0z]; omega
     refine Bnd.ite (fun h1 => ?_) fun _ => hk _ _ (by simp only [Job.base, Z1x] at *; omega);have := Z00 h1;refine Bnd.want fun h2 => Bnd.name fun s h3 => Bnd.want fun h4 => Bnd.bind (ih (.block false) _ _) fun c vs h5 => hk _ _ ?_;simp only [Job.base, Z0z, Z1x, Z4k] at *; omega
   | value => rw [Z4]; exact Bnd.within (ih' _ _ _ (by simp only [Job.base]; omega))
   | assign =>
     rw [Z4];refine Bnd.bind (ih (.bin 0) _ _) fun x us h => Bnd.ite (fun h1 => Bnd.ite (fun _ => Bnd.bind (ih .value _ _) fun y vs h2 => Bnd.ok ?_) fun _ => Bnd.err) fun _ => Bnd.ok ?_;·have := Z00 h1; simp only [Job.base, Z0z, Z4k] at *; omega
     ·simp only [Job.base] at *; omega
   | bin level =>
     rw [Z4];refine Bnd.ite (fun h => ih' _ _ _ (by simp only [Job.base]; omega)) fun h => Bnd.bind (ih (.bin (level + 1)) _ _) fun x us h => ih' _ _ _ (by simp only [Job.base] at *; omega)
   | binLoop level x =>
     rw [Z4];refine Bnd.ite (fun _ => Bnd.ok (by simp only [Job.base]; omega)) fun h0 => Bnd.bind (ih (.bin (level + 1)) _ _) fun y us h => ih' _ _ _ ?_;have := Z6a h0; simp only [Job.base, Z0z, Z4k] at *; omega
   | unary =>
     rw [Z4];refine Bnd.ite (fun _ => ih' _ _ _ (by simp only [Job.base]; omega)) fun h0 => Bnd.bind (Bnd.within (ih .unary _ _)) fun y us h => Bnd.ok ?_;have := Z8m h0; simp only [Job.base, Z0z, Z1x] at *; omega
   | postfix_ =>
     rw [Z4];exact Bnd.bind (ih .primary _ _) fun y us h => ih' _ _ _ (by simp only [Job.base] at *; omega)
   | postLoop x =>
     rw [Z4];refine Bnd.ite (fun h => Bnd.name fun s h2 => ih' _ _ _ ?_) fun _ => Bnd.ite (fun h => ?_) fun _ => Bnd.ok (by simp only [Job.base]; omega);·have := Z00 h; simp only [Job.base, Z0z, Z1x] at *; omega
     ·have := Z00 h;exact Bnd.bind (ih (.args [x]) _ _) fun y us h => ih' _ _ _ (by simp only [Job.base, Z1x] at *; omega)
   | args acc =>
     rw [Z4];refine Bnd.ite (fun h => Bnd.ok ?_) fun _ => Bnd.comma fun us h => Bnd.ite (fun _ => Bnd.fail) fun _ => Bnd.bind (ih .value _ _) fun y vs h2 => ih' _ _ _ ?_;·rw [Z0z]; simp only [Job.base]; omega
     ·simp only [Job.base, Z5w, Z1x] at *; omega
   | primary =>
     rw [Z4];have := Z0k ts.tail;refine Bnd.ite (fun h => Bnd.ok ?_) fun _ => Bnd.ite (fun h => Bnd.ok ?_) fun _ => Bnd.ite (fun h => Bnd.ok ?_) fun _ => Bnd.ite (fun h => Bnd.ok ?_) fun _ => ?_;·have := Z3d (ts := ts) (by omega); simp only [Job.base, Z0z, Z2n] at *; omega
     ·have := Z3d (ts := ts) (by omega); simp only [Job.base, Z0z, Z2n] at *; omega
     ·have := Z3d (ts := ts) (by omega); simp only [Job.base, Z0z, Z2n] at *; omega
     ·have : ts.tail.length < ts.length := by
       unfold Z3g at h;by_cases h1 : isT Z4e ts = true;·exact Z00 h1
       ·by_cases h2 : isT Z38 ts = true;·exact Z00 h2
        ·by_cases h3 : isT Z5b ts = true;·exact Z00 h3
         ·by_cases h4 : isT Z1c ts = true;·exact Z00 h4
          ·simp [h1, h2, h3, h4] at h
      simp only [Job.base, Z0z, Z2n] at *; omega
     refine Bnd.ite (fun _ => ih' _ _ _ (by simp only [Job.base]; omega)) fun _ => ?_;refine Bnd.ite (fun _ => Bnd.ite (fun _ => ih' _ _ _ (by simp only [Job.base]; omega)) fun _ => ih' _ _ _ (by simp only [Job.base]; omega)) fun _ => ?_;exact Bnd.ite (fun h => ih' _ _ _ (by have := Z00 h; simp only [Job.base, Z2n]; omega)) fun _ => Bnd.fail
   | object acc =>
     rw [Z4];refine Bnd.ite (fun h => Bnd.ok ?_) fun _ => Bnd.comma fun us h => Bnd.ite (fun _ => Bnd.fail) fun _ => Bnd.name fun s h1 => Bnd.want fun h2 => Bnd.bind (ih .value _ _) fun y vs h3 => ih' _ _ _ ?_;·rw [Z0z]; simp only [Job.base]; omega
     ·simp only [Job.base, Z5w, Z1x, Z0z] at *; omega
end Go.Proofs.YtgmnfgljkocnpaaGreatDoor
namespace Go.Proofs.YtgmnfgljkocnpaaGreatDoor
open Go Go.RowKit Go.Maps
set_option maxRecDepth 100000
set_option maxHeartbeats 20000000
set_option linter.unusedVariables false
theorem Zhh (w : World) (s : ByteArray) (hlen : s.size ≤ maxLen) (c0 : Int) (hc : (litD Zi1).atKey (.string s.data.toList) (.lit (.int .i64 0)) = .lit (.int .i64 c0)) :
 Calls Tryz.prog 116 #[.string s] w fun e w' => e = .returned (.int .i64 c0) ∧ Below w.heap.size w w' := by
 have hmm := @run_makeMap Tryz.prog;have h0 := World.ownsMap_made (H := Unit) w Tryz.prog 9 (plainElem Tryz.prog 3);have hB0 : Below w.heap.size w (w.alloc (.map #[] 0)) := (Below.refl _ _).alloc (Nat.le_refl _) _;have HL := lh hlen;have HC := lh hc;clear hlen hc;go_enter Tryz.func116, Tryz.ntmps116
 go_wp2_with (first | (refine Z3 _ rfl _ _ _ 88 rfl 9 3 Tryz.keyedS Tryz.underlying88 _ _ 0 _ rfl h0 (by unfold maxLen; omega) _ _ _ rfl rfl (WideMaps.keyOf_string_mk Tryz.underlying9 (by decide)) _ [] (plainElem_int Tryz.underlying3 (by decide)) ?_; intro w1 h1 g1) | (refine Z3 _ rfl _ _ _ 88 rfl 9 3 Tryz.keyedS Tryz.underlying88 _ _ 1 _ rfl h1 (by unfold maxLen; omega) _ _ _ rfl rfl (WideMaps.keyOf_string_mk Tryz.underlying9 (by decide)) _ [] (plainElem_int Tryz.underlying3 (by decide)) ?_; intro w2 h2 g2) | (refine Z3 _ rfl _ _ _ 88 rfl 9 3 Tryz.keyedS Tryz.underlying88 _ _ 2 _ rfl h2 (by unfold maxLen; omega) _ _ _ rfl rfl (WideMaps.keyOf_string_mk Tryz.underlying9 (by decide)) _ [] (plainElem_int Tryz.underlying3 (by decide)) ?_; intro w3 h3 g3) | (refine Z3 _ rfl _ _ _ 88 rfl 9 3 Tryz.keyedS Tryz.underlying88 _ _ 3 _ rfl h3 (by unfold maxLen; omega) _ _ _ rfl rfl (WideMaps.keyOf_string_mk Tryz.underlying9 (by decide)) _ [] (plainElem_int Tryz.underlying3 (by decide)) ?_; intro w4 h4 g4) | (refine Z3 _ rfl _ _ _ 88 rfl 9 3 Tryz.keyedS Tryz.underlying88 _ _ 4 _ rfl h4 (by unfold maxLen; omega) _ _ _ rfl rfl (WideMaps.keyOf_string_mk Tryz.underlying9 (by decide)) _ [] (plainElem_int Tryz.underlying3 (by decide)) ?_; intro w5 h5 g5) | (refine Z3 _ rfl _ _ _ 88 rfl 9 3 Tryz.keyedS Tryz.underlying88 _ _ 5 _ rfl h5 (by unfold maxLen; omega) _ _ _ rfl rfl (WideMaps.keyOf_string_mk Tryz.underlying9 (by decide)) _ [] (plainElem_int Tryz.underlying3 (by decide)) ?_; intro w6 h6 g6) | (refine Z3 _ rfl _ _ _ 88 rfl 9 3 Tryz.keyedS Tryz.underlying88 _ _ 6 _ rfl h6 (by unfold maxLen; omega) _ _ _ rfl rfl (WideMaps.keyOf_string_mk Tryz.underlying9 (by decide)) _ [] (plainElem_int Tryz.underlying3 (by decide)) ?_; intro w7 h7 g7) | (at_lookup; refine wpList_lookup_own_int _ rfl _ _ 88 rfl 9 3 .i64 Tryz.keyedS Tryz.underlying88 Tryz.underlying3 (Tryz.zeroI _) _ 7 _ rfl h7 _ _ rfl (WideMaps.keyOf_string_mk Tryz.underlying9 HL.out) ?_; intro c hat hwc))
 go_ret;have e := HC.out.symm.trans hat;obtain rfl : c0 = c := by
  have : (DataW.lit (.int .i64 c0) : DataW Unit) = .lit (.int .i64 c) := e;simpa using this
 have s0 : w.heap.size ≤ (w.alloc (.map #[] 0)).heap.size := hB0.size;have B1 := Ze hB0 g1 (Nat.le_refl _) s0;have B2 := Ze B1 g2 (Nat.le_refl _) B1.size;have B3 := Ze B2 g3 (Nat.le_refl _) B2.size;have B4 := Ze B3 g4 (Nat.le_refl _) B3.size;have B5 := Ze B4 g5 (Nat.le_refl _) B4.size;have B6 := Ze B5 g6 (Nat.le_refl _) B5.size;exact ⟨rfl, Ze B6 g7 (Nat.le_refl _) B6.size⟩
theorem Zi3 (w : World) (s : ByteArray) (hs : Z1l s ≠ 0) : Calls Tryz.prog 116 #[.string s] w fun e w' => e = .returned (.int .i64 (Z1l s)) ∧ Below w.heap.size w w' := by
 have key : s = s_or ∨ s = Z66 ∨ s = Z41 ∨ s = Z43 ∨ s = Z4o ∨ s = Z56 ∨ s = Z67 := by
  unfold Z1l Z0o at hs;simp only [decide_eq_true_eq] at hs;by_cases h1 : s = s_or;·exact .inl h1
  by_cases h2 : s = Z66;·exact .inr (.inl h2)
  by_cases h3 : s = Z41;·exact .inr (.inr (.inl h3))
  by_cases h4 : s = Z43;·exact .inr (.inr (.inr (.inl h4)))
  by_cases h5 : s = Z4o;·exact .inr (.inr (.inr (.inr (.inl h5))))
  by_cases h6 : s = Z56;·exact .inr (.inr (.inr (.inr (.inr (.inl h6)))))
  by_cases h7 : s = Z67;·exact .inr (.inr (.inr (.inr (.inr (.inr h7)))))
  simp [h1, h2, h3, h4, h5, h6, h7] at hs
 rcases key with rfl | rfl | rfl | rfl | rfl | rfl | rfl;all_goals exact Zhh w _ (by decide) _ (by kernel_rfl)
end Go.Proofs.YtgmnfgljkocnpaaGreatDoor
namespace Go.Proofs.YtgmnfgljkocnpaaGreatDoor
open Go Go.RowKit
set_option maxRecDepth 100000
set_option maxHeartbeats 20000000
set_option linter.unusedVariables false
def bArg (lv : Nat) (rb : Nat) : Array Value := #[.pointer (some ⟨rb, 0, none⟩), .int .i64 lv]
theorem Zei {lv : Nat} {ts : List Tok} (h : ∀ (i : Nat) (x : ByteArray), (levL lv)[i]? = some x → isT x ts = false) : Z21 lv ts = 0 := by
 match lv with
 | 0 => have h0 := h 0 s_or rfl; simp [Z21, h0]
 | 1 => have h0 := h 0 Z66 rfl; simp [Z21, h0]
 | 2 => have h0 := h 0 Z41 rfl; simp [Z21, h0]
 | 3 => have h0 := h 0 Z43 rfl; simp [Z21, h0]
 | 4 => have h0 := h 0 Z4o rfl; have h1 := h 1 Z56 rfl; simp [Z21, h0, h1]
 | 5 => have h0 := h 0 Z67 rfl; simp [Z21, h0]
 | n + 6 => rfl
theorem Zd6 {lv : Nat} {ts : List Tok} {k : Nat} {x : ByteArray} (hk : (levL lv)[k]? = some x) (hx : isT x ts = true) (h : ∀ (i : Nat) (y : ByteArray), i < k → (levL lv)[i]? = some y → isT y ts = false) : Z21 lv ts = Z1l x ∧ Z1l x ≠ 0 := by
 match lv with
 | 0 =>
   match k with
   | 0 => obtain rfl : s_or = x := by simpa [levL] using hk
          exact ⟨by simp [Z21, hx]; decide, by decide⟩
   | k + 1 => simp [levL] at hk
 | 1 =>
   match k with
   | 0 => obtain rfl : Z66 = x := by simpa [levL] using hk
          exact ⟨by simp [Z21, hx]; decide, by decide⟩
   | k + 1 => simp [levL] at hk
 | 2 =>
   match k with
   | 0 => obtain rfl : Z41 = x := by simpa [levL] using hk
          exact ⟨by simp [Z21, hx]; decide, by decide⟩
   | k + 1 => simp [levL] at hk
 | 3 =>
   match k with
   | 0 => obtain rfl : Z43 = x := by simpa [levL] using hk
          exact ⟨by simp [Z21, hx]; decide, by decide⟩
   | k + 1 => simp [levL] at hk
 | 4 =>
   match k with
   | 0 => obtain rfl : Z4o = x := by simpa [levL] using hk
          exact ⟨by simp [Z21, hx]; decide, by decide⟩
   | 1 => obtain rfl : Z56 = x := by simpa [levL] using hk
          have h0 := h 0 Z4o (by omega) rfl;exact ⟨by simp [Z21, hx, h0]; decide, by decide⟩
   | k + 2 => simp [levL] at hk
 | 5 =>
   match k with
   | 0 => obtain rfl : Z67 = x := by simpa [levL] using hk
          exact ⟨by simp [Z21, hx]; decide, by decide⟩
   | k + 1 => simp [levL] at hk
 | n + 6 => simp [levL] at hk
theorem Zfw (f : Nat) (hU : Says 115 rArg .unary f) : Says 110 (bArg 6) (.bin 6) (f + 1) := by
 intro w rb B d ts r hP hp;have hw : Z4 f .unary d ts = some r := hp;have HC := lh (hU w rb B d ts r hP hw);clear hP hp hw hU;unfold rArg at HC;unfold bArg;go_enter Tryz.func110, Tryz.ntmps110
 go_wp2;go_step3
 go_wp2_with fail
 refine HC.out.mono ?_;rcases r with ⟨c, p⟩ | ⟨t, ts'⟩
 ·rintro e w2 ⟨⟨b, rfl, h1, h2⟩, hF⟩;exact ⟨rfl, ⟨b, rfl, h1, h2⟩, hF⟩
 ·rintro e w2 ⟨a, rfl, hG, hR, hF⟩;have HG := lh hG;have HR := lh hR;have HF := lh hF;clear hG hR hF HC;go_wp2;try rw [Exit.noGoto_ret]
  go_ret;exact ⟨a, rfl, HG.out, HR.out, HF.out⟩
theorem Zab {P : Program} {a : Act} {w : World} {Q : Exit → Act → World → Prop} {c rest : Code} (l : Nat) (J : Act → World → Prop) (μ : Act → World → Nat) (hf : findLabel c l = some (Code.skip.seq rest))
 (first : (∀ a w, J a w → rest.wp P (Exit.jump l J Q) a w) → c.wp P (Exit.jump l J Q) a w)
 (pass : ∀ a w, J a w → rest.wp P (Exit.jump l (fun a' w' => J a' w' ∧ μ a' w' < μ a w) Q) a w) : (Code.scope c).wp P Q a w :=
 wp_scope_jumps l J μ hf (first fun a w h => Code.wp_mono (fun e a' w' hq => by cases e <;> first | exact hq | exact ⟨hq.1, hq.2.1⟩) (pass a w h)) fun a w h => wp_seq (wp_skip (pass a w h))
def BinJ (f lv d : Nat) (w : World) (rb B : Nat) (r : Except (Int × Nat) (Tree × List Tok)) (n : Nat) (a : ATree) (w' : World) : Prop :=
 ∃ (g : Nat) (us : List Tok) (t : Tree), g ≤ f ∧ Z4 g (.binLoop lv t) d us = some r ∧ Got w B w' a t ∧ Pre w' rb B d us ∧ RFr w w' rb ∧ us.length ≤ n
theorem Zhn (f lv : Nat) (hlv : lv < 6) (hB : ∀ g, g ≤ f → Says 110 (bArg (lv + 1)) (.bin (lv + 1)) g) : Says 110 (bArg lv) (.bin lv) (f + 1) := by
 intro w rb B d ts r hP hp;have hw : Zx (Z4 f (.bin (lv + 1)) d ts) (fun x ts => Z4 f (.binLoop lv x) d ts) = some r := by rw [← hp, Z4, if_neg (by omega)]
 have HP := lh hP;have HB := lh hB;have H1 := lh hw;have l6 : ((lv : Int) == 6) = false := by simp; omega
 have l0 : 0 ≤ (lv : Int) := by omega
 have l1 : (lv : Int) < 6 := by omega
 have lw : ((lv + 1 : Nat) : Int) = (lv : Int) + 1 := by omega
 clear hP hp hw hB;unfold bArg;go_enter Tryz.func110, Tryz.ntmps110
 go_wp2;refine Zab 0 (fun a' w' => ∃ (a : ATree) (u2 u3 u6 u7 u8 u9 u10 u11 u12 u13 u14 u15 u16 u17 u18 u19 u20 u21 u22 u23 u24 u25 u26 u27 u28 u29 u30 u31 u32 u33 u34 u35 u36 u37 u38 : Value), a' = { tmps := #[.pointer (some ⟨rb, 0, none⟩), .int .i64 lv, u2, u3, .pointer none, .pointer (some ⟨a.b, 0, none⟩), u6, u7, u8, u9, u10, u11, u12, u13, u14, u15, u16, u17, u18, u19, u20, u21, u22, u23, u24, u25, u26, u27, u28, u29, u30, u31, u32, u33, u34, u35, u36, u37, u38], defers := [] } ∧ BinJ f lv d w rb B r ts.length a w') (fun _ w' => leftOf w' rb) rfl (fun PASS => ?_) ?_
 ·have PASS := lh PASS;rcases Zr H1.out with ⟨⟨c, p⟩, hv, rfl⟩ | ⟨t, us, hv, h2⟩
  ·have HV := (HB.out f (Nat.le_refl _)) w rb B d _ _ HP.out hv;unfold bArg at HV;rw [lw] at HV;have HV := lh HV;clear hv lw;go_wp2_with fail
   refine HV.out.mono ?_;rintro e w2 ⟨⟨b, rfl, h1, h2⟩, hF⟩;exact ⟨rfl, ⟨b, rfl, h1, h2⟩, hF⟩
  ·have HV := (HB.out f (Nat.le_refl _)) w rb B d _ _ HP.out hv;unfold bArg at HV;rw [lw] at HV;have HV := lh HV;have hl := Z0t hv;have H2 := lh h2;clear hv h2 lw;go_wp2_with fail
   refine HV.out.mono ?_;rintro e w2 ⟨a, rfl, hG, hR2, hF2⟩;have hJ : BinJ f lv d w rb B r ts.length a w2 := ⟨f, us, t, Nat.le_refl _, H2.out, hG, HP.out.next hR2 hF2 hl, hF2, hl⟩
   have HJ := lh hJ;clear hG hR2 hF2 hl hJ;go_wp2_with fail
   go_step3
   rename_i Q1 K1 hK1;refine hK1 _ _ (PASS.out _ _ ?_);exact ⟨a, _, _, _, _, _, _, _, _, _, _, _, _, _, _, _, _, _, _, _, _, _, _, _, _, _, _, _, _, _, _, _, _, _, _, _, rfl, HJ.out⟩
 ·rintro a' w1 ⟨a, u2, u3, u6, u7, u8, u9, u10, u11, u12, u13, u14, u15, u16, u17, u18, u19, u20, u21, u22, u23, u24, u25, u26, u27, u28, u29, u30, u31, u32, u33, u34, u35, u36, u37, u38, rfl, g, us, t, hg, hq, hG, hP1, hF, hl⟩;have G1 := lh hG;have P1 := lh hP1;have F1 := lh hF;have RL := lh hP1.rd.left;have HL := lh hl;have HQ := lh hq;obtain ⟨tb, off, cap, hR⟩ := hP1.rd;obtain ⟨sb, so, sc, hgl, hsl, hc0, hsc, hcs⟩ := hR.lev lv hlv;have HCS := lh hcs;obtain ⟨n, hn⟩ : ∃ n, n = (levL lv).length := ⟨_, rfl⟩
  have n2 : n ≤ 2 := by rw [hn]; match lv, hlv with | 0, _ => decide | 1, _ => decide | 2, _ => decide | 3, _ => decide | 4, _ => decide | 5, _ => decide
  rw [← hn] at hc0 hsc;have HN := lh hn;have hsz : sb < w1.heap.size := Nat.lt_trans hsl hR.rlt;obtain ⟨ab, hab⟩ : ∃ b, b = a.b := ⟨_, rfl⟩
  rw [← hab];have HAB := lh hab;clear hG hP1 hF hl hR hcs hn hq hab lw;go_wp2_with fail
  go_loopw [5, 20] (fun v5 i wr => v5 = .pointer (some ⟨ab, 0, none⟩) ∧ ∃ k : Nat, k ≤ n ∧ i = .int .i64 k ∧ Hid (∀ (j : Nat) (y : ByteArray), j < k → (levL lv)[j]? = some y → isT y us = false) ∧ Hid (Below w1.heap.size w1 wr)) (fun _ i _ => n - (intOf i).toNat)
  case atStart => exact ⟨rfl, 0, Nat.zero_le _, rfl, lh (fun j y hj => by omega), lh (Below.refl _ _)⟩
  case round =>
   obtain ⟨rfl, k, hk, rfl, NO, BW⟩ := hrel;by_cases hkn : k < n
   ·obtain ⟨x, hx⟩ : ∃ x, (levL lv)[k]? = some x := ⟨_, List.getElem?_eq_getElem (by rw [← HN.out]; exact hkn)⟩
    have cx := (BW.out.cell (p := ⟨sb, so + k, none⟩) hsz).trans (HCS.out k x hx);have HX := lh hx;have R2 := P1.out.rd.below BW.out;clear hx;by_cases hs : isT x us = true
    ·have hlt := Zd6 HX.out hs (fun j y hj hy => NO.out j y hj hy);have HT := lh (Z0r wr rb us d x R2 hs);have HS := lh hs;have LT := lh hlt;have hpos := Z00 hs;have HPOS := lh hpos;clear hs R2 hlt hpos;cases g with
     | zero => cases HQ.out
     | succ g =>
     have hq : Zx (Z4 g (.bin (lv + 1)) d us.tail) (fun y ts' => Z4 g (.binLoop lv (.mk (Z21 lv us) ByteArray.empty 0 [t, y])) d ts') = some r := by
      have hq := HQ.out;rw [Z4, if_neg (by rw [LT.out.1]; exact LT.out.2)] at hq;exact hq
     rw [LT.out.1] at hq;have HQ2 := lh hq;clear hq;go_wp2_with fail
     refine HT.out.mono ?_;rintro e w2 ⟨rfl, hR2, hF2⟩;have P2 := lh ((P1.out.below BW.out).tail hR2 hF2);have F12 := lh ((RFr.below (rb := rb) BW.out).trans hF2);have HSG := lh (Zi3 w2 x LT.out.2);obtain ⟨sk, hsk⟩ : ∃ k, k = Z1l x := ⟨_, rfl⟩
     rw [← hsk] at HSG;have HSK := lh hsk;clear hR2 hF2 HT hsk;go_wp2_with fail
     refine HSG.out.mono ?_;rintro e w3 ⟨rfl, hB3⟩;have P3 := lh (P2.out.below hB3);have F13 := lh (F12.out.trans (RFr.below (rb := rb) hB3));have lw : ((lv + 1 : Nat) : Int) = (lv : Int) + 1 := by omega
     clear hB3 HSG;rcases Zr HQ2.out with ⟨⟨c, p⟩, hv, rfl⟩ | ⟨y, vs, hv, h4⟩
     ·have HV := (HB.out g (by omega)) w3 rb B d _ _ P3.out hv;unfold bArg at HV;rw [lw] at HV;have HV := lh HV;clear hv lw;go_wp2_with fail
      refine HV.out.mono ?_;rintro e w4 ⟨⟨b, rfl, h1, h2⟩, hF⟩;exact ⟨rfl, Z07.pre (F1.out.trans F13.out) (r := .error (c, p)) ⟨⟨b, rfl, h1, h2⟩, hF⟩⟩
     ·have HV := (HB.out g (by omega)) w3 rb B d _ _ P3.out hv;unfold bArg at HV;rw [lw] at HV;have HV := lh HV;have hll := Z0t hv;have H4 := lh h4;clear hv lw h4;go_wp2_with fail
      refine HV.out.mono ?_;rintro e w4 ⟨c, rfl, hC, hR4, hF4⟩;have hG13 := G1.out.rfr P1.out.lt F13.out;have hG4 := hG13.rfr P1.out.lt hF4;have F4 := (F1.out.trans F13.out).trans hF4;have hfin := Got.two (k := sk) (t := ⟨#[]⟩) HP.out.le F4 hG4 (wA := w3) (fun x hx => (hG13.new x hx).2) (F1.out.trans F13.out).size hC;have hb1 : Below w4.heap.size w4 (w4.alloc (.cells #[.pointer (some ⟨ab, 0, none⟩), .pointer (some ⟨c.b, 0, none⟩)] 22)) := (Below.refl _ _).alloc (Nat.le_refl _) _
      have hb2 : Below w4.heap.size w4 ((w4.alloc (.cells #[.pointer (some ⟨ab, 0, none⟩), .pointer (some ⟨c.b, 0, none⟩)] 22)).alloc (.cells #[.int .i64 sk, .string ⟨#[]⟩, .int .i64 0, .slice (some ⟨w4.heap.size, 0, none⟩) 2 2] 44)) := hb1.alloc (by simp) _;have F6 := lh (F4.trans (RFr.below (rb := rb) hb2));have P6 := lh (((P3.out.next hR4 hF4 hll).below hb2));have FIN := lh hfin;have HLL := lh hll;clear hC hR4 hF4 hG4 hG13 F4 HV hb1 hb2 hfin hll;go_wp2_with fail
      refine (Z0g _ rb sk ⟨#[]⟩ _ 2 2).mono ?_;rintro e w7 ⟨rfl, rfl⟩;go_wp2;go_step3
      refine ⟨rfl, ⟨.mk (w4.heap.size + 1) (.slice (some ⟨w4.heap.size, 0, none⟩) 2 2) sk ⟨#[]⟩ 0 [a, c], _, _, _, _, _, _, _, _, _, _, _, _, _, _, _, _, _, _, _, _, _, _, _, _, _, _, _, _, _, _, _, _, _, _, _, rfl, g, vs, .mk sk ByteArray.empty 0 [t, y], by omega, ?_, ?_, P6.out, F6.out, ?_⟩, ?_⟩;·rw [HSK.out]; exact H4.out
      ·rw [HAB.out]; exact FIN.out
      ·have := HLL.out; have := HL.out; have := Z0k us; omega
      ·rw [P6.out.rd.left, RL.out]; have := HLL.out; have := HPOS.out; omega
    ·have hs' : isT x us = false := by simpa using hs
     have HT := lh (Z1m wr rb us d x R2 hs');have HS := lh hs';clear hs hs' R2;go_wp2_with fail
     refine HT.out.mono ?_;rintro e w2 ⟨rfl, hB2⟩;have B2 := lh hB2;clear hB2;go_wp2;go_roundw
     case rel => exact ⟨rfl, k + 1, by omega, by go_num, lh (fun j y hj hy => by
      by_cases e : j = k;·subst e; obtain rfl := Option.some.inj (HX.out.symm.trans hy); exact HS.out
      ·exact NO.out j y (by omega) hy), lh (BW.out.trans (B2.out.mono BW.out.size))⟩
     case measure => simp [intOf]; omega
   ·have hkk : k = n := by omega
    have NO2 : Hid (Z21 lv us = 0) := lh (Zei fun i y hi => NO.out i y (by rw [hkk, HN.out]; exact (List.getElem?_eq_some_iff.1 hi).1) hi);clear hkk;go_wp2_with fail
    simp only [Exit.jump];go_ret;cases g with
    | zero => cases HQ.out
    | succ g =>
      have hq := HQ.out;rw [Z4, if_pos NO2.out] at hq;obtain rfl := Option.some.inj hq;rw [HAB.out];exact ⟨a, rfl, G1.out.rfr P1.out.lt (RFr.below BW.out), P1.out.rd.below BW.out, F1.out.trans (RFr.below BW.out)⟩
end Go.Proofs.YtgmnfgljkocnpaaGreatDoor
