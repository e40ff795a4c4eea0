/- Package tree: a program has no more nodes than twice its tokens. Package tree: how many kids a node has. Package tree: every node of a read program has kids as its kind asks. Package early: kids. -/
import Derived.Test.YtgifgiipojedbaaGreatDoorJ05
import Derived.Test.YtgifgiipojedbaaGreatDoorJ13
import Derived.Test.YtgifgiipojedbaaGreatDoorJ15
namespace Go.Proofs.YtgifgiipojedbaaGreatDoor
open Go Go.RowKit
set_option maxRecDepth 100000
set_option linter.unusedVariables false

def Bnd (n : Nat) (p : PR) : Prop := ∀ t ts, p = some (.ok (t, ts)) → t.many + 2 * ts.length ≤ n
theorem Bnd.fail {n : Nat} {e : Int} {ts : List Tok} : Bnd n (failT e ts) := by intro t ts' h; cases h
theorem Bnd.none {n : Nat} : Bnd n none := by intro t ts' h; cases h
theorem Bnd.err {n : Nat} {e : Int × Nat} : Bnd n (some (.error e)) := by intro t ts' h; cases h
theorem Bnd.ok {n : Nat} {t : Tree} {ts : List Tok} (h : t.many + 2 * ts.length ≤ n) : Bnd n (okT t ts) := by
  intro t' ts' h'
  simp only [okT, Option.some.injEq, Except.ok.injEq, Prod.mk.injEq] at h'
  rw [← h'.1, ← h'.2]; exact h
theorem Bnd.bind {n m : Nat} {p : PR} {k : Tree → List Tok → PR} (hp : Bnd m p) (hk : ∀ t ts, t.many + 2 * ts.length ≤ m → Bnd n (k t ts)) : Bnd n (bindT p k) := by
  cases p with
  | none => exact Bnd.none
  | some r =>
    cases r with
    | error e => exact Bnd.err
    | ok x => obtain ⟨t, ts⟩ := x; exact hk t ts (hp t ts rfl)
theorem Bnd.want {n : Nat} {s : ByteArray} {ts : List Tok} {k : List Tok → PR} (hk : ts.tail.length < ts.length → Bnd n (k ts.tail)) : Bnd n (wantT s ts k) := by
  unfold wantT
  by_cases h : isT s ts = true
  · rw [if_pos h]; exact hk (isT_cons h)
  · rw [if_neg h]; exact Bnd.fail
theorem Bnd.name {n : Nat} {ts : List Tok} {k : ByteArray → List Tok → PR} (hk : ∀ s, ts.tail.length < ts.length → Bnd n (k s ts.tail)) : Bnd n (nameT ts k) := by
  unfold nameT
  by_cases h : (hdT ts).kind = 1
  · rw [if_pos h]; exact hk _ (kind_cons (by omega))
  · rw [if_neg h]; exact Bnd.fail
theorem Bnd.within {n d : Nat} {ts : List Tok} {p : PR} (h : Bnd n p) : Bnd n (withinT d ts p) := by
  unfold withinT
  by_cases h' : 30 < d + 1
  · rw [if_pos h']; exact Bnd.fail
  · rw [if_neg h']; exact h
theorem Bnd.ite {n : Nat} {c : Prop} [Decidable c] {p q : PR} (hp : c → Bnd n p) (hq : ¬ c → Bnd n q) : Bnd n (if c then p else q) := by
  by_cases h : c
  · rw [if_pos h]; exact hp h
  · rw [if_neg h]; exact hq h
theorem Bnd.comma {n : Nat} {c : Prop} [Decidable c] {ts : List Tok} {k : List Tok → PR} (hk : ∀ ts', ts'.length ≤ ts.length → Bnd n (k ts')) : Bnd n ((if c then wantT s_comma ts else fun k => k ts) k) := by
  by_cases h : c
  · rw [if_pos h]; exact Bnd.want fun h' => hk _ (by omega)
  · rw [if_neg h]; exact hk _ (Nat.le_refl _)
theorem Bnd.end' {n : Nat} {t : Tree} {ts : List Tok} (h : t.many + 2 * ts.length ≤ n + 2) : Bnd n (endT t ts) := Bnd.want fun h' => Bnd.ok (by omega)
def Job.base : Job → Nat
  | .stmts _ acc => manyL acc + 1
  | .params acc => manyL acc + 1
  | .try_ => 1
  | .binLoop _ x => x.many
  | .postLoop x => x.many
  | .args acc => manyL acc + 1
  | .object acc => manyL acc + 1
  | _ => 0
theorem manyL_app (l m : List Tree) : manyL (l ++ m) = manyL l + manyL m := by
  induction l with
  | nil => simp [manyL]
  | cons x l ih => simp only [List.cons_append, manyL, ih]; omega
theorem many_mk (k : Int) (s : ByteArray) (n : Int) (l : List Tree) : (Tree.mk k s n l).many = manyL l + 1 := by simp [Tree.many]
theorem manyL_one (x : Tree) : manyL [x] = x.many := by simp [manyL]
theorem manyL_two (x y : Tree) : manyL [x, y] = x.many + y.many := by simp [manyL]
theorem manyL_three (x y z : Tree) : manyL [x, y, z] = x.many + y.many + z.many := by simp [manyL]; omega
theorem manyL_nil : manyL [] = 0 := by simp [manyL]
theorem many_kids (x : Tree) : x.many = manyL x.kids + 1 := by cases x; simp [Tree.many, Tree.kids]

set_option maxHeartbeats 4000000 in
theorem parse_many : ∀ (f : Nat) (job : Job) (d : Nat) (ts : List Tok), Bnd (job.base + 2 * ts.length) (parseF f job d ts) := by
  intro f
  induction f with
  | zero => intro job d ts; exact Bnd.none
  | succ f ih =>
    intro job d ts
    have htl := tail_le ts
    have ih' : ∀ (job : Job) (d : Nat) (us : List Tok) {n : Nat}, job.base + 2 * us.length ≤ n → Bnd n (parseF f job d us) := fun job d us n h t vs hp => Nat.le_trans (ih job d us t vs hp) h
    cases job with
    | stmts kind acc =>
      rw [parseF]
      refine Bnd.ite (fun _ => Bnd.ok ?_) fun _ => Bnd.bind (Bnd.within (ih .stmt _ _)) fun t us h => ih' _ _ _ ?_
      · rw [many_mk]; simp only [Job.base]; omega
      · simp only [Job.base, manyL_app, manyL_one] at *; omega
    | block body =>
      rw [parseF]
      refine Bnd.want fun h1 => Bnd.bind (ih (.stmts 6 []) _ _) fun t us h => Bnd.want fun h2 => Bnd.ok ?_
      simp only [Job.base, manyL_nil] at *
      cases body
      · simp only [Bool.false_eq_true, if_false]; rw [many_mk]; rw [many_kids] at h; omega
      · simp only [if_true]; omega
    | func kind text =>
      rw [parseF]
      refine Bnd.want fun h1 => Bnd.bind (ih (.params []) _ _) fun t us h => Bnd.want fun h2 => Bnd.bind (ih (.block true) _ _) fun t vs h3 => Bnd.ok ?_
      simp only [Job.base, manyL_nil, many_mk, manyL_two] at *; omega
    | params acc =>
      rw [parseF]
      refine Bnd.ite (fun _ => Bnd.ok ?_) fun _ => Bnd.comma fun us h => Bnd.ite (fun _ => Bnd.fail) fun _ => Bnd.name fun s h2 => ih' _ _ _ ?_
      · rw [many_mk]; simp only [Job.base]; omega
      · simp only [Job.base, manyL_app, manyL_one, many_mk, manyL_nil] at *; omega
    | around =>
      rw [parseF]
      refine Bnd.want fun h1 => Bnd.bind (ih .value _ _) fun t us h => Bnd.want fun h2 => Bnd.ok ?_
      simp only [Job.base] at *; omega
    | stmt =>
      rw [parseF]
      refine Bnd.ite (fun h => ih' _ _ _ (by simp only [Job.base]; omega)) fun _ => ?_
      refine Bnd.ite (fun h => Bnd.ok (by have := isT_cons h; simp only [Job.base, many_mk, manyL_nil]; omega)) fun _ => ?_
      refine Bnd.ite (fun h => Bnd.bind (ih _ _ _) fun t us h2 => Bnd.end' (by simp only [Job.base] at *; omega)) fun _ => ?_
      refine Bnd.ite (fun h => Bnd.bind (ih _ _ _) fun t us h2 => Bnd.end' (by simp only [Job.base] at *; omega)) fun _ => ?_
      refine Bnd.ite (fun h => Bnd.bind (ih _ _ _) fun t us h2 => Bnd.end' (by simp only [Job.base] at *; omega)) fun _ => ?_
      refine Bnd.ite (fun h => Bnd.name fun s h2 => ih' _ _ _ (by simp only [Job.base]; omega)) fun _ => ?_
      refine Bnd.ite (fun h => ?_) fun _ => ?_
      · have := isT_cons h
        refine Bnd.bind (ih .around _ _) fun t us h2 => Bnd.bind (Bnd.within (ih .stmt _ _)) fun t vs h3 => ?_
        have := tail_le vs
        exact Bnd.ite (fun h4 => Bnd.bind (Bnd.within (ih .stmt _ _)) fun t xs h5 => Bnd.ok (by simp only [Job.base, many_mk, manyL_three] at *; omega)) fun _ => Bnd.ok (by simp only [Job.base, many_mk, manyL_two] at *; omega)
      refine Bnd.ite (fun h => ?_) fun _ => ?_
      · have := isT_cons h
        exact Bnd.bind (ih .around _ _) fun t us h2 => Bnd.bind (Bnd.within (ih .stmt _ _)) fun t vs h3 => Bnd.ok (by simp only [Job.base, many_mk, manyL_two] at *; omega)
      refine Bnd.ite (fun h => ?_) fun _ => ?_
      · have := isT_cons h
        exact Bnd.bind (ih .around _ _) fun t us h2 => Bnd.bind (Bnd.within (ih .stmt _ _)) fun t vs h3 => Bnd.ok (by simp only [Job.base, many_mk, manyL_two] at *; omega)
      refine Bnd.ite (fun h => ?_) fun _ => ?_
      · have := isT_cons h
        exact Bnd.ite (fun h1 => Bnd.end' (by simp only [Job.base, many_mk, manyL_nil] at *; omega)) fun _ => Bnd.bind (ih .value _ _) fun t us h2 => Bnd.end' (by simp only [Job.base, many_mk, manyL_one] at *; omega)
      refine Bnd.ite (fun h => ?_) fun _ => ?_
      · have := isT_cons h
        exact Bnd.bind (ih .value _ _) fun t us h2 => Bnd.end' (by simp only [Job.base, many_mk, manyL_one] at *; omega)
      refine Bnd.ite (fun h => ih' _ _ _ (by have := isT_cons h; simp only [Job.base]; omega)) fun _ => ?_
      exact Bnd.bind (ih .value _ _) fun t us h2 => Bnd.end' (by simp only [Job.base, many_mk, manyL_one] at *; omega)
    | decl kind must =>
      rw [parseF]
      refine Bnd.name fun s h => Bnd.ite (fun _ => Bnd.fail) fun _ => Bnd.ite (fun h2 => Bnd.bind (ih .value _ _) fun t us h3 => Bnd.ok ?_) fun _ => Bnd.ok ?_
      · have := tail_le ts.tail; simp only [Job.base, many_mk, manyL_one] at *; omega
      · simp only [Job.base, many_mk, manyL_nil] at *; omega
    | try_ =>
      rw [parseF]
      refine Bnd.bind (ih (.block false) _ _) fun b us h => ?_
      have hk : ∀ (l : List Tree) (vs : List Tok), manyL l + 2 * vs.length ≤ 2 * ts.length → Bnd (1 + 2 * ts.length) (if isT s_finally vs then bindT (parseF f (.block false) d vs.tail) fun c ts => okT (.mk 12 ByteArray.empty 0 (l ++ [.mk 14 ByteArray.empty 0 [c]])) ts else if l.length = 1 then failT 3 vs else okT (.mk 12 ByteArray.empty 0 l) vs) := by
        intro l vs h2
        refine Bnd.ite (fun h3 => Bnd.bind (ih (.block false) _ _) fun t xs h4 => Bnd.ok ?_) fun _ => Bnd.ite (fun _ => Bnd.fail) fun _ => Bnd.ok ?_
        · have := isT_cons h3; simp only [Job.base, many_mk, manyL_app, manyL_one] at *; omega
        · rw [many_mk]; omega
      refine Bnd.ite (fun h1 => ?_) fun _ => hk _ _ (by simp only [Job.base, manyL_one] at *; omega)
      have := isT_cons h1
      refine Bnd.want fun h2 => Bnd.name fun s h3 => Bnd.want fun h4 => Bnd.bind (ih (.block false) _ _) fun c vs h5 => hk _ _ ?_
      simp only [Job.base, many_mk, manyL_one, manyL_two] at *; omega
    | value => rw [parseF]; exact Bnd.within (ih' _ _ _ (by simp only [Job.base]; omega))
    | assign =>
      rw [parseF]
      refine Bnd.bind (ih (.bin 0) _ _) fun x us h => Bnd.ite (fun h1 => Bnd.ite (fun _ => Bnd.bind (ih .value _ _) fun y vs h2 => Bnd.ok ?_) fun _ => Bnd.err) fun _ => Bnd.ok ?_
      · have := isT_cons h1; simp only [Job.base, many_mk, manyL_two] at *; omega
      · simp only [Job.base] at *; omega
    | bin level =>
      rw [parseF]
      refine Bnd.ite (fun h => ih' _ _ _ (by simp only [Job.base]; omega)) fun h => Bnd.bind (ih (.bin (level + 1)) _ _) fun x us h => ih' _ _ _ (by simp only [Job.base] at *; omega)
    | binLoop level x =>
      rw [parseF]
      refine Bnd.ite (fun _ => Bnd.ok (by simp only [Job.base]; omega)) fun h0 => Bnd.bind (ih (.bin (level + 1)) _ _) fun y us h => ih' _ _ _ ?_
      have := levelT_cons h0; simp only [Job.base, many_mk, manyL_two] at *; omega
    | unary =>
      rw [parseF]
      refine Bnd.ite (fun _ => ih' _ _ _ (by simp only [Job.base]; omega)) fun h0 => Bnd.bind (Bnd.within (ih .unary _ _)) fun y us h => Bnd.ok ?_
      have := unaryT_cons h0; simp only [Job.base, many_mk, manyL_one] at *; omega
    | postfix_ =>
      rw [parseF]
      exact Bnd.bind (ih .primary _ _) fun y us h => ih' _ _ _ (by simp only [Job.base] at *; omega)
    | postLoop x =>
      rw [parseF]
      refine Bnd.ite (fun h => Bnd.name fun s h2 => ih' _ _ _ ?_) fun _ => Bnd.ite (fun h => ?_) fun _ => Bnd.ok (by simp only [Job.base]; omega)
      · have := isT_cons h; simp only [Job.base, many_mk, manyL_one] at *; omega
      · have := isT_cons h
        exact Bnd.bind (ih (.args [x]) _ _) fun y us h => ih' _ _ _ (by simp only [Job.base, manyL_one] at *; omega)
    | args acc =>
      rw [parseF]
      refine Bnd.ite (fun h => Bnd.ok ?_) fun _ => Bnd.comma fun us h => Bnd.ite (fun _ => Bnd.fail) fun _ => Bnd.bind (ih .value _ _) fun y vs h2 => ih' _ _ _ ?_
      · rw [many_mk]; simp only [Job.base]; omega
      · simp only [Job.base, manyL_app, manyL_one] at *; omega
    | primary =>
      rw [parseF]
      have := tail_le ts.tail
      refine Bnd.ite (fun h => Bnd.ok ?_) fun _ => Bnd.ite (fun h => Bnd.ok ?_) fun _ => Bnd.ite (fun h => Bnd.ok ?_) fun _ => Bnd.ite (fun h => Bnd.ok ?_) fun _ => ?_
      · have := kind_cons (ts := ts) (by omega); simp only [Job.base, many_mk, manyL_nil] at *; omega
      · have := kind_cons (ts := ts) (by omega); simp only [Job.base, many_mk, manyL_nil] at *; omega
      · have := kind_cons (ts := ts) (by omega); simp only [Job.base, many_mk, manyL_nil] at *; omega
      · have : ts.tail.length < ts.length := by
          unfold constT at h
          by_cases h1 : isT s_true ts = true
          · exact isT_cons h1
          · by_cases h2 : isT s_false ts = true
            · exact isT_cons h2
            · by_cases h3 : isT s_null ts = true
              · exact isT_cons h3
              · by_cases h4 : isT s_undefined ts = true
                · exact isT_cons h4
                · simp [h1, h2, h3, h4] at h
        simp only [Job.base, many_mk, manyL_nil] at *; omega
      refine Bnd.ite (fun _ => ih' _ _ _ (by simp only [Job.base]; omega)) fun _ => ?_
      refine Bnd.ite (fun _ => Bnd.ite (fun _ => ih' _ _ _ (by simp only [Job.base]; omega)) fun _ => ih' _ _ _ (by simp only [Job.base]; omega)) fun _ => ?_
      exact Bnd.ite (fun h => ih' _ _ _ (by have := isT_cons h; simp only [Job.base, manyL_nil]; omega)) fun _ => Bnd.fail
    | object acc =>
      rw [parseF]
      refine Bnd.ite (fun h => Bnd.ok ?_) fun _ => Bnd.comma fun us h => Bnd.ite (fun _ => Bnd.fail) fun _ => Bnd.name fun s h1 => Bnd.want fun h2 => Bnd.bind (ih .value _ _) fun y vs h3 => ih' _ _ _ ?_
      · rw [many_mk]; simp only [Job.base]; omega
      · simp only [Job.base, manyL_app, manyL_one, many_mk] at *; omega
end Go.Proofs.YtgifgiipojedbaaGreatDoor

namespace Go.Proofs.YtgifgiipojedbaaGreatDoor
open Go Go.RowKit
set_option maxRecDepth 100000
set_option linter.unusedVariables false

/-- kids as their kind asks -/
structure Ar (k : Int) (n : Nat) : Prop where
  call : k = 35 → n ≠ 0
  two : k = 9 ∨ k = 8 ∨ k = 24 ∨ k = 5 ∨ k = 37 → n = 2
  if' : k = 7 → n = 2 ∨ n = 3
  one : k = 13 ∨ k = 34 → n = 1
theorem Ar.any {k : Int} {n : Nat} (h : k ≠ 35 ∧ k ≠ 9 ∧ k ≠ 8 ∧ k ≠ 24 ∧ k ≠ 5 ∧ k ≠ 37 ∧ k ≠ 7 ∧ k ≠ 13 ∧ k ≠ 34) : Ar k n := ⟨by omega, by omega, by omega, by omega⟩
mutual
def WT : Tree → Prop
  | .mk k _ _ l => Ar k l.length ∧ WTL l
def WTL : List Tree → Prop
  | [] => True
  | t :: l => WT t ∧ WTL l
end
theorem WTL_app {l m : List Tree} (h : WTL l) (g : WTL m) : WTL (l ++ m) := by
  induction l with
  | nil => exact g
  | cons x l ih => exact ⟨h.1, ih h.2⟩
theorem WT.kids {t : Tree} (h : WT t) : WTL t.kids := by cases t; exact h.2
theorem WT.leaf {k : Int} {s : ByteArray} {n : Int} (h : k ≠ 35 ∧ k ≠ 9 ∧ k ≠ 8 ∧ k ≠ 24 ∧ k ≠ 5 ∧ k ≠ 37 ∧ k ≠ 7 ∧ k ≠ 13 ∧ k ≠ 34) : WT (.mk k s n []) := ⟨Ar.any h, trivial⟩

def Sh (p : PR) : Prop := ∀ t ts, p = some (.ok (t, ts)) → WT t
theorem Sh.fail {e : Int} {ts : List Tok} : Sh (failT e ts) := by intro t ts' h; cases h
theorem Sh.none : Sh none := by intro t ts' h; cases h
theorem Sh.err {e : Int × Nat} : Sh (some (.error e)) := by intro t ts' h; cases h
theorem Sh.ok {t : Tree} {ts : List Tok} (h : WT t) : Sh (okT t ts) := by
  intro t' ts' h'
  simp only [okT, Option.some.injEq, Except.ok.injEq, Prod.mk.injEq] at h'
  rw [← h'.1]; exact h
theorem Sh.bind {p : PR} {k : Tree → List Tok → PR} (hp : Sh p) (hk : ∀ t ts, WT t → Sh (k t ts)) : Sh (bindT p k) := by
  cases p with
  | none => exact Sh.none
  | some r =>
    cases r with
    | error e => exact Sh.err
    | ok x => obtain ⟨t, ts⟩ := x; exact hk t ts (hp t ts rfl)
theorem Sh.want {s : ByteArray} {ts : List Tok} {k : List Tok → PR} (hk : Sh (k ts.tail)) : Sh (wantT s ts k) := by
  unfold wantT
  by_cases h : isT s ts = true
  · rw [if_pos h]; exact hk
  · rw [if_neg h]; exact Sh.fail
theorem Sh.name {ts : List Tok} {k : ByteArray → List Tok → PR} (hk : ∀ s, Sh (k s ts.tail)) : Sh (nameT ts k) := by
  unfold nameT
  by_cases h : (hdT ts).kind = 1
  · rw [if_pos h]; exact hk _
  · rw [if_neg h]; exact Sh.fail
theorem Sh.within {d : Nat} {ts : List Tok} {p : PR} (h : Sh p) : Sh (withinT d ts p) := by
  unfold withinT
  by_cases h' : 30 < d + 1
  · rw [if_pos h']; exact Sh.fail
  · rw [if_neg h']; exact h
theorem Sh.ite {c : Prop} [Decidable c] {p q : PR} (hp : c → Sh p) (hq : ¬ c → Sh q) : Sh (if c then p else q) := by
  by_cases h : c
  · rw [if_pos h]; exact hp h
  · rw [if_neg h]; exact hq h
theorem Sh.comma {c : Prop} [Decidable c] {ts : List Tok} {k : List Tok → PR} (hk : ∀ ts', Sh (k ts')) : Sh ((if c then wantT s_comma ts else fun k => k ts) k) := by
  by_cases h : c
  · rw [if_pos h]; exact Sh.want (hk _)
  · rw [if_neg h]; exact hk _
theorem Sh.end' {t : Tree} {ts : List Tok} (h : WT t) : Sh (endT t ts) := Sh.want (Sh.ok h)
def Job.good : Job → Prop
  | .stmts kind acc => (kind = 1 ∨ kind = 6) ∧ WTL acc
  | .func kind _ => kind = 5 ∨ kind = 37
  | .params acc => WTL acc
  | .decl kind _ => kind = 2 ∨ kind = 3 ∨ kind = 4
  | .binLoop _ x => WT x
  | .postLoop x => WT x
  | .args acc => WTL acc ∧ acc ≠ []
  | .object acc => WTL acc
  | _ => True
theorem levelT_in (lv : Nat) (ts : List Tok) : levelT lv ts = 0 ∨ (25 ≤ levelT lv ts ∧ levelT lv ts ≤ 31) := by
  unfold levelT
  split <;> (try split) <;> (try split) <;> omega
theorem unaryT_in (ts : List Tok) : unaryT ts = 0 ∨ (32 ≤ unaryT ts ∧ unaryT ts ≤ 34) := by
  unfold unaryT
  split <;> (try split) <;> (try split) <;> omega
theorem constT_in (ts : List Tok) : constT ts = 0 ∨ (19 ≤ constT ts ∧ constT ts ≤ 22) := by
  unfold constT
  split <;> (try split) <;> (try split) <;> (try split) <;> omega
theorem two_ok {k : Int} {s : ByteArray} {n : Int} {x y : Tree} (hx : WT x) (hy : WT y) (h : k ≠ 13 ∧ k ≠ 34) : WT (.mk k s n [x, y]) :=
  ⟨⟨fun _ => by simp, fun _ => rfl, fun _ => .inl rfl, fun h' => by omega⟩, hx, hy, trivial⟩
theorem one_ok {k : Int} {s : ByteArray} {n : Int} {x : Tree} (hx : WT x) (h : k ≠ 9 ∧ k ≠ 8 ∧ k ≠ 24 ∧ k ≠ 5 ∧ k ≠ 37 ∧ k ≠ 7) : WT (.mk k s n [x]) :=
  ⟨⟨fun _ => by simp, fun h' => by omega, fun h' => by omega, fun _ => rfl⟩, hx, trivial⟩
theorem list_ok {k : Int} {s : ByteArray} {n : Int} {l : List Tree} (hx : WTL l) (h : k ≠ 35 ∧ k ≠ 9 ∧ k ≠ 8 ∧ k ≠ 24 ∧ k ≠ 5 ∧ k ≠ 37 ∧ k ≠ 7 ∧ k ≠ 13 ∧ k ≠ 34) : WT (.mk k s n l) := ⟨Ar.any h, hx⟩

theorem parse_shape : ∀ (f : Nat) (job : Job) (d : Nat) (ts : List Tok), job.good → Sh (parseF f job d ts) := by
  intro f
  induction f with
  | zero => intro job d ts _; unfold parseF; exact Sh.none
  | succ f ih =>
    intro job d ts hg
    cases job with
    | stmts kind acc =>
      unfold parseF
      refine Sh.ite (fun _ => Sh.ok (list_ok hg.2 (by have := hg.1; omega))) fun _ => ?_
      exact Sh.bind (Sh.within (ih .stmt _ _ trivial)) fun t ts' h => ih _ _ _ ⟨hg.1, WTL_app hg.2 ⟨h, trivial⟩⟩
    | block body =>
      unfold parseF
      refine Sh.want (Sh.bind (ih (.stmts 6 []) _ _ ⟨.inr rfl, trivial⟩) fun t ts' h' => Sh.want (Sh.ok ?_))
      by_cases hb : body = true
      · rw [if_pos hb]; exact h'
      · rw [if_neg hb]; exact list_ok h'.kids (by omega)
    | func kind text =>
      unfold parseF
      exact Sh.want (Sh.bind (ih (.params []) _ _ trivial) fun t ts' h' => Sh.want (Sh.bind (ih (.block true) _ _ trivial) fun t ts' h3 => Sh.ok (two_ok h' h3 (by have : kind = 5 ∨ kind = 37 := hg; omega))))
    | params acc =>
      unfold parseF
      refine Sh.ite (fun _ => Sh.ok (list_ok hg (by omega))) fun _ => ?_
      exact Sh.comma fun ts' => Sh.ite (fun _ => Sh.fail) fun _ => Sh.name fun s => ih _ _ _ (WTL_app hg ⟨WT.leaf (by omega), trivial⟩)
    | around =>
      unfold parseF
      exact Sh.want (Sh.bind (ih .value _ _ trivial) fun t ts' h' => Sh.want (Sh.ok h'))
    | stmt =>
      unfold parseF
      refine Sh.ite (fun h => ih _ _ _ trivial) fun _ => ?_
      refine Sh.ite (fun h => Sh.ok (WT.leaf (by omega))) fun _ => ?_
      refine Sh.ite (fun h => Sh.bind (ih (.decl 2 false) _ _ (.inl rfl)) fun t us h2 => Sh.end' h2) fun _ => ?_
      refine Sh.ite (fun h => Sh.bind (ih (.decl 3 false) _ _ (.inr (.inl rfl))) fun t us h2 => Sh.end' h2) fun _ => ?_
      refine Sh.ite (fun h => Sh.bind (ih (.decl 4 true) _ _ (.inr (.inr rfl))) fun t us h2 => Sh.end' h2) fun _ => ?_
      refine Sh.ite (fun h => Sh.name fun s => ih _ _ _ (.inl rfl)) fun _ => ?_
      refine Sh.ite (fun h => Sh.bind (ih .around _ _ trivial) fun x us h2 => Sh.bind (Sh.within (ih .stmt _ _ trivial)) fun y vs h3 => Sh.ite (fun h4 => Sh.bind (Sh.within (ih .stmt _ _ trivial)) fun z xs h5 => Sh.ok ⟨⟨by omega, by omega, fun _ => .inr rfl, by omega⟩, h2, h3, h5, trivial⟩) fun _ => Sh.ok (two_ok h2 h3 (by omega))) fun _ => ?_
      refine Sh.ite (fun h => Sh.bind (ih .around _ _ trivial) fun t us h2 => Sh.bind (Sh.within (ih .stmt _ _ trivial)) fun t vs h3 => Sh.ok (two_ok h2 h3 (by omega))) fun _ => ?_
      refine Sh.ite (fun h => Sh.bind (ih .around _ _ trivial) fun t us h2 => Sh.bind (Sh.within (ih .stmt _ _ trivial)) fun t vs h3 => Sh.ok (two_ok h2 h3 (by omega))) fun _ => ?_
      refine Sh.ite (fun h => Sh.ite (fun h1 => Sh.end' (WT.leaf (by omega))) (fun _ => Sh.bind (ih .value _ _ trivial) fun t us h2 => Sh.end' (one_ok h2 (by omega)))) fun _ => ?_
      refine Sh.ite (fun h => Sh.bind (ih .value _ _ trivial) fun t us h2 => Sh.end' (one_ok h2 (by omega))) fun _ => ?_
      refine Sh.ite (fun h => ih _ _ _ trivial) fun _ => ?_
      exact Sh.bind (ih .value _ _ trivial) fun t us h2 => Sh.end' (one_ok h2 (by omega))
    | decl kind must =>
      have hk : kind = 2 ∨ kind = 3 ∨ kind = 4 := hg
      unfold parseF
      exact Sh.name fun s => Sh.ite (fun _ => Sh.fail) fun _ => Sh.ite (fun h2 => Sh.bind (ih .value _ _ trivial) fun t us h3 => Sh.ok (one_ok h3 (by omega))) fun _ => Sh.ok (WT.leaf (by omega))
    | try_ =>
      unfold parseF
      refine Sh.bind (ih (.block false) _ _ trivial) fun b us h => ?_
      have hk : ∀ (l : List Tree) (vs : List Tok), WTL l → Sh (if isT s_finally vs then bindT (parseF f (.block false) d vs.tail) fun c ts => okT (.mk 12 ByteArray.empty 0 (l ++ [.mk 14 ByteArray.empty 0 [c]])) ts else if l.length = 1 then failT 3 vs else okT (.mk 12 ByteArray.empty 0 l) vs) := by
        intro l vs h2
        exact Sh.ite (fun _ => Sh.bind (ih (.block false) _ _ trivial) fun t xs h3 => Sh.ok (list_ok (WTL_app h2 ⟨one_ok h3 (by omega), trivial⟩) (by omega))) fun _ => Sh.ite (fun _ => Sh.fail) fun _ => Sh.ok (list_ok h2 (by omega))
      refine Sh.ite (fun h1 => ?_) fun _ => hk _ _ ⟨h, trivial⟩
      exact Sh.want (Sh.name fun s => Sh.want (Sh.bind (ih (.block false) _ _ trivial) fun c vs h5 => hk _ _ ⟨h, one_ok h5 (by omega), trivial⟩))
    | value => unfold parseF; exact Sh.within (ih _ _ _ trivial)
    | assign =>
      unfold parseF
      exact Sh.bind (ih (.bin 0) _ _ trivial) fun x us h => Sh.ite (fun h1 => Sh.ite (fun _ => Sh.bind (ih .value _ _ trivial) fun y vs h2 => Sh.ok (two_ok h h2 (by omega))) fun _ => Sh.err) fun _ => Sh.ok h
    | bin level =>
      unfold parseF
      exact Sh.ite (fun _ => ih _ _ _ trivial) fun _ => Sh.bind (ih (.bin (level + 1)) _ _ trivial) fun x us h => ih _ _ _ h
    | binLoop level x =>
      unfold parseF
      exact Sh.ite (fun _ => Sh.ok hg) fun h0 => Sh.bind (ih (.bin (level + 1)) _ _ trivial) fun y us h => ih _ _ _ (show Job.good (.binLoop level (.mk (levelT level ts) ByteArray.empty 0 [x, y])) from two_ok (s := ByteArray.empty) (n := 0) hg h (by have := levelT_in level ts; omega))
    | unary =>
      unfold parseF
      exact Sh.ite (fun _ => ih _ _ _ trivial) fun h0 => Sh.bind (Sh.within (ih .unary _ _ trivial)) fun x us h => Sh.ok (one_ok h (by have := unaryT_in ts; omega))
    | postfix_ =>
      unfold parseF
      exact Sh.bind (ih .primary _ _ trivial) fun x us h => ih _ _ _ h
    | postLoop x =>
      unfold parseF
      exact Sh.ite (fun _ => Sh.name fun s => ih _ _ _ (show Job.good (.postLoop (.mk 36 s 0 [x])) from one_ok (s := s) (n := 0) hg (by omega))) fun _ => Sh.ite (fun _ => Sh.bind (ih (.args [x]) _ _ ⟨⟨hg, trivial⟩, by simp⟩) fun n us h => ih _ _ _ h) fun _ => Sh.ok hg
    | args acc =>
      unfold parseF
      refine Sh.ite (fun _ => Sh.ok ⟨⟨fun _ => by have := hg.2; simpa using this, by omega, by omega, by omega⟩, hg.1⟩) fun _ => ?_
      exact Sh.comma fun ts' => Sh.ite (fun _ => Sh.fail) fun _ => Sh.bind (ih .value _ _ trivial) fun v us h => ih _ _ _ ⟨WTL_app hg.1 ⟨h, trivial⟩, by simp⟩
    | primary =>
      unfold parseF
      refine Sh.ite (fun h => Sh.ok (WT.leaf (by omega))) fun _ => ?_
      refine Sh.ite (fun h => Sh.ok (WT.leaf (by omega))) fun _ => ?_
      refine Sh.ite (fun h => Sh.ok (WT.leaf (by omega))) fun _ => ?_
      refine Sh.ite (fun h => Sh.ok (WT.leaf (by have := constT_in ts; omega))) fun _ => ?_
      refine Sh.ite (fun h => ih _ _ _ trivial) fun _ => ?_
      refine Sh.ite (fun h => Sh.ite (fun _ => ih _ _ _ (.inr rfl)) fun _ => ih _ _ _ (.inr rfl)) fun _ => ?_
      exact Sh.ite (fun h => ih _ _ _ trivial) fun _ => Sh.fail
    | object acc =>
      unfold parseF
      refine Sh.ite (fun _ => Sh.ok (list_ok hg (by omega))) fun _ => ?_
      exact Sh.comma fun ts' => Sh.ite (fun _ => Sh.fail) fun _ => Sh.name fun s => Sh.want (Sh.bind (ih .value _ _ trivial) fun v us h => ih _ _ _ (WTL_app hg ⟨one_ok h (by omega), trivial⟩))
end Go.Proofs.YtgifgiipojedbaaGreatDoor

namespace Go.Proofs.YtgifgiipojedbaaGreatDoor
open Go Go.RowKit
set_option maxRecDepth 100000
set_option linter.unusedVariables false

/-- every node has kids as its kind asks -/
def WA (a : ATree) : Prop := ∀ x ∈ a.subs, Ar x.kind x.kids.length
theorem WA.kid {a k : ATree} (h : WA a) (hk : k ∈ a.kids) : WA k := fun x hx => h x (subs_kid hk hx)
theorem WA.self {a : ATree} (h : WA a) : Ar a.kind a.kids.length := h a (subs_self a)
theorem WA.call {a : ATree} (h : WA a) : CallKids a := fun x hx h35 e => (h x hx).call h35 (by rw [e]; rfl)
mutual
theorem wa_of : ∀ (a : ATree), WT a.tree → WA a
  | .mk b v k t n ks, h => by
    intro x hx
    simp only [ATree.tree, WT] at h
    simp only [ATree.subs, List.mem_cons] at hx
    rcases hx with rfl | hx
    · simp only [ATree.kind, ATree.kids]
      have := h.1
      rw [treeL_map, List.length_map] at this
      exact this
    · exact wa_ofL ks h.2 x hx
theorem wa_ofL : ∀ (l : List ATree), WTL (treeL l) → ∀ x ∈ subsL l, Ar x.kind x.kids.length
  | [], _, x, hx => by simp [subsL] at hx
  | a :: l, h, x, hx => by
    simp only [treeL, WTL] at h
    simp only [subsL, List.mem_append] at hx
    rcases hx with hx | hx
    · exact wa_of a h.1 x hx
    · exact wa_ofL l h.2 x hx
end
theorem two_of {l : List ATree} (h : l.length = 2) : ∃ x y, l = [x, y] := by
  match l, h with
  | [x, y], _ => exact ⟨x, y, rfl⟩
end Go.Proofs.YtgifgiipojedbaaGreatDoor

namespace Go.Proofs.YtgifgiipojedbaaGreatDoor
open Go Go.RowKit
set_option maxRecDepth 100000
set_option linter.unusedVariables false

/-- a node's check -/
def ENode (B m : Nat) : Prop :=
  ∀ (a : ATree) (w : World) (st ins : Bool), a.many ≤ m → WA a → a.many < 274877906944 → TreeAt w B a →
    Calls Tryz.prog 88 #[.agg #[.bool st, .bool ins], a.ptr] w fun e w' => e = .returned (.int .i64 (nodeE a st ins)) ∧ Below w.heap.size w w'
def EKids (B m : Nat) : Prop :=
  ∀ (a : ATree) (w : World) (st ins : Bool), a.many ≤ m + 1 → (∀ k ∈ a.kids, WA k) → a.many < 274877906944 → TreeAt w B a →
    Calls Tryz.prog 47 #[.agg #[.bool st, .bool ins], a.ptr] w fun e w' => e = .returned (.int .i64 (kidsE a.kids st ins)) ∧ Below w.heap.size w w'
theorem kidsE_step {l : List ATree} {k : Nat} {x : ATree} {st ins : Bool} (h : l[k]? = some x) : kidsE (l.drop k) st ins = if nodeE x st ins ≠ 0 then nodeE x st ins else kidsE (l.drop (k + 1)) st ins := by
  obtain ⟨hk, he⟩ := List.getElem?_eq_some_iff.1 h
  rw [List.drop_eq_getElem_cons hk, he]
  rfl

set_option maxHeartbeats 8000000 in
theorem ekids_of {B m : Nat} (hN : ENode B m) : EKids B m := by
  intro a w st ins hm hA hbig hT
  obtain ⟨p, cp, hv, hge, hmx⟩ := hT.vOf
  have c3 : w.cell? ⟨a.b, 3, none⟩ = some (.slice p a.kids.length cp) := by rw [← hv]; exact hT.c3
  have hlen : a.kids.length ≤ 9223372036854775807 := by unfold maxLen at hmx; omega
  have hba : Below w.heap.size w (w.alloc (.cells #[.bool st, .bool ins] 69)) := (Below.refl _ _).alloc (Nat.le_refl _) _
  have c3' : (w.alloc (.cells #[.bool st, .bool ins] 69)).cell? ⟨a.b, 3, none⟩ = some (.slice p a.kids.length cp) := (cell_old hT.lt).trans c3
  have d0 : (w.alloc (.cells #[.bool st, .bool ins] 69)).cell? ⟨w.heap.size, 0, none⟩ = some (.bool st) := by simp
  have d1 : (w.alloc (.cells #[.bool st, .bool ins] 69)).cell? ⟨w.heap.size, 1, none⟩ = some (.bool ins) := by simp
  have hsz : (w.alloc (.cells #[.bool st, .bool ins] 69)).heap.size = w.heap.size + 1 := by simp
  have HN := Lib.hid (fun (x : ATree) (hx : x ∈ a.kids) (W : World) (h : TreeAt W B x) => hN x W st ins (by have := many_kid hx; omega) (hA x hx) (by have := many_kid hx; omega) h)
  have HT := Lib.hid hT
  have HBA := Lib.hid hba
  have HV := Lib.hid hv
  obtain ⟨n, hnn⟩ : ∃ n, n = a.kids.length := ⟨_, rfl⟩
  rw [← hnn] at c3 c3' hlen hge
  have HNN := Lib.hid hnn
  obtain ⟨R, hR⟩ : ∃ R, R = kidsE a.kids st ins := ⟨_, rfl⟩
  rw [← hR]
  have HR := Lib.hid hR
  obtain ⟨w1, hw1⟩ : ∃ w1, w1 = w.alloc (.cells #[.bool st, .bool ins] 69) := ⟨_, rfl⟩
  have HW1 := Lib.hid hw1
  rw [← hw1] at hsz d0 d1
  have HSZ := Lib.hid hsz
  have D0 := Lib.hid d0
  have D1 := Lib.hid d1
  clear hN hA hT hm hbig hba hv hnn hR hw1 hsz d0 d1
  unfold ATree.ptr
  go_enter Tryz.func47, Tryz.ntmps47
  go_wp2_with fail
  go_loopw [15] (fun i wr => ∃ (k : Nat), k ≤ n ∧ i = .int .i64 k ∧ Hid (Below w1.heap.size w1 wr) ∧ Hid (kidsE (a.kids.drop k) st ins = R)) (fun i _ => n - (intOf i).toNat)
  case atStart => exact ⟨0, Nat.zero_le _, rfl, Lib.hid (by rw [HW1.out]; exact Below.refl _ _), Lib.hid HR.out.symm⟩
  case round =>
    obtain ⟨k, hk, rfl, HB, HRR⟩ := hrel
    have e0 : wr.cell? ⟨w.heap.size, 0, none⟩ = some (.bool st) := (World.cell?_of_block (HB.out.block w.heap.size (by rw [HSZ.out]; omega))).trans D0.out
    have e1 : wr.cell? ⟨w.heap.size, 1, none⟩ = some (.bool ins) := (World.cell?_of_block (HB.out.block w.heap.size (by rw [HSZ.out]; omega))).trans D1.out
    have HBW : Hid (Below w.heap.size w wr) := Lib.hid (by
      have h1 := HBA.out
      rw [← HW1.out] at h1
      exact h1.trans (HB.out.mono h1.size))
    by_cases hkn : k < n
    · obtain ⟨x, hx⟩ : ∃ x, a.kids[k]? = some x := ⟨_, List.getElem?_eq_getElem (by rw [← HNN.out]; exact hkn)⟩
      have hT2 : TreeAt wr B a := HT.out.bel HBW.out
      have hrow := hT2.rowOf
      rcases ownsRow_cases hrow with ⟨_, h2⟩ | ⟨g0, cap0, hv0, _⟩
      · rw [← HNN.out] at h2; omega
      have hp : p = some ⟨g0, 0, none⟩ := by
        have := HV.out.symm.trans hv0
        simp only [Value.slice.injEq] at this
        exact this.1
      subst hp
      have cx := ownsRow_cell1 hrow (g := g0) (by rw [hv0]; rfl) (i := k) (x := x.ptr) (by rw [List.getElem?_map, hx]; rfl)
      have hmem : x ∈ a.kids := List.mem_of_getElem? hx
      have hcall := HN.out x hmem wr (hT2.kid hmem)
      have hstep := kidsE_step (st := st) (ins := ins) hx
      rw [HRR.out] at hstep
      obtain ⟨r, hr⟩ : ∃ r, r = nodeE x st ins := ⟨_, rfl⟩
      rw [← hr] at hcall hstep
      unfold ATree.ptr at cx hcall
      have HCALL := Lib.hid hcall
      have STEP := Lib.hid hstep
      clear hT2 hrow hv0 hx hcall hmem hstep hr
      go_wp2_with fail
      refine HCALL.out.mono ?_
      rintro e w2 ⟨rfl, hb2⟩
      have hsw : w1.heap.size ≤ wr.heap.size := HB.out.size
      have HB2 := Lib.hid (HB.out.trans (hb2.mono hsw))
      have HBW2 := Lib.hid (HBW.out.trans (hb2.mono HBW.out.size))
      clear hb2 HCALL
      by_cases hz : r = 0
      · subst hz
        go_wp2
        go_roundw
        case rel =>
          have h1 := STEP.out
          simp only [ne_eq, not_true_eq_false, if_false] at h1
          exact ⟨k + 1, by omega, by go_num, HB2, Lib.hid h1.symm⟩
        case measure => simp [intOf]; omega
      · have n0 : (r != 0) = true := by simpa using hz
        have HZ := Lib.hid hz
        clear hz
        go_wp2
        go_ret
        refine ⟨?_, HBW2.out⟩
        have h1 := STEP.out
        rw [if_pos HZ.out] at h1
        rw [h1]
        rfl
    · have hk2 : k = n := by omega
      subst hk2
      go_wp2
      go_ret
      refine ⟨?_, HBW.out⟩
      have h1 := HRR.out
      rw [List.drop_of_length_le (by rw [← HNN.out]; exact Nat.le_refl _)] at h1
      rw [← h1]
      rfl
end Go.Proofs.YtgifgiipojedbaaGreatDoor
