/- Package tree: a program has no more nodes than twice its tokens. Package tree: how many kids a node has. The law WherePlain: the closure that looks for with and calls of eval. The law WherePlain, plain: what the finder tells goes up; all of it is sure where there is no with and no call of eval. -/
import Derived.Test.YtgifgiipojedbaaDoorJ04
import Derived.Test.YtgifgiipojedbaaDoorJ14
namespace Go.Proofs.YtgifgiipojedbaaDoor
open Go Go.RowKit
set_option maxRecDepth 100000
set_option linter.unusedVariables false

def Bnd (n : Nat) (p : PR) : Prop := ∀ t ts, p = some (.ok (t, ts)) → t.many + 2 * ts.length ≤ n
theorem Bnd.fail {n : Nat} {e : Int} {ts : List Tok} : Bnd n (failT e ts) := by intro t ts' h; cases h
theorem Bnd.none {n : Nat} : Bnd n none := by intro t ts' h; cases h
theorem Bnd.err {n : Nat} {e : Int × Nat} : Bnd n (some (.error e)) := by intro t ts' h; cases h
theorem Bnd.ok {n : Nat} {t : Tree} {ts : List Tok} (h : t.many + 2 * ts.length ≤ n) : Bnd n (okT t ts) := by
  intro t' ts' h'
  simp only [okT, Option.some.injEq, Except.ok.injEq, Prod.mk.injEq] at h'
  rw [← h'.1, ← h'.2]; exact h
theorem Bnd.bind {n m : Nat} {p : PR} {k : Tree → List Tok → PR} (hp : Bnd m p) (hk : ∀ t ts, t.many + 2 * ts.length ≤ m → Bnd n (k t ts)) : Bnd n (bindT p k) := by
  cases p with
  | none => exact Bnd.none
  | some r =>
    cases r with
    | error e => exact Bnd.err
    | ok x => obtain ⟨t, ts⟩ := x; exact hk t ts (hp t ts rfl)
theorem Bnd.want {n : Nat} {s : ByteArray} {ts : List Tok} {k : List Tok → PR} (hk : ts.tail.length < ts.length → Bnd n (k ts.tail)) : Bnd n (wantT s ts k) := by
  unfold wantT
  by_cases h : isT s ts = true
  · rw [if_pos h]; exact hk (isT_cons h)
  · rw [if_neg h]; exact Bnd.fail
theorem Bnd.name {n : Nat} {ts : List Tok} {k : ByteArray → List Tok → PR} (hk : ∀ s, ts.tail.length < ts.length → Bnd n (k s ts.tail)) : Bnd n (nameT ts k) := by
  unfold nameT
  by_cases h : (hdT ts).kind = 1
  · rw [if_pos h]; exact hk _ (kind_cons (by omega))
  · rw [if_neg h]; exact Bnd.fail
theorem Bnd.within {n d : Nat} {ts : List Tok} {p : PR} (h : Bnd n p) : Bnd n (withinT d ts p) := by
  unfold withinT
  by_cases h' : 30 < d + 1
  · rw [if_pos h']; exact Bnd.fail
  · rw [if_neg h']; exact h
theorem Bnd.ite {n : Nat} {c : Prop} [Decidable c] {p q : PR} (hp : c → Bnd n p) (hq : ¬ c → Bnd n q) : Bnd n (if c then p else q) := by
  by_cases h : c
  · rw [if_pos h]; exact hp h
  · rw [if_neg h]; exact hq h
theorem Bnd.comma {n : Nat} {c : Prop} [Decidable c] {ts : List Tok} {k : List Tok → PR} (hk : ∀ ts', ts'.length ≤ ts.length → Bnd n (k ts')) : Bnd n ((if c then wantT s_comma ts else fun k => k ts) k) := by
  by_cases h : c
  · rw [if_pos h]; exact Bnd.want fun h' => hk _ (by omega)
  · rw [if_neg h]; exact hk _ (Nat.le_refl _)
theorem Bnd.end' {n : Nat} {t : Tree} {ts : List Tok} (h : t.many + 2 * ts.length ≤ n + 2) : Bnd n (endT t ts) := Bnd.want fun h' => Bnd.ok (by omega)
def Job.base : Job → Nat
  | .stmts _ acc => manyL acc + 1
  | .params acc => manyL acc + 1
  | .try_ => 1
  | .binLoop _ x => x.many
  | .postLoop x => x.many
  | .args acc => manyL acc + 1
  | .object acc => manyL acc + 1
  | _ => 0
theorem manyL_app (l m : List Tree) : manyL (l ++ m) = manyL l + manyL m := by
  induction l with
  | nil => simp [manyL]
  | cons x l ih => simp only [List.cons_append, manyL, ih]; omega
theorem many_mk (k : Int) (s : ByteArray) (n : Int) (l : List Tree) : (Tree.mk k s n l).many = manyL l + 1 := by simp [Tree.many]
theorem manyL_one (x : Tree) : manyL [x] = x.many := by simp [manyL]
theorem manyL_two (x y : Tree) : manyL [x, y] = x.many + y.many := by simp [manyL]
theorem manyL_three (x y z : Tree) : manyL [x, y, z] = x.many + y.many + z.many := by simp [manyL]; omega
theorem manyL_nil : manyL [] = 0 := by simp [manyL]
theorem many_kids (x : Tree) : x.many = manyL x.kids + 1 := by cases x; simp [Tree.many, Tree.kids]

set_option maxHeartbeats 4000000 in
theorem parse_many : ∀ (f : Nat) (job : Job) (d : Nat) (ts : List Tok), Bnd (job.base + 2 * ts.length) (parseF f job d ts) := by
  intro f
  induction f with
  | zero => intro job d ts; exact Bnd.none
  | succ f ih =>
    intro job d ts
    have htl := tail_le ts
    have ih' : ∀ (job : Job) (d : Nat) (us : List Tok) {n : Nat}, job.base + 2 * us.length ≤ n → Bnd n (parseF f job d us) := fun job d us n h t vs hp => Nat.le_trans (ih job d us t vs hp) h
    cases job with
    | stmts kind acc =>
      rw [parseF]
      refine Bnd.ite (fun _ => Bnd.ok ?_) fun _ => Bnd.bind (Bnd.within (ih .stmt _ _)) fun t us h => ih' _ _ _ ?_
      · rw [many_mk]; simp only [Job.base]; omega
      · simp only [Job.base, manyL_app, manyL_one] at *; omega
    | block body =>
      rw [parseF]
      refine Bnd.want fun h1 => Bnd.bind (ih (.stmts 6 []) _ _) fun t us h => Bnd.want fun h2 => Bnd.ok ?_
      simp only [Job.base, manyL_nil] at *
      cases body
      · simp only [Bool.false_eq_true, if_false]; rw [many_mk]; rw [many_kids] at h; omega
      · simp only [if_true]; omega
    | func kind text =>
      rw [parseF]
      refine Bnd.want fun h1 => Bnd.bind (ih (.params []) _ _) fun t us h => Bnd.want fun h2 => Bnd.bind (ih (.block true) _ _) fun t vs h3 => Bnd.ok ?_
      simp only [Job.base, manyL_nil, many_mk, manyL_two] at *; omega
    | params acc =>
      rw [parseF]
      refine Bnd.ite (fun _ => Bnd.ok ?_) fun _ => Bnd.comma fun us h => Bnd.ite (fun _ => Bnd.fail) fun _ => Bnd.name fun s h2 => ih' _ _ _ ?_
      · rw [many_mk]; simp only [Job.base]; omega
      · simp only [Job.base, manyL_app, manyL_one, many_mk, manyL_nil] at *; omega
    | around =>
      rw [parseF]
      refine Bnd.want fun h1 => Bnd.bind (ih .value _ _) fun t us h => Bnd.want fun h2 => Bnd.ok ?_
      simp only [Job.base] at *; omega
    | stmt =>
      rw [parseF]
      refine Bnd.ite (fun h => ih' _ _ _ (by simp only [Job.base]; omega)) fun _ => ?_
      refine Bnd.ite (fun h => Bnd.ok (by have := isT_cons h; simp only [Job.base, many_mk, manyL_nil]; omega)) fun _ => ?_
      refine Bnd.ite (fun h => Bnd.bind (ih _ _ _) fun t us h2 => Bnd.end' (by simp only [Job.base] at *; omega)) fun _ => ?_
      refine Bnd.ite (fun h => Bnd.bind (ih _ _ _) fun t us h2 => Bnd.end' (by simp only [Job.base] at *; omega)) fun _ => ?_
      refine Bnd.ite (fun h => Bnd.bind (ih _ _ _) fun t us h2 => Bnd.end' (by simp only [Job.base] at *; omega)) fun _ => ?_
      refine Bnd.ite (fun h => Bnd.name fun s h2 => ih' _ _ _ (by simp only [Job.base]; omega)) fun _ => ?_
      refine Bnd.ite (fun h => ?_) fun _ => ?_
      · have := isT_cons h
        refine Bnd.bind (ih .around _ _) fun t us h2 => Bnd.bind (Bnd.within (ih .stmt _ _)) fun t vs h3 => ?_
        have := tail_le vs
        exact Bnd.ite (fun h4 => Bnd.bind (Bnd.within (ih .stmt _ _)) fun t xs h5 => Bnd.ok (by simp only [Job.base, many_mk, manyL_three] at *; omega)) fun _ => Bnd.ok (by simp only [Job.base, many_mk, manyL_two] at *; omega)
      refine Bnd.ite (fun h => ?_) fun _ => ?_
      · have := isT_cons h
        exact Bnd.bind (ih .around _ _) fun t us h2 => Bnd.bind (Bnd.within (ih .stmt _ _)) fun t vs h3 => Bnd.ok (by simp only [Job.base, many_mk, manyL_two] at *; omega)
      refine Bnd.ite (fun h => ?_) fun _ => ?_
      · have := isT_cons h
        exact Bnd.bind (ih .around _ _) fun t us h2 => Bnd.bind (Bnd.within (ih .stmt _ _)) fun t vs h3 => Bnd.ok (by simp only [Job.base, many_mk, manyL_two] at *; omega)
      refine Bnd.ite (fun h => ?_) fun _ => ?_
      · have := isT_cons h
        exact Bnd.ite (fun h1 => Bnd.end' (by simp only [Job.base, many_mk, manyL_nil] at *; omega)) fun _ => Bnd.bind (ih .value _ _) fun t us h2 => Bnd.end' (by simp only [Job.base, many_mk, manyL_one] at *; omega)
      refine Bnd.ite (fun h => ?_) fun _ => ?_
      · have := isT_cons h
        exact Bnd.bind (ih .value _ _) fun t us h2 => Bnd.end' (by simp only [Job.base, many_mk, manyL_one] at *; omega)
      refine Bnd.ite (fun h => ih' _ _ _ (by have := isT_cons h; simp only [Job.base]; omega)) fun _ => ?_
      exact Bnd.bind (ih .value _ _) fun t us h2 => Bnd.end' (by simp only [Job.base, many_mk, manyL_one] at *; omega)
    | decl kind must =>
      rw [parseF]
      refine Bnd.name fun s h => Bnd.ite (fun _ => Bnd.fail) fun _ => Bnd.ite (fun h2 => Bnd.bind (ih .value _ _) fun t us h3 => Bnd.ok ?_) fun _ => Bnd.ok ?_
      · have := tail_le ts.tail; simp only [Job.base, many_mk, manyL_one] at *; omega
      · simp only [Job.base, many_mk, manyL_nil] at *; omega
    | try_ =>
      rw [parseF]
      refine Bnd.bind (ih (.block false) _ _) fun b us h => ?_
      have hk : ∀ (l : List Tree) (vs : List Tok), manyL l + 2 * vs.length ≤ 2 * ts.length → Bnd (1 + 2 * ts.length) (if isT s_finally vs then bindT (parseF f (.block false) d vs.tail) fun c ts => okT (.mk 12 ByteArray.empty 0 (l ++ [.mk 14 ByteArray.empty 0 [c]])) ts else if l.length = 1 then failT 3 vs else okT (.mk 12 ByteArray.empty 0 l) vs) := by
        intro l vs h2
        refine Bnd.ite (fun h3 => Bnd.bind (ih (.block false) _ _) fun t xs h4 => Bnd.ok ?_) fun _ => Bnd.ite (fun _ => Bnd.fail) fun _ => Bnd.ok ?_
        · have := isT_cons h3; simp only [Job.base, many_mk, manyL_app, manyL_one] at *; omega
        · rw [many_mk]; omega
      refine Bnd.ite (fun h1 => ?_) fun _ => hk _ _ (by simp only [Job.base, manyL_one] at *; omega)
      have := isT_cons h1
      refine Bnd.want fun h2 => Bnd.name fun s h3 => Bnd.want fun h4 => Bnd.bind (ih (.block false) _ _) fun c vs h5 => hk _ _ ?_
      simp only [Job.base, many_mk, manyL_one, manyL_two] at *; omega
    | value => rw [parseF]; exact Bnd.within (ih' _ _ _ (by simp only [Job.base]; omega))
    | assign =>
      rw [parseF]
      refine Bnd.bind (ih (.bin 0) _ _) fun x us h => Bnd.ite (fun h1 => Bnd.ite (fun _ => Bnd.bind (ih .value _ _) fun y vs h2 => Bnd.ok ?_) fun _ => Bnd.err) fun _ => Bnd.ok ?_
      · have := isT_cons h1; simp only [Job.base, many_mk, manyL_two] at *; omega
      · simp only [Job.base] at *; omega
    | bin level =>
      rw [parseF]
      refine Bnd.ite (fun h => ih' _ _ _ (by simp only [Job.base]; omega)) fun h => Bnd.bind (ih (.bin (level + 1)) _ _) fun x us h => ih' _ _ _ (by simp only [Job.base] at *; omega)
    | binLoop level x =>
      rw [parseF]
      refine Bnd.ite (fun _ => Bnd.ok (by simp only [Job.base]; omega)) fun h0 => Bnd.bind (ih (.bin (level + 1)) _ _) fun y us h => ih' _ _ _ ?_
      have := levelT_cons h0; simp only [Job.base, many_mk, manyL_two] at *; omega
    | unary =>
      rw [parseF]
      refine Bnd.ite (fun _ => ih' _ _ _ (by simp only [Job.base]; omega)) fun h0 => Bnd.bind (Bnd.within (ih .unary _ _)) fun y us h => Bnd.ok ?_
      have := unaryT_cons h0; simp only [Job.base, many_mk, manyL_one] at *; omega
    | postfix_ =>
      rw [parseF]
      exact Bnd.bind (ih .primary _ _) fun y us h => ih' _ _ _ (by simp only [Job.base] at *; omega)
    | postLoop x =>
      rw [parseF]
      refine Bnd.ite (fun h => Bnd.name fun s h2 => ih' _ _ _ ?_) fun _ => Bnd.ite (fun h => ?_) fun _ => Bnd.ok (by simp only [Job.base]; omega)
      · have := isT_cons h; simp only [Job.base, many_mk, manyL_one] at *; omega
      · have := isT_cons h
        exact Bnd.bind (ih (.args [x]) _ _) fun y us h => ih' _ _ _ (by simp only [Job.base, manyL_one] at *; omega)
    | args acc =>
      rw [parseF]
      refine Bnd.ite (fun h => Bnd.ok ?_) fun _ => Bnd.comma fun us h => Bnd.ite (fun _ => Bnd.fail) fun _ => Bnd.bind (ih .value _ _) fun y vs h2 => ih' _ _ _ ?_
      · rw [many_mk]; simp only [Job.base]; omega
      · simp only [Job.base, manyL_app, manyL_one] at *; omega
    | primary =>
      rw [parseF]
      have := tail_le ts.tail
      refine Bnd.ite (fun h => Bnd.ok ?_) fun _ => Bnd.ite (fun h => Bnd.ok ?_) fun _ => Bnd.ite (fun h => Bnd.ok ?_) fun _ => Bnd.ite (fun h => Bnd.ok ?_) fun _ => ?_
      · have := kind_cons (ts := ts) (by omega); simp only [Job.base, many_mk, manyL_nil] at *; omega
      · have := kind_cons (ts := ts) (by omega); simp only [Job.base, many_mk, manyL_nil] at *; omega
      · have := kind_cons (ts := ts) (by omega); simp only [Job.base, many_mk, manyL_nil] at *; omega
      · have : ts.tail.length < ts.length := by
          unfold constT at h
          by_cases h1 : isT s_true ts = true
          · exact isT_cons h1
          · by_cases h2 : isT s_false ts = true
            · exact isT_cons h2
            · by_cases h3 : isT s_null ts = true
              · exact isT_cons h3
              · by_cases h4 : isT s_undefined ts = true
                · exact isT_cons h4
                · simp [h1, h2, h3, h4] at h
        simp only [Job.base, many_mk, manyL_nil] at *; omega
      refine Bnd.ite (fun _ => ih' _ _ _ (by simp only [Job.base]; omega)) fun _ => ?_
      refine Bnd.ite (fun _ => Bnd.ite (fun _ => ih' _ _ _ (by simp only [Job.base]; omega)) fun _ => ih' _ _ _ (by simp only [Job.base]; omega)) fun _ => ?_
      exact Bnd.ite (fun h => ih' _ _ _ (by have := isT_cons h; simp only [Job.base, manyL_nil]; omega)) fun _ => Bnd.fail
    | object acc =>
      rw [parseF]
      refine Bnd.ite (fun h => Bnd.ok ?_) fun _ => Bnd.comma fun us h => Bnd.ite (fun _ => Bnd.fail) fun _ => Bnd.name fun s h1 => Bnd.want fun h2 => Bnd.bind (ih .value _ _) fun y vs h3 => ih' _ _ _ ?_
      · rw [many_mk]; simp only [Job.base]; omega
      · simp only [Job.base, manyL_app, manyL_one, many_mk] at *; omega
end Go.Proofs.YtgifgiipojedbaaDoor

namespace Go.Proofs.YtgifgiipojedbaaDoor
open Go Go.RowKit
set_option maxRecDepth 100000
set_option linter.unusedVariables false

/-- kids as their kind asks -/
structure Ar (k : Int) (n : Nat) : Prop where
  call : k = 35 → n ≠ 0
  two : k = 9 ∨ k = 8 ∨ k = 24 ∨ k = 5 ∨ k = 37 → n = 2
  if' : k = 7 → n = 2 ∨ n = 3
  one : k = 13 ∨ k = 34 → n = 1
theorem Ar.any {k : Int} {n : Nat} (h : k ≠ 35 ∧ k ≠ 9 ∧ k ≠ 8 ∧ k ≠ 24 ∧ k ≠ 5 ∧ k ≠ 37 ∧ k ≠ 7 ∧ k ≠ 13 ∧ k ≠ 34) : Ar k n := ⟨by omega, by omega, by omega, by omega⟩
mutual
def WT : Tree → Prop
  | .mk k _ _ l => Ar k l.length ∧ WTL l
def WTL : List Tree → Prop
  | [] => True
  | t :: l => WT t ∧ WTL l
end
theorem WTL_app {l m : List Tree} (h : WTL l) (g : WTL m) : WTL (l ++ m) := by
  induction l with
  | nil => exact g
  | cons x l ih => exact ⟨h.1, ih h.2⟩
theorem WT.kids {t : Tree} (h : WT t) : WTL t.kids := by cases t; exact h.2
theorem WT.leaf {k : Int} {s : ByteArray} {n : Int} (h : k ≠ 35 ∧ k ≠ 9 ∧ k ≠ 8 ∧ k ≠ 24 ∧ k ≠ 5 ∧ k ≠ 37 ∧ k ≠ 7 ∧ k ≠ 13 ∧ k ≠ 34) : WT (.mk k s n []) := ⟨Ar.any h, trivial⟩

def Sh (p : PR) : Prop := ∀ t ts, p = some (.ok (t, ts)) → WT t
theorem Sh.fail {e : Int} {ts : List Tok} : Sh (failT e ts) := by intro t ts' h; cases h
theorem Sh.none : Sh none := by intro t ts' h; cases h
theorem Sh.err {e : Int × Nat} : Sh (some (.error e)) := by intro t ts' h; cases h
theorem Sh.ok {t : Tree} {ts : List Tok} (h : WT t) : Sh (okT t ts) := by
  intro t' ts' h'
  simp only [okT, Option.some.injEq, Except.ok.injEq, Prod.mk.injEq] at h'
  rw [← h'.1]; exact h
theorem Sh.bind {p : PR} {k : Tree → List Tok → PR} (hp : Sh p) (hk : ∀ t ts, WT t → Sh (k t ts)) : Sh (bindT p k) := by
  cases p with
  | none => exact Sh.none
  | some r =>
    cases r with
    | error e => exact Sh.err
    | ok x => obtain ⟨t, ts⟩ := x; exact hk t ts (hp t ts rfl)
theorem Sh.want {s : ByteArray} {ts : List Tok} {k : List Tok → PR} (hk : Sh (k ts.tail)) : Sh (wantT s ts k) := by
  unfold wantT
  by_cases h : isT s ts = true
  · rw [if_pos h]; exact hk
  · rw [if_neg h]; exact Sh.fail
theorem Sh.name {ts : List Tok} {k : ByteArray → List Tok → PR} (hk : ∀ s, Sh (k s ts.tail)) : Sh (nameT ts k) := by
  unfold nameT
  by_cases h : (hdT ts).kind = 1
  · rw [if_pos h]; exact hk _
  · rw [if_neg h]; exact Sh.fail
theorem Sh.within {d : Nat} {ts : List Tok} {p : PR} (h : Sh p) : Sh (withinT d ts p) := by
  unfold withinT
  by_cases h' : 30 < d + 1
  · rw [if_pos h']; exact Sh.fail
  · rw [if_neg h']; exact h
theorem Sh.ite {c : Prop} [Decidable c] {p q : PR} (hp : c → Sh p) (hq : ¬ c → Sh q) : Sh (if c then p else q) := by
  by_cases h : c
  · rw [if_pos h]; exact hp h
  · rw [if_neg h]; exact hq h
theorem Sh.comma {c : Prop} [Decidable c] {ts : List Tok} {k : List Tok → PR} (hk : ∀ ts', Sh (k ts')) : Sh ((if c then wantT s_comma ts else fun k => k ts) k) := by
  by_cases h : c
  · rw [if_pos h]; exact Sh.want (hk _)
  · rw [if_neg h]; exact hk _
theorem Sh.end' {t : Tree} {ts : List Tok} (h : WT t) : Sh (endT t ts) := Sh.want (Sh.ok h)
def Job.good : Job → Prop
  | .stmts kind acc => (kind = 1 ∨ kind = 6) ∧ WTL acc
  | .func kind _ => kind = 5 ∨ kind = 37
  | .params acc => WTL acc
  | .decl kind _ => kind = 2 ∨ kind = 3 ∨ kind = 4
  | .binLoop _ x => WT x
  | .postLoop x => WT x
  | .args acc => WTL acc ∧ acc ≠ []
  | .object acc => WTL acc
  | _ => True
theorem levelT_in (lv : Nat) (ts : List Tok) : levelT lv ts = 0 ∨ (25 ≤ levelT lv ts ∧ levelT lv ts ≤ 31) := by
  unfold levelT
  split <;> (try split) <;> (try split) <;> omega
theorem unaryT_in (ts : List Tok) : unaryT ts = 0 ∨ (32 ≤ unaryT ts ∧ unaryT ts ≤ 34) := by
  unfold unaryT
  split <;> (try split) <;> (try split) <;> omega
theorem constT_in (ts : List Tok) : constT ts = 0 ∨ (19 ≤ constT ts ∧ constT ts ≤ 22) := by
  unfold constT
  split <;> (try split) <;> (try split) <;> (try split) <;> omega
theorem two_ok {k : Int} {s : ByteArray} {n : Int} {x y : Tree} (hx : WT x) (hy : WT y) (h : k ≠ 13 ∧ k ≠ 34) : WT (.mk k s n [x, y]) :=
  ⟨⟨fun _ => by simp, fun _ => rfl, fun _ => .inl rfl, fun h' => by omega⟩, hx, hy, trivial⟩
theorem one_ok {k : Int} {s : ByteArray} {n : Int} {x : Tree} (hx : WT x) (h : k ≠ 9 ∧ k ≠ 8 ∧ k ≠ 24 ∧ k ≠ 5 ∧ k ≠ 37 ∧ k ≠ 7) : WT (.mk k s n [x]) :=
  ⟨⟨fun _ => by simp, fun h' => by omega, fun h' => by omega, fun _ => rfl⟩, hx, trivial⟩
theorem list_ok {k : Int} {s : ByteArray} {n : Int} {l : List Tree} (hx : WTL l) (h : k ≠ 35 ∧ k ≠ 9 ∧ k ≠ 8 ∧ k ≠ 24 ∧ k ≠ 5 ∧ k ≠ 37 ∧ k ≠ 7 ∧ k ≠ 13 ∧ k ≠ 34) : WT (.mk k s n l) := ⟨Ar.any h, hx⟩

theorem parse_shape : ∀ (f : Nat) (job : Job) (d : Nat) (ts : List Tok), job.good → Sh (parseF f job d ts) := by
  intro f
  induction f with
  | zero => intro job d ts _; unfold parseF; exact Sh.none
  | succ f ih =>
    intro job d ts hg
    cases job with
    | stmts kind acc =>
      unfold parseF
      refine Sh.ite (fun _ => Sh.ok (list_ok hg.2 (by have := hg.1; omega))) fun _ => ?_
      exact Sh.bind (Sh.within (ih .stmt _ _ trivial)) fun t ts' h => ih _ _ _ ⟨hg.1, WTL_app hg.2 ⟨h, trivial⟩⟩
    | block body =>
      unfold parseF
      refine Sh.want (Sh.bind (ih (.stmts 6 []) _ _ ⟨.inr rfl, trivial⟩) fun t ts' h' => Sh.want (Sh.ok ?_))
      by_cases hb : body = true
      · rw [if_pos hb]; exact h'
      · rw [if_neg hb]; exact list_ok h'.kids (by omega)
    | func kind text =>
      unfold parseF
      exact Sh.want (Sh.bind (ih (.params []) _ _ trivial) fun t ts' h' => Sh.want (Sh.bind (ih (.block true) _ _ trivial) fun t ts' h3 => Sh.ok (two_ok h' h3 (by have : kind = 5 ∨ kind = 37 := hg; omega))))
    | params acc =>
      unfold parseF
      refine Sh.ite (fun _ => Sh.ok (list_ok hg (by omega))) fun _ => ?_
      exact Sh.comma fun ts' => Sh.ite (fun _ => Sh.fail) fun _ => Sh.name fun s => ih _ _ _ (WTL_app hg ⟨WT.leaf (by omega), trivial⟩)
    | around =>
      unfold parseF
      exact Sh.want (Sh.bind (ih .value _ _ trivial) fun t ts' h' => Sh.want (Sh.ok h'))
    | stmt =>
      unfold parseF
      refine Sh.ite (fun h => ih _ _ _ trivial) fun _ => ?_
      refine Sh.ite (fun h => Sh.ok (WT.leaf (by omega))) fun _ => ?_
      refine Sh.ite (fun h => Sh.bind (ih (.decl 2 false) _ _ (.inl rfl)) fun t us h2 => Sh.end' h2) fun _ => ?_
      refine Sh.ite (fun h => Sh.bind (ih (.decl 3 false) _ _ (.inr (.inl rfl))) fun t us h2 => Sh.end' h2) fun _ => ?_
      refine Sh.ite (fun h => Sh.bind (ih (.decl 4 true) _ _ (.inr (.inr rfl))) fun t us h2 => Sh.end' h2) fun _ => ?_
      refine Sh.ite (fun h => Sh.name fun s => ih _ _ _ (.inl rfl)) fun _ => ?_
      refine Sh.ite (fun h => Sh.bind (ih .around _ _ trivial) fun x us h2 => Sh.bind (Sh.within (ih .stmt _ _ trivial)) fun y vs h3 => Sh.ite (fun h4 => Sh.bind (Sh.within (ih .stmt _ _ trivial)) fun z xs h5 => Sh.ok ⟨⟨by omega, by omega, fun _ => .inr rfl, by omega⟩, h2, h3, h5, trivial⟩) fun _ => Sh.ok (two_ok h2 h3 (by omega))) fun _ => ?_
      refine Sh.ite (fun h => Sh.bind (ih .around _ _ trivial) fun t us h2 => Sh.bind (Sh.within (ih .stmt _ _ trivial)) fun t vs h3 => Sh.ok (two_ok h2 h3 (by omega))) fun _ => ?_
      refine Sh.ite (fun h => Sh.bind (ih .around _ _ trivial) fun t us h2 => Sh.bind (Sh.within (ih .stmt _ _ trivial)) fun t vs h3 => Sh.ok (two_ok h2 h3 (by omega))) fun _ => ?_
      refine Sh.ite (fun h => Sh.ite (fun h1 => Sh.end' (WT.leaf (by omega))) (fun _ => Sh.bind (ih .value _ _ trivial) fun t us h2 => Sh.end' (one_ok h2 (by omega)))) fun _ => ?_
      refine Sh.ite (fun h => Sh.bind (ih .value _ _ trivial) fun t us h2 => Sh.end' (one_ok h2 (by omega))) fun _ => ?_
      refine Sh.ite (fun h => ih _ _ _ trivial) fun _ => ?_
      exact Sh.bind (ih .value _ _ trivial) fun t us h2 => Sh.end' (one_ok h2 (by omega))
    | decl kind must =>
      have hk : kind = 2 ∨ kind = 3 ∨ kind = 4 := hg
      unfold parseF
      exact Sh.name fun s => Sh.ite (fun _ => Sh.fail) fun _ => Sh.ite (fun h2 => Sh.bind (ih .value _ _ trivial) fun t us h3 => Sh.ok (one_ok h3 (by omega))) fun _ => Sh.ok (WT.leaf (by omega))
    | try_ =>
      unfold parseF
      refine Sh.bind (ih (.block false) _ _ trivial) fun b us h => ?_
      have hk : ∀ (l : List Tree) (vs : List Tok), WTL l → Sh (if isT s_finally vs then bindT (parseF f (.block false) d vs.tail) fun c ts => okT (.mk 12 ByteArray.empty 0 (l ++ [.mk 14 ByteArray.empty 0 [c]])) ts else if l.length = 1 then failT 3 vs else okT (.mk 12 ByteArray.empty 0 l) vs) := by
        intro l vs h2
        exact Sh.ite (fun _ => Sh.bind (ih (.block false) _ _ trivial) fun t xs h3 => Sh.ok (list_ok (WTL_app h2 ⟨one_ok h3 (by omega), trivial⟩) (by omega))) fun _ => Sh.ite (fun _ => Sh.fail) fun _ => Sh.ok (list_ok h2 (by omega))
      refine Sh.ite (fun h1 => ?_) fun _ => hk _ _ ⟨h, trivial⟩
      exact Sh.want (Sh.name fun s => Sh.want (Sh.bind (ih (.block false) _ _ trivial) fun c vs h5 => hk _ _ ⟨h, one_ok h5 (by omega), trivial⟩))
    | value => unfold parseF; exact Sh.within (ih _ _ _ trivial)
    | assign =>
      unfold parseF
      exact Sh.bind (ih (.bin 0) _ _ trivial) fun x us h => Sh.ite (fun h1 => Sh.ite (fun _ => Sh.bind (ih .value _ _ trivial) fun y vs h2 => Sh.ok (two_ok h h2 (by omega))) fun _ => Sh.err) fun _ => Sh.ok h
    | bin level =>
      unfold parseF
      exact Sh.ite (fun _ => ih _ _ _ trivial) fun _ => Sh.bind (ih (.bin (level + 1)) _ _ trivial) fun x us h => ih _ _ _ h
    | binLoop level x =>
      unfold parseF
      exact Sh.ite (fun _ => Sh.ok hg) fun h0 => Sh.bind (ih (.bin (level + 1)) _ _ trivial) fun y us h => ih _ _ _ (show Job.good (.binLoop level (.mk (levelT level ts) ByteArray.empty 0 [x, y])) from two_ok (s := ByteArray.empty) (n := 0) hg h (by have := levelT_in level ts; omega))
    | unary =>
      unfold parseF
      exact Sh.ite (fun _ => ih _ _ _ trivial) fun h0 => Sh.bind (Sh.within (ih .unary _ _ trivial)) fun x us h => Sh.ok (one_ok h (by have := unaryT_in ts; omega))
    | postfix_ =>
      unfold parseF
      exact Sh.bind (ih .primary _ _ trivial) fun x us h => ih _ _ _ h
    | postLoop x =>
      unfold parseF
      exact Sh.ite (fun _ => Sh.name fun s => ih _ _ _ (show Job.good (.postLoop (.mk 36 s 0 [x])) from one_ok (s := s) (n := 0) hg (by omega))) fun _ => Sh.ite (fun _ => Sh.bind (ih (.args [x]) _ _ ⟨⟨hg, trivial⟩, by simp⟩) fun n us h => ih _ _ _ h) fun _ => Sh.ok hg
    | args acc =>
      unfold parseF
      refine Sh.ite (fun _ => Sh.ok ⟨⟨fun _ => by have := hg.2; simpa using this, by omega, by omega, by omega⟩, hg.1⟩) fun _ => ?_
      exact Sh.comma fun ts' => Sh.ite (fun _ => Sh.fail) fun _ => Sh.bind (ih .value _ _ trivial) fun v us h => ih _ _ _ ⟨WTL_app hg.1 ⟨h, trivial⟩, by simp⟩
    | primary =>
      unfold parseF
      refine Sh.ite (fun h => Sh.ok (WT.leaf (by omega))) fun _ => ?_
      refine Sh.ite (fun h => Sh.ok (WT.leaf (by omega))) fun _ => ?_
      refine Sh.ite (fun h => Sh.ok (WT.leaf (by omega))) fun _ => ?_
      refine Sh.ite (fun h => Sh.ok (WT.leaf (by have := constT_in ts; omega))) fun _ => ?_
      refine Sh.ite (fun h => ih _ _ _ trivial) fun _ => ?_
      refine Sh.ite (fun h => Sh.ite (fun _ => ih _ _ _ (.inr rfl)) fun _ => ih _ _ _ (.inr rfl)) fun _ => ?_
      exact Sh.ite (fun h => ih _ _ _ trivial) fun _ => Sh.fail
    | object acc =>
      unfold parseF
      refine Sh.ite (fun _ => Sh.ok (list_ok hg (by omega))) fun _ => ?_
      exact Sh.comma fun ts' => Sh.ite (fun _ => Sh.fail) fun _ => Sh.name fun s => Sh.want (Sh.bind (ih .value _ _ trivial) fun v us h => ih _ _ _ (WTL_app hg ⟨one_ok h (by omega), trivial⟩))
end Go.Proofs.YtgifgiipojedbaaDoor

namespace Go.Proofs.YtgifgiipojedbaaDoor
open Go Go.RowKit
set_option maxRecDepth 100000
set_option linter.unusedVariables false

def badG (s : Bool) (a : ATree) : Bool × Bool := (true, s || (a.kind == 9 || (a.kind == 35 && evalsF a)))
set_option maxHeartbeats 8000000 in
theorem bad1_any (w0 : World) (c B : Nat) (hc : w0.heap.size ≤ c) (x : ATree) (hx : TreeAt w0 B x) (hkid : CallKids x) (s : Bool) (w : World) (hI : EInv w0 c s w) :
    Calls Tryd.prog 42 #[x.ptr, .pointer (some ⟨c, 0, none⟩)] w fun e w' => e = .returned (.bool (badG s x).1) ∧ EInv w0 c (badG s x).2 w' := by
  have hxw : TreeAt w B x := hx.keep fun k _ hk => hI.bel.block k hk
  have c0 := hxw.c0
  have cc : w.cell? ⟨c, 0, none⟩ = some (.bool s) := by simp [World.cell?, hI.cell]
  have cz : w.frozen? ⟨c, 0, none⟩ = false := by simp [World.frozen?, hI.cell]
  have hcl := (Array.getElem?_eq_some_iff.1 hI.cell).1
  have HI := Lib.hid hI
  have HC := Lib.hid hc
  have HE := Lib.hid (evals_any w B x hxw hkid)
  unfold badG
  obtain ⟨ev, hev⟩ : ∃ ev, ev = evalsF x := ⟨_, rfl⟩
  rw [← hev] at HE ⊢
  obtain ⟨kd, hkd⟩ : ∃ kd, kd = x.kind := ⟨_, rfl⟩
  rw [← hkd] at c0 ⊢
  unfold ATree.ptr at HE ⊢
  have HS : Hid (∀ r, EInv w0 c r (w.setCell ⟨c, 0, none⟩ (.bool r))) := Lib.hid fun r => hI.set hc r
  clear hxw hx hkid hI hc hev hkd
  cases s
  · rcases (by omega : kd = 9 ∨ kd = 35 ∨ (kd ≠ 9 ∧ kd ≠ 35)) with h3 | h3 | ⟨h3, h4⟩
    · subst h3
      go_enter Tryd.func42, Tryd.ntmps42
      go_wp2
      go_ret
      exact ⟨rfl, HS.out _⟩
    · subst h3
      go_enter Tryd.func42, Tryd.ntmps42
      go_wp2_with fail
      refine HE.out.mono ?_
      rintro e w1 ⟨rfl, hB⟩
      have hI1 : EInv w0 c false w1 := ⟨(hB.block c hcl).trans HI.out.cell, HI.out.bel.trans (hB.mono HI.out.bel.size)⟩
      have cc1 : w1.cell? ⟨c, 0, none⟩ = some (.bool false) := by simp [World.cell?, hI1.cell]
      have cz1 : w1.frozen? ⟨c, 0, none⟩ = false := by simp [World.frozen?, hI1.cell]
      have HS1 : Hid (∀ r, EInv w0 c r (w1.setCell ⟨c, 0, none⟩ (.bool r))) := Lib.hid fun r => hI1.set HC.out r
      clear hI1 hB HE HS
      go_wp2
      go_ret
      have h9 : ((35 : Int) == 9) = false := by decide
      simp only [Bool.false_or, h9, beq_self_eq_true, Bool.true_and]
      exact ⟨rfl, HS1.out _⟩
    · have n3 : (kd == 9) = false := by simpa using h3
      have n4 : (kd == 35) = false := by simpa using h4
      clear h3 h4
      rw [n3, n4]
      go_enter Tryd.func42, Tryd.ntmps42
      go_wp2
      go_ret
      exact ⟨rfl, HS.out _⟩
  · go_enter Tryd.func42, Tryd.ntmps42
    go_wp2
    go_ret
    exact ⟨rfl, HS.out _⟩
end Go.Proofs.YtgifgiipojedbaaDoor

namespace Go.Proofs.YtgifgiipojedbaaDoor
open Go Go.RowKit
set_option maxRecDepth 100000
set_option linter.unusedVariables false

theorem kidsF_sub (N : Nat → Nat) {l : List ATree} (h : ∀ a ∈ l, ∀ S st, ((nodeF N a S st).map Us.at').Sublist (a.subs.map fun x => (N x.b : Int))) (S : List Sc) (st : Bool) :
    ((kidsF N l S st).map Us.at').Sublist ((subsL l).map fun x => (N x.b : Int)) := by
  induction l with
  | nil => simp [kidsF, subsL]
  | cons a l ih =>
    simp only [kidsF, subsL, List.map_append]
    exact List.Sublist.append (h a (by simp) S st) (ih fun x hx => h x (by simp [hx]))
theorem nodeF_sub (N : Nat → Nat) : ∀ (m : Nat) (a : ATree), a.many ≤ m → ∀ S st, ((nodeF N a S st).map Us.at').Sublist (a.subs.map fun x => (N x.b : Int)) := by
  intro m
  induction m with
  | zero => intro a h; obtain ⟨b, v, k, t, n, ks⟩ := a; simp [ATree.many] at h
  | succ m ih =>
    intro a hm S st
    have hk : ∀ x ∈ a.kids, x.many ≤ m := fun x hx => by have := many_kid hx; omega
    obtain ⟨b, v, k, t, n, ks⟩ := a
    simp only [ATree.kids] at hk
    have HK := fun S st => kidsF_sub N (fun x hx => ih x (hk x hx)) S st
    rw [nodeF.eq_def]
    simp only [ATree.subs, List.map_cons, ATree.b]
    by_cases h1 : k = 23
    · rw [if_pos h1]
      simp only [List.map_cons, List.map_nil]
      exact List.Sublist.cons_cons _ (List.nil_sublist _)
    rw [if_neg h1]
    by_cases h2 : k = 6
    · rw [if_pos h2]; exact (HK _ _).cons _
    rw [if_neg h2]
    by_cases h3 : k = 13
    · rw [if_pos h3]; exact (HK _ _).cons _
    rw [if_neg h3]
    by_cases h4 : k = 9
    · rw [if_pos h4]
      refine List.Sublist.cons _ ?_
      match ks, hk with
      | [], _ => exact List.nil_sublist _
      | [_], _ => exact List.nil_sublist _
      | x :: y :: r, hk =>
        simp only [subsL, List.map_append]
        exact List.Sublist.append (ih x (hk x (by simp)) _ _) ((ih y (hk y (by simp)) _ _).trans (List.sublist_append_left _ _))
    rw [if_neg h4]
    by_cases h5 : k = 5 ∨ k = 37
    · rw [if_pos h5]
      refine List.Sublist.cons _ ?_
      match ks, hk with
      | [], _ => exact List.nil_sublist _
      | [_], _ => exact List.nil_sublist _
      | ps :: .mk b2 v2 k2 t2 n2 bks :: r, hk =>
        have hb := hk (.mk b2 v2 k2 t2 n2 bks) (by simp)
        have hb2 : ∀ x ∈ bks, x.many ≤ m := fun x hx => by
          have : x.many < (ATree.mk b2 v2 k2 t2 n2 bks).many := many_kid (a := .mk b2 v2 k2 t2 n2 bks) hx
          omega
        simp only [subsL, List.map_append, ATree.subs, List.map_cons]
        refine List.Sublist.trans ?_ (List.sublist_append_right _ _)
        refine List.Sublist.trans ?_ (List.sublist_append_left _ _)
        exact (kidsF_sub N (fun x hx => ih x (hb2 x hx)) _ _).cons _
    rw [if_neg h5]
    exact (HK _ _).cons _
theorem idx_nodup {l : List Nat} (h : l.Nodup) (i : Nat) (hi : i < l.length) : l.idxOf l[i] = i := by
  have hm : l[i] ∈ l := List.getElem_mem hi
  have hj : l.idxOf l[i] < l.length := List.idxOf_lt_length_of_mem hm
  have he : l[l.idxOf l[i]] = l[i] := List.getElem_idxOf hj
  have hp := List.pairwise_iff_getElem.1 h
  rcases Nat.lt_trichotomy (l.idxOf l[i]) i with h1 | h1 | h1
  · exact absurd he (hp _ _ hj hi h1)
  · exact h1
  · exact absurd he.symm (hp _ _ hi hj h1)
theorem numOf_up (a : ATree) (h : (a.subs.map ATree.b).Nodup) : (a.subs.map fun x => (numOf a x.b : Int)).Pairwise (· < ·) := by
  rw [List.pairwise_iff_getElem]
  intro i j hi hj hij
  simp only [List.length_map] at hi hj
  simp only [List.getElem_map]
  have h1 := idx_nodup h i (by simpa using hi)
  have h2 := idx_nodup h j (by simpa using hj)
  simp only [List.getElem_map] at h1 h2
  unfold numOf
  rw [h1, h2]
  omega
/-- what where.Of tells of a program -/
def ofF (a : ATree) : List Us := kidsF (numOf a) a.kids [⟨0, (a.kids.filter isLet).map ATree.text, false⟩] (isStrict a)
theorem ofF_up (a : ATree) (h : (a.subs.map ATree.b).Nodup) : ((ofF a).map Us.at').Pairwise (· < ·) := by
  refine List.Pairwise.sublist ?_ (numOf_up a h)
  rw [subs_eq, List.map_cons]
  exact (kidsF_sub _ (fun x _ => nodeF_sub _ _ x (Nat.le_refl _)) _ _).cons _
theorem ofF_len (a : ATree) : (ofF a).length ≤ a.many := by
  have h1 := (kidsF_sub (numOf a) (fun x (_ : x ∈ a.kids) => nodeF_sub (numOf a) _ x (Nat.le_refl _)) [⟨0, (a.kids.filter isLet).map ATree.text, false⟩] (isStrict a)).length_le
  simp only [List.length_map, subsL_len] at h1
  obtain ⟨b, v, k, t, n, ks⟩ := a
  simp only [ATree.many, ATree.kids, ofF] at *
  omega

theorem lookF_shut (t : ByteArray) : ∀ (S : List Sc), (∀ s ∈ S, s.op = false) → ∀ b, (lookF t S b).2 = b
  | [], _, b => rfl
  | s :: S, h, b => by
    unfold lookF
    by_cases hc : Lib.containsS s.names t
    · rw [if_pos hc]
    · rw [if_neg hc, lookF_shut t S fun x hx => h x (by simp [hx])]
      simp [h s (by simp)]
mutual
theorem evals_keep : ∀ a : ATree, walkA evalsG a true = true
  | .mk b v k t n ks => by
    simp only [walkA, evalsG, Bool.true_or]
    split
    · exact evals_keepL ks
    · rfl
theorem evals_keepL : ∀ l : List ATree, walkL evalsG l true = true
  | [] => by simp [walkL]
  | a :: l => by simp only [walkL]; rw [evals_keep a]; exact evals_keepL l
end
theorem evals_call {a : ATree} (h : isEvalCall a = true) : a.kind = 35 ∧ evalsF a = true := by
  refine ⟨by simp only [isEvalCall, Bool.and_eq_true, beq_iff_eq] at h; exact h.1, ?_⟩
  unfold evalsF
  rw [walkA_eq]
  simp only [evalsG, h, Bool.or_true]
  split
  · exact evals_keepL _
  · rfl
mutual
theorem evals_sub : ∀ (a : ATree) (s : Bool), walkA evalsG a s = true → s = true ∨ ∃ x ∈ a.subs, isEvalCall x = true
  | .mk b v k t n ks, s, h => by
    simp only [walkA] at h
    have key : (evalsG s (.mk b v k t n ks)).2 = true → s = true ∨ ∃ x ∈ (ATree.mk b v k t n ks).subs, isEvalCall x = true := fun h => by
      simp only [evalsG, Bool.or_eq_true] at h
      exact h.imp id fun h => ⟨_, subs_self _, h⟩
    split at h
    · rcases evals_subL ks _ h with h1 | ⟨x, hx, h1⟩
      · exact key h1
      · exact .inr ⟨x, by simp only [ATree.subs, List.mem_cons]; exact .inr hx, h1⟩
    · exact key h
theorem evals_subL : ∀ (l : List ATree) (s : Bool), walkL evalsG l s = true → s = true ∨ ∃ x ∈ subsL l, isEvalCall x = true
  | [], s, h => .inl (by simpa [walkL] using h)
  | a :: l, s, h => by
    simp only [walkL] at h
    rcases evals_subL l _ h with h1 | ⟨x, hx, h1⟩
    · rcases evals_sub a _ h1 with h2 | ⟨x, hx, h2⟩
      · exact .inl h2
      · exact .inr ⟨x, by simp [subsL, hx], h2⟩
    · exact .inr ⟨x, by simp [subsL, hx], h1⟩
end
/-- no with, no call of eval -/
def Calm (a : ATree) : Prop := ∀ x ∈ a.subs, x.kind ≠ 9 ∧ ¬ (x.kind = 35 ∧ evalsF x = true)
theorem Calm.kid {a k : ATree} (h : Calm a) (hk : k ∈ a.kids) : Calm k := fun x hx => h x (subs_kid hk hx)
theorem Calm.quiet {a : ATree} (h : Calm a) : evalsF a = false := by
  cases he : evalsF a with
  | false => rfl
  | true =>
    rcases evals_sub a false he with h1 | ⟨x, hx, h1⟩
    · cases h1
    · exact absurd (evals_call h1) (h x hx).2
mutual
theorem bad_none : ∀ (a : ATree) (s : Bool), walkA badG a s = false → s = false ∧ ∀ x ∈ a.subs, (badG false x).2 = false
  | .mk b v k t n ks, s, h => by
    simp only [walkA, badG, if_true] at h
    have h1 := bad_noneL ks _ h
    simp only [Bool.or_eq_false_iff] at h1
    refine ⟨h1.1.1, fun x hx => ?_⟩
    simp only [ATree.subs, List.mem_cons] at hx
    rcases hx with rfl | hx
    · simp only [badG, Bool.false_or, Bool.or_eq_false_iff]
      exact h1.1.2
    · exact h1.2 x hx
theorem bad_noneL : ∀ (l : List ATree) (s : Bool), walkL badG l s = false → s = false ∧ ∀ x ∈ subsL l, (badG false x).2 = false
  | [], s, h => ⟨by simpa [walkL] using h, by simp [subsL]⟩
  | a :: l, s, h => by
    simp only [walkL] at h
    have h1 := bad_noneL l _ h
    have h2 := bad_none a _ h1.1
    refine ⟨h2.1, fun x hx => ?_⟩
    simp only [subsL, List.mem_append] at hx
    exact hx.elim (h2.2 x) (h1.2 x)
end
theorem calm_of {a : ATree} (h : walkA badG a false = false) : Calm a := fun x hx => by
  have h1 := (bad_none a false h).2 x hx
  simp only [badG, Bool.false_or, Bool.or_eq_false_iff, Bool.and_eq_false_imp, beq_eq_false_iff_ne, beq_iff_eq] at h1
  exact ⟨h1.1, fun h2 => by have := h1.2 h2.1; rw [h2.2] at this; cases this⟩
theorem kidsF_sure (N : Nat → Nat) {l : List ATree} {S : List Sc} {st : Bool} (h : ∀ a ∈ l, ∀ u ∈ nodeF N a S st, u.r.2 = true) : ∀ u ∈ kidsF N l S st, u.r.2 = true := by
  induction l with
  | nil => simp [kidsF]
  | cons a l ih =>
    intro u hu
    simp only [kidsF, List.mem_append] at hu
    exact hu.elim (h a (by simp) u) (ih (fun x hx => h x (by simp [hx])) u)
theorem nodeF_sure (N : Nat → Nat) : ∀ (m : Nat) (a : ATree), a.many ≤ m → Calm a → ∀ (S : List Sc) (st : Bool), (∀ s ∈ S, s.op = false) → ∀ u ∈ nodeF N a S st, u.r.2 = true := by
  intro m
  induction m with
  | zero => intro a h; obtain ⟨b, v, k, t, n, ks⟩ := a; simp [ATree.many] at h
  | succ m ih =>
    intro a hm hc S st hS
    have hk : ∀ x ∈ a.kids, x.many ≤ m := fun x hx => by have := many_kid hx; omega
    have hck : ∀ x ∈ a.kids, Calm x := fun x hx => hc.kid hx
    have h9 := (hc a (subs_self a)).1
    obtain ⟨b, v, k, t, n, ks⟩ := a
    simp only [ATree.kids, ATree.kind] at hk hck h9
    have HK : ∀ (S : List Sc) (st : Bool), (∀ s ∈ S, s.op = false) → ∀ u ∈ kidsF N ks S st, u.r.2 = true := fun S st hS => kidsF_sure N fun x hx => ih x (hk x hx) (hck x hx) S st hS
    have cons : ∀ (s : Sc) (S : List Sc), s.op = false → (∀ s ∈ S, s.op = false) → ∀ x ∈ s :: S, x.op = false := fun s S h1 h2 x hx => by
      simp only [List.mem_cons] at hx
      rcases hx with rfl | hx
      · exact h1
      · exact h2 x hx
    rw [nodeF.eq_def]
    simp only []
    by_cases h1 : k = 23
    · rw [if_pos h1]
      intro u hu
      simp only [List.mem_cons, List.not_mem_nil, or_false] at hu
      rw [hu]
      exact lookF_shut t S hS true
    rw [if_neg h1]
    by_cases h2 : k = 6
    · rw [if_pos h2]
      refine HK _ _ ?_
      split
      · exact hS
      · exact cons _ _ rfl hS
    rw [if_neg h2]
    by_cases h3 : k = 13
    · rw [if_pos h3]; exact HK _ _ (cons _ _ rfl hS)
    rw [if_neg h3, if_neg h9]
    by_cases h5 : k = 5 ∨ k = 37
    · rw [if_pos h5]
      match ks, hk, hck with
      | [], _, _ => simp
      | [_], _, _ => simp
      | ps :: .mk b2 v2 k2 t2 n2 bks :: r, hk, hck =>
        have hb := hk (.mk b2 v2 k2 t2 n2 bks) (by simp)
        have hc2 := hck (.mk b2 v2 k2 t2 n2 bks) (by simp)
        refine kidsF_sure N fun x hx => ih x ?_ (hc2.kid hx) _ _ ?_
        · have : x.many < (ATree.mk b2 v2 k2 t2 n2 bks).many := many_kid (a := .mk b2 v2 k2 t2 n2 bks) hx
          omega
        · refine cons _ _ (by simp [hc2.quiet]) ?_
          split
          · exact cons _ _ rfl hS
          · exact hS
    rw [if_neg h5]
    exact HK _ _ hS
theorem ofF_sure {a : ATree} (h : walkA badG a false = false) : ∀ u ∈ ofF a, u.r.2 = true :=
  kidsF_sure _ fun x hx => nodeF_sure _ _ x (Nat.le_refl _) ((calm_of h).kid hx) _ _ (by simp)
end Go.Proofs.YtgifgiipojedbaaDoor
