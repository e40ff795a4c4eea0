/- Package tree: what reading computes; it takes tokens, and ends. The library's contracts that are cited, laid by the shelf's own tools: Tryz.strings_IndexByte. Package lex: quoted, walked. -/
import Derived.Test.YtgmnfgljkocnpaaGreatDoorJ01
import Derived.Test.YtgmnfgljkocnpaaGreatDoorJ03
import Derived.Shelf.Small.Strs
import Derived.Shelf.LaysM
import Derived.Test.YtgmnfgljkocnpaaGreatDoorProg
namespace Go.Proofs.YtgmnfgljkocnpaaGreatDoor
open Go Go.RowKit
set_option maxRecDepth 100000
inductive Tree
 | mk (kind : Int) (text : ByteArray) (n : Int) (kids : List Tree)
def Tree.kind : Tree → Int | .mk k _ _ _ => k
def Tree.text : Tree → ByteArray | .mk _ t _ _ => t
def Tree.n : Tree → Int | .mk _ _ n _ => n
def Tree.kids : Tree → List Tree | .mk _ _ _ l => l
abbrev PR := Option (Except (Int × Nat) (Tree × List Tok))
def hdT (ts : List Tok) : Tok := ts.headD ⟨6, ByteArray.empty, 0, 0⟩
def isT (s : ByteArray) (ts : List Tok) : Bool := (decide ((hdT ts).kind = 5) || decide ((hdT ts).kind = 2)) && Z0o (hdT ts).text s
def Z2m (e : Int) (ts : List Tok) : PR := some (.error (e, (hdT ts).at'))
def okT (t : Tree) (ts : List Tok) : PR := some (.ok (t, ts))
def Z0u (s : ByteArray) (ts : List Tok) (k : List Tok → PR) : PR := if isT s ts then k ts.tail else Z2m 3 ts
def Z3b (ts : List Tok) (k : ByteArray → List Tok → PR) : PR := if (hdT ts).kind = 1 then k (hdT ts).text ts.tail else Z2m 3 ts
def Zx (p : PR) (k : Tree → List Tok → PR) : PR := match p with | none => none | some (.error e) => some (.error e) | some (.ok (t, ts)) => k t ts
def Zb : ByteArray := ⟨#[123]⟩
def Zm : ByteArray := ⟨#[125]⟩
def Z05 : ByteArray := ⟨#[40]⟩
def Z06 : ByteArray := ⟨#[41]⟩
def Zh : ByteArray := ⟨#[59]⟩
def Z0p : ByteArray := ⟨#[44]⟩
def Z2j : ByteArray := ⟨#[58]⟩
def Z8v : ByteArray := ⟨#[46]⟩
def s_eq : ByteArray := ⟨#[61]⟩
def Z19 : ByteArray := ⟨#[118, 97, 114]⟩
def Z1f : ByteArray := ⟨#[108, 101, 116]⟩
def Z02 : ByteArray := ⟨#[99, 111, 110, 115, 116]⟩
def Z8 : ByteArray := ⟨#[102, 117, 110, 99, 116, 105, 111, 110]⟩
def s_if : ByteArray := ⟨#[105, 102]⟩
def Z5a : ByteArray := ⟨#[101, 108, 115, 101]⟩
def Zp : ByteArray := ⟨#[119, 104, 105, 108, 101]⟩
def Z01 : ByteArray := ⟨#[119, 105, 116, 104]⟩
def Z0b : ByteArray := ⟨#[114, 101, 116, 117, 114, 110]⟩
def Z1k : ByteArray := ⟨#[116, 104, 114, 111, 119]⟩
def Z1i : ByteArray := ⟨#[116, 114, 121]⟩
def Z23 : ByteArray := ⟨#[99, 97, 116, 99, 104]⟩
def Zz : ByteArray := ⟨#[102, 105, 110, 97, 108, 108, 121]⟩
def Z4y : ByteArray := ⟨#[33]⟩
def Z1j : ByteArray := ⟨#[116, 121, 112, 101, 111, 102]⟩
def Z1u : ByteArray := ⟨#[100, 101, 108, 101, 116, 101]⟩
def Z4e : ByteArray := ⟨#[116, 114, 117, 101]⟩
def Z38 : ByteArray := ⟨#[102, 97, 108, 115, 101]⟩
def Z5b : ByteArray := ⟨#[110, 117, 108, 108]⟩
def Z1c : ByteArray := ⟨#[117, 110, 100, 101, 102, 105, 110, 101, 100]⟩
def s_or : ByteArray := ⟨#[124, 124]⟩
def Z66 : ByteArray := ⟨#[38, 38]⟩
def Z41 : ByteArray := ⟨#[61, 61, 61]⟩
def Z43 : ByteArray := ⟨#[60]⟩
def Z4o : ByteArray := ⟨#[43]⟩
def Z56 : ByteArray := ⟨#[45]⟩
def Z67 : ByteArray := ⟨#[42]⟩
def Z0a : ByteArray := ⟨#[117, 115, 101, 32, 115, 116, 114, 105, 99, 116]⟩
def Z2b : ByteArray := ⟨#[115, 116, 114, 105, 99, 116]⟩
def Z1q (l : List Tree) : Bool :=
 match l with
 | .mk k _ _ (x :: _) :: _ => decide (k = 15) && decide (x.kind = 18) && Z0o x.text Z0a
 | _ => false
def Z21 (level : Nat) (ts : List Tok) : Int :=
 match level with
 | 0 => if isT s_or ts then 25 else 0
 | 1 => if isT Z66 ts then 26 else 0
 | 2 => if isT Z41 ts then 27 else 0
 | 3 => if isT Z43 ts then 28 else 0
 | 4 => if isT Z4o ts then 29 else if isT Z56 ts then 30 else 0
 | 5 => if isT Z67 ts then 31 else 0
 | _ => 0
def Z2z (ts : List Tok) : Int := if isT Z4y ts then 32 else if isT Z1j ts then 33 else if isT Z1u ts then 34 else 0
def Z3g (ts : List Tok) : Int := if isT Z4e ts then 19 else if isT Z38 ts then 20 else if isT Z5b ts then 21 else if isT Z1c ts then 22 else 0
inductive Job
 | stmts (kind : Int) (acc : List Tree)
 | block (body : Bool)
 | func (kind : Int) (text : ByteArray)
 | params (acc : List Tree)
 | around
 | stmt
 | decl (kind : Int) (must : Bool)
 | try_
 | value
 | assign
 | bin (level : Nat)
 | binLoop (level : Nat) (x : Tree)
 | unary
 | postfix_
 | postLoop (x : Tree)
 | args (acc : List Tree)
 | primary
 | object (acc : List Tree)
def endT (n : Tree) (ts : List Tok) : PR := Z0u Zh ts fun ts => okT n ts
def Z0q (d : Nat) (ts : List Tok) (p : PR) : PR := if 30 < d + 1 then Z2m 4 ts else p
def Z4 : Nat → Job → Nat → List Tok → PR
 | 0, _, _, _ => none
 | f + 1, .stmts kind acc, d, ts =>
   if (if kind = 1 then decide ((hdT ts).kind = 6) else isT Zm ts) then okT (.mk kind (if Z1q acc then Z2b else ByteArray.empty) 0 acc) ts
   else Zx (Z0q d ts (Z4 f .stmt (d + 1) ts)) fun x ts => Z4 f (.stmts kind (acc ++ [x])) d ts
 | f + 1, .block body, d, ts =>
   Z0u Zb ts fun ts => Zx (Z4 f (.stmts 6 []) d ts) fun x ts => Z0u Zm ts fun ts => okT (if body then x else .mk 6 ByteArray.empty 0 x.kids) ts
 | f + 1, .func kind text, d, ts =>
   Z0u Z05 ts fun ts => Zx (Z4 f (.params []) d ts) fun p ts => Z0u Z06 ts fun ts => Zx (Z4 f (.block true) d ts) fun b ts => okT (.mk kind text 0 [p, b]) ts
 | f + 1, .params acc, d, ts =>
   if isT Z06 ts then okT (.mk 40 ByteArray.empty 0 acc) ts
   else (if 0 < acc.length then Z0u Z0p ts else fun k => k ts) fun ts =>
    if acc.length = 8 then Z2m 4 ts else Z3b ts fun s ts => Z4 f (.params (acc ++ [.mk 23 s 0 []])) d ts
 | f + 1, .around, d, ts =>
   Z0u Z05 ts fun ts => Zx (Z4 f .value d ts) fun x ts => Z0u Z06 ts fun ts => okT x ts
 | f + 1, .stmt, d, ts =>
   if isT Zb ts then Z4 f (.block false) d ts
   else if isT Zh ts then okT (.mk 16 ByteArray.empty 0 []) ts.tail
   else if isT Z19 ts then Zx (Z4 f (.decl 2 false) d ts.tail) endT
   else if isT Z1f ts then Zx (Z4 f (.decl 3 false) d ts.tail) endT
   else if isT Z02 ts then Zx (Z4 f (.decl 4 true) d ts.tail) endT
   else if isT Z8 ts then Z3b ts.tail fun s ts => Z4 f (.func 5 s) d ts
   else if isT s_if ts then
    Zx (Z4 f .around d ts.tail) fun x ts => Zx (Z0q d ts (Z4 f .stmt (d + 1) ts)) fun y ts =>
     if isT Z5a ts then Zx (Z0q d ts.tail (Z4 f .stmt (d + 1) ts.tail)) fun z ts => okT (.mk 7 ByteArray.empty 0 [x, y, z]) ts
     else okT (.mk 7 ByteArray.empty 0 [x, y]) ts
   else if isT Zp ts then
    Zx (Z4 f .around d ts.tail) fun x ts => Zx (Z0q d ts (Z4 f .stmt (d + 1) ts)) fun y ts => okT (.mk 8 ByteArray.empty 0 [x, y]) ts
   else if isT Z01 ts then
    Zx (Z4 f .around d ts.tail) fun x ts => Zx (Z0q d ts (Z4 f .stmt (d + 1) ts)) fun y ts => okT (.mk 9 ByteArray.empty 0 [x, y]) ts
   else if isT Z0b ts then
    if isT Zh ts.tail then endT (.mk 10 ByteArray.empty 0 []) ts.tail
    else Zx (Z4 f .value d ts.tail) fun x ts => endT (.mk 10 ByteArray.empty 0 [x]) ts
   else if isT Z1k ts then Zx (Z4 f .value d ts.tail) fun x ts => endT (.mk 11 ByteArray.empty 0 [x]) ts
   else if isT Z1i ts then Z4 f .try_ d ts.tail
   else Zx (Z4 f .value d ts) fun x ts => endT (.mk 15 ByteArray.empty 0 [x]) ts
 | f + 1, .decl kind must, d, ts =>
   Z3b ts fun s ts =>
    if must && !isT s_eq ts then Z2m 3 ts
    else if isT s_eq ts then Zx (Z4 f .value d ts.tail) fun x ts => okT (.mk kind s 0 [x]) ts
    else okT (.mk kind s 0 []) ts
 | f + 1, .try_, d, ts =>
   Zx (Z4 f (.block false) d ts) fun b ts =>
    (fun (k : List Tree → List Tok → PR) =>
     if isT Z23 ts then Z0u Z05 ts.tail fun ts => Z3b ts fun s ts => Z0u Z06 ts fun ts => Zx (Z4 f (.block false) d ts) fun c ts => k [b, .mk 13 s 0 [c]] ts
     else k [b] ts) fun l ts =>
    if isT Zz ts then Zx (Z4 f (.block false) d ts.tail) fun c ts => okT (.mk 12 ByteArray.empty 0 (l ++ [.mk 14 ByteArray.empty 0 [c]])) ts
    else if l.length = 1 then Z2m 3 ts else okT (.mk 12 ByteArray.empty 0 l) ts
 | f + 1, .value, d, ts => Z0q d ts (Z4 f .assign (d + 1) ts)
 | f + 1, .assign, d, ts =>
   Zx (Z4 f (.bin 0) d ts) fun x ts' =>
    if isT s_eq ts' then
     if x.kind = 23 ∨ x.kind = 36 then Zx (Z4 f .value d ts'.tail) fun y ts => okT (.mk 24 ByteArray.empty 0 [x, y]) ts
     else some (.error (1, (hdT ts).at'))
    else okT x ts'
 | f + 1, .bin level, d, ts =>
   if 6 ≤ level then Z4 f .unary d ts
   else Zx (Z4 f (.bin (level + 1)) d ts) fun x ts => Z4 f (.binLoop level x) d ts
 | f + 1, .binLoop level x, d, ts =>
   if Z21 level ts = 0 then okT x ts
   else Zx (Z4 f (.bin (level + 1)) d ts.tail) fun y ts' => Z4 f (.binLoop level (.mk (Z21 level ts) ByteArray.empty 0 [x, y])) d ts'
 | f + 1, .unary, d, ts =>
   if Z2z ts = 0 then Z4 f .postfix_ d ts
   else Zx (Z0q d ts.tail (Z4 f .unary (d + 1) ts.tail)) fun x ts' => okT (.mk (Z2z ts) ByteArray.empty 0 [x]) ts'
 | f + 1, .postfix_, d, ts => Zx (Z4 f .primary d ts) fun x ts => Z4 f (.postLoop x) d ts
 | f + 1, .postLoop x, d, ts =>
   if isT Z8v ts then Z3b ts.tail fun s ts => Z4 f (.postLoop (.mk 36 s 0 [x])) d ts
   else if isT Z05 ts then Zx (Z4 f (.args [x]) d ts.tail) fun n ts => Z4 f (.postLoop n) d ts
   else okT x ts
 | f + 1, .args acc, d, ts =>
   if isT Z06 ts then okT (.mk 35 ByteArray.empty 0 acc) ts.tail
   else (if 1 < acc.length then Z0u Z0p ts else fun k => k ts) fun ts =>
    if 8 < acc.length then Z2m 4 ts else Zx (Z4 f .value d ts) fun v ts => Z4 f (.args (acc ++ [v])) d ts
 | f + 1, .primary, d, ts =>
   if (hdT ts).kind = 1 then okT (.mk 23 (hdT ts).text 0 []) ts.tail
   else if (hdT ts).kind = 3 then okT (.mk 17 ByteArray.empty (hdT ts).n []) ts.tail
   else if (hdT ts).kind = 4 then okT (.mk 18 (hdT ts).text 0 []) ts.tail
   else if Z3g ts ≠ 0 then okT (.mk (Z3g ts) ByteArray.empty 0 []) ts.tail
   else if isT Z05 ts then Z4 f .around d ts
   else if isT Z8 ts then
    if (hdT ts.tail).kind = 1 then Z4 f (.func 37 (hdT ts.tail).text) d ts.tail.tail
    else Z4 f (.func 37 ByteArray.empty) d ts.tail
   else if isT Zb ts then Z4 f (.object []) d ts.tail
   else Z2m 3 ts
 | f + 1, .object acc, d, ts =>
   if isT Zm ts then okT (.mk 38 ByteArray.empty 0 acc) ts.tail
   else (if 0 < acc.length then Z0u Z0p ts else fun k => k ts) fun ts =>
    if acc.length = 8 then Z2m 4 ts
    else Z3b ts fun s ts => Z0u Z2j ts fun ts => Zx (Z4 f .value d ts) fun v ts => Z4 f (.object (acc ++ [.mk 39 s 0 [v]])) d ts
mutual
def Tree.many : Tree → Nat
 | .mk _ _ _ l => Z3w l + 1
def Z3w : List Tree → Nat
 | [] => 0
 | t :: l => t.many + Z3w l
end
theorem Z00 {s : ByteArray} {ts : List Tok} (h : isT s ts = true) : ts.tail.length < ts.length := by
 cases ts with
 | nil => simp [isT, hdT] at h
 | cons t l => simp
theorem Z0k (ts : List Tok) : ts.tail.length ≤ ts.length := by cases ts <;> simp
theorem Z3d {ts : List Tok} (h : (hdT ts).kind ≠ 6) : ts.tail.length < ts.length := by
 cases ts with
 | nil => simp [hdT] at h
 | cons t l => simp
def Leaves (n : Nat) (p : PR) : Prop := ∀ t ts, p = some (.ok (t, ts)) → ts.length < n
theorem Leaves.fail {n : Nat} {e : Int} {ts : List Tok} : Leaves n (Z2m e ts) := by intro t ts' h; cases h
theorem Leaves.none {n : Nat} : Leaves n none := by intro t ts' h; cases h
theorem Leaves.err {n : Nat} {e : Int × Nat} : Leaves n (some (.error e)) := by intro t ts' h; cases h
theorem Leaves.ok {n : Nat} {t : Tree} {ts : List Tok} (h : ts.length < n) : Leaves n (okT t ts) := by
 intro t' ts' h';simp only [okT, Option.some.injEq, Except.ok.injEq, Prod.mk.injEq] at h';rw [← h'.2]; exact h
theorem Leaves.bind {n m : Nat} {p : PR} {k : Tree → List Tok → PR} (hp : Leaves m p) (hk : ∀ t ts, ts.length < m → Leaves n (k t ts)) : Leaves n (Zx p k) := by
 cases p with
 | none => exact Leaves.none
 | some r =>
   cases r with
   | error e => exact Leaves.err
   | ok x => obtain ⟨t, ts⟩ := x; exact hk t ts (hp t ts rfl)
theorem Leaves.want {n : Nat} {s : ByteArray} {ts : List Tok} {k : List Tok → PR} (hk : ts.tail.length < ts.length → Leaves n (k ts.tail)) : Leaves n (Z0u s ts k) := by
 unfold Z0u;by_cases h : isT s ts = true;·rw [if_pos h]; exact hk (Z00 h)
 ·rw [if_neg h]; exact Leaves.fail
theorem Leaves.name {n : Nat} {ts : List Tok} {k : ByteArray → List Tok → PR} (hk : ∀ s, ts.tail.length < ts.length → Leaves n (k s ts.tail)) : Leaves n (Z3b ts k) := by
 unfold Z3b;by_cases h : (hdT ts).kind = 1;·rw [if_pos h]; exact hk _ (Z3d (by omega))
 ·rw [if_neg h]; exact Leaves.fail
theorem Leaves.within {n d : Nat} {ts : List Tok} {p : PR} (h : Leaves n p) : Leaves n (Z0q d ts p) := by
 unfold Z0q;by_cases h' : 30 < d + 1;·rw [if_pos h']; exact Leaves.fail
 ·rw [if_neg h']; exact h
theorem Leaves.ite {n : Nat} {c : Prop} [Decidable c] {p q : PR} (hp : c → Leaves n p) (hq : ¬ c → Leaves n q) : Leaves n (if c then p else q) := by
 by_cases h : c;·rw [if_pos h]; exact hp h
 ·rw [if_neg h]; exact hq h
theorem Leaves.comma {n : Nat} {c : Prop} [Decidable c] {ts : List Tok} {k : List Tok → PR} (hk : ∀ ts', ts'.length ≤ ts.length → Leaves n (k ts')) : Leaves n ((if c then Z0u Z0p ts else fun k => k ts) k) := by
 by_cases h : c;·rw [if_pos h]; exact Leaves.want fun h' => hk _ (by omega)
 ·rw [if_neg h]; exact hk _ (Nat.le_refl _)
def Job.least : Job → Nat
 | .stmts .. => 1
 | .params .. => 1
 | .binLoop .. => 1
 | .postLoop .. => 1
 | _ => 0
theorem Z1n : ∀ (f : Nat) (job : Job) (d : Nat) (ts : List Tok), Leaves (ts.length + job.least) (Z4 f job d ts) := by
 intro f;induction f with
 | zero => intro job d ts; unfold Z4; exact Leaves.none
 | succ f ih =>
   intro job d ts;have ih0 : ∀ {n : Nat} {job : Job} (d : Nat) (ts : List Tok), ts.length + job.least ≤ n → Leaves n (Z4 f job d ts) := fun d ts h t ts' e => Nat.lt_of_lt_of_le (ih _ d ts t ts' e) h;cases job with
   | stmts kind acc =>
     unfold Z4;refine Leaves.ite (fun _ => Leaves.ok (by simp [Job.least])) fun _ => ?_;exact Leaves.bind (Leaves.within (ih .stmt _ _)) fun t ts' h => ih0 _ _ (by simp only [Job.least] at *; omega)
   | block body =>
     unfold Z4;refine Leaves.want fun h => ?_;refine Leaves.bind (ih (.stmts 6 []) _ _) fun t ts' h' => ?_;refine Leaves.want fun h'' => Leaves.ok ?_;simp only [Job.least] at *; omega
   | func kind text =>
     unfold Z4;refine Leaves.want fun h => Leaves.bind (ih (.params []) _ _) fun t ts' h' => Leaves.want fun h2 => Leaves.bind (ih (.block true) _ _) fun t ts' h3 => Leaves.ok ?_;simp only [Job.least] at *; omega
   | params acc =>
     unfold Z4;refine Leaves.ite (fun _ => Leaves.ok (by simp [Job.least])) fun _ => ?_;refine Leaves.comma fun ts' h => Leaves.ite (fun _ => Leaves.fail) fun _ => Leaves.name fun s h2 => ih0 _ _ ?_;simp only [Job.least] at *; omega
   | around =>
     unfold Z4;refine Leaves.want fun h => Leaves.bind (ih .value _ _) fun t ts' h' => Leaves.want fun h2 => Leaves.ok ?_;simp only [Job.least] at *; omega
   | stmt =>
     unfold Z4;have hend : ∀ (n : Tree) (us : List Tok), us.length ≤ ts.length → Leaves (ts.length + Job.stmt.least) (endT n us) := fun n us h => Leaves.want fun h2 => Leaves.ok (by simp only [Job.least] at *; omega);have htl := Z0k ts;refine Leaves.ite (fun h => ih0 _ _ (by simp [Job.least])) fun _ => ?_;refine Leaves.ite (fun h => Leaves.ok (by have := Z00 h; simp only [Job.least] at *; omega)) fun _ => ?_;refine Leaves.ite (fun h => Leaves.bind (ih (.decl 2 false) _ _) fun t us h2 => hend _ _ (by simp only [Job.least] at *; omega)) fun _ => ?_
     refine Leaves.ite (fun h => Leaves.bind (ih (.decl 3 false) _ _) fun t us h2 => hend _ _ (by simp only [Job.least] at *; omega)) fun _ => ?_;refine Leaves.ite (fun h => Leaves.bind (ih (.decl 4 true) _ _) fun t us h2 => hend _ _ (by simp only [Job.least] at *; omega)) fun _ => ?_;refine Leaves.ite (fun h => Leaves.name fun s h2 => ih0 _ _ (by simp only [Job.least] at *; omega)) fun _ => ?_
     refine Leaves.ite (fun h => Leaves.bind (ih .around _ _) fun t us h2 => Leaves.bind (Leaves.within (ih .stmt _ _)) fun t vs h3 => Leaves.ite (fun h4 => Leaves.bind (Leaves.within (ih .stmt _ _)) fun t xs h5 => Leaves.ok (by have := Z0k vs; simp only [Job.least] at *; omega)) (fun _ => Leaves.ok (by simp only [Job.least] at *; omega))) fun _ => ?_;refine Leaves.ite (fun h => Leaves.bind (ih .around _ _) fun t us h2 => Leaves.bind (Leaves.within (ih .stmt _ _)) fun t vs h3 => Leaves.ok (by simp only [Job.least] at *; omega)) fun _ => ?_
     refine Leaves.ite (fun h => Leaves.bind (ih .around _ _) fun t us h2 => Leaves.bind (Leaves.within (ih .stmt _ _)) fun t vs h3 => Leaves.ok (by simp only [Job.least] at *; omega)) fun _ => ?_;refine Leaves.ite (fun h => Leaves.ite (fun h1 => hend _ _ htl) (fun _ => Leaves.bind (ih .value _ _) fun t us h2 => hend _ _ (by simp only [Job.least] at *; omega))) fun _ => ?_;refine Leaves.ite (fun h => Leaves.bind (ih .value _ _) fun t us h2 => hend _ _ (by simp only [Job.least] at *; omega)) fun _ => ?_;refine Leaves.ite (fun h => ih0 _ _ (by simp only [Job.least] at *; omega)) fun _ => ?_
     exact Leaves.bind (ih .value _ _) fun t us h2 => hend _ _ (by simp only [Job.least] at *; omega)
   | decl kind must =>
     unfold Z4;refine Leaves.name fun s h => Leaves.ite (fun _ => Leaves.fail) fun _ => Leaves.ite (fun h2 => Leaves.bind (ih .value _ _) fun t us h3 => Leaves.ok ?_) fun _ => Leaves.ok ?_;·have := Z0k ts.tail; simp only [Job.least] at *; omega
     ·simp only [Job.least] at *; omega
   | try_ =>
     unfold Z4;refine Leaves.bind (ih (.block false) _ _) fun b us h => ?_;have hk : ∀ (l : List Tree) (vs : List Tok), vs.length ≤ us.length → Leaves (ts.length + Job.try_.least) (if isT Zz vs then Zx (Z4 f (.block false) d vs.tail) fun c ts => okT (.mk 12 ByteArray.empty 0 (l ++ [.mk 14 ByteArray.empty 0 [c]])) ts else if l.length = 1 then Z2m 3 vs else okT (.mk 12 ByteArray.empty 0 l) vs) := by
      intro l vs h2;have := Z0k vs;refine Leaves.ite (fun _ => Leaves.bind (ih (.block false) _ _) fun t xs h3 => Leaves.ok ?_) fun _ => Leaves.ite (fun _ => Leaves.fail) fun _ => Leaves.ok ?_;·simp only [Job.least] at *; omega
      ·simp only [Job.least] at *; omega
     refine Leaves.ite (fun h1 => ?_) fun _ => hk _ _ (Nat.le_refl _);refine Leaves.want fun h2 => Leaves.name fun s h3 => Leaves.want fun h4 => Leaves.bind (ih (.block false) _ _) fun c vs h5 => hk _ _ ?_;have := Z0k us; simp only [Job.least] at *; omega
   | value => unfold Z4; exact Leaves.within (ih0 _ _ (by simp [Job.least]))
   | assign =>
     unfold Z4;refine Leaves.bind (ih (.bin 0) _ _) fun x us h => Leaves.ite (fun h1 => Leaves.ite (fun _ => Leaves.bind (ih .value _ _) fun y vs h2 => Leaves.ok ?_) fun _ => Leaves.err) fun _ => Leaves.ok ?_;·have := Z0k us; simp only [Job.least] at *; omega
     ·simp only [Job.least] at *; omega
   | bin level =>
     unfold Z4;refine Leaves.ite (fun _ => ih0 _ _ (by simp [Job.least])) fun _ => Leaves.bind (ih (.bin (level + 1)) _ _) fun x us h => ih0 _ _ ?_;simp only [Job.least] at *; omega
   | binLoop level x =>
     unfold Z4;refine Leaves.ite (fun _ => Leaves.ok (by simp [Job.least])) fun _ => Leaves.bind (ih (.bin (level + 1)) _ _) fun y us h => ih0 _ _ ?_;have := Z0k ts; simp only [Job.least] at *; omega
   | unary =>
     unfold Z4;refine Leaves.ite (fun _ => ih0 _ _ (by simp [Job.least])) fun _ => Leaves.bind (Leaves.within (ih .unary _ _)) fun y us h => Leaves.ok ?_;have := Z0k ts; simp only [Job.least] at *; omega
   | postfix_ =>
     unfold Z4;refine Leaves.bind (ih .primary _ _) fun y us h => ih0 _ _ ?_;simp only [Job.least] at *; omega
   | postLoop x =>
     unfold Z4;have := Z0k ts;refine Leaves.ite (fun _ => Leaves.name fun s h => ih0 _ _ (by simp only [Job.least] at *; omega)) fun _ => Leaves.ite (fun _ => Leaves.bind (ih (.args [x]) _ _) fun y us h => ih0 _ _ (by simp only [Job.least] at *; omega)) fun _ => Leaves.ok (by simp [Job.least])
   | args acc =>
     unfold Z4;refine Leaves.ite (fun h => Leaves.ok (by have := Z00 h; simp only [Job.least] at *; omega)) fun _ => Leaves.comma fun us h => Leaves.ite (fun _ => Leaves.fail) fun _ => Leaves.bind (ih .value _ _) fun y vs h2 => ih0 _ _ (by simp only [Job.least] at *; omega)
   | primary =>
     unfold Z4;have := Z0k ts;have := Z0k ts.tail;refine Leaves.ite (fun h => Leaves.ok (by have := Z3d (ts := ts) (by omega); simp only [Job.least] at *; omega)) fun _ => ?_;refine Leaves.ite (fun h => Leaves.ok (by have := Z3d (ts := ts) (by omega); simp only [Job.least] at *; omega)) fun _ => ?_;refine Leaves.ite (fun h => Leaves.ok (by have := Z3d (ts := ts) (by omega); simp only [Job.least] at *; omega)) fun _ => ?_;refine Leaves.ite (fun h => Leaves.ok ?_) fun _ => ?_
     ·have : ts.tail.length < ts.length := by
       unfold Z3g at h;by_cases h1 : isT Z4e ts = true;·exact Z00 h1
       ·by_cases h2 : isT Z38 ts = true;·exact Z00 h2
        ·by_cases h3 : isT Z5b ts = true;·exact Z00 h3
         ·by_cases h4 : isT Z1c ts = true;·exact Z00 h4
          ·simp [h1, h2, h3, h4] at h
      simp only [Job.least] at *; omega
     refine Leaves.ite (fun _ => ih0 _ _ (by simp [Job.least])) fun _ => ?_;refine Leaves.ite (fun _ => Leaves.ite (fun _ => ih0 _ _ (by simp only [Job.least] at *; omega)) fun _ => ih0 _ _ (by simp only [Job.least] at *; omega)) fun _ => ?_;exact Leaves.ite (fun _ => ih0 _ _ (by simp only [Job.least] at *; omega)) fun _ => Leaves.fail
   | object acc =>
     unfold Z4;refine Leaves.ite (fun h => Leaves.ok (by have := Z00 h; simp only [Job.least] at *; omega)) fun _ => Leaves.comma fun us h => Leaves.ite (fun _ => Leaves.fail) fun _ => Leaves.name fun s h1 => Leaves.want fun h2 => Leaves.bind (ih .value _ _) fun y vs h2 => ih0 _ _ (by simp only [Job.least] at *; omega)
def Job.rank : Job → Nat
 | .stmts .. => 30
 | .block _ => 5
 | .func .. => 1
 | .params _ => 1
 | .around => 1
 | .stmt => 20
 | .decl .. => 1
 | .try_ => 6
 | .value => 19
 | .assign => 18
 | .bin level => 10 + (6 - level)
 | .binLoop .. => 31
 | .unary => 9
 | .postfix_ => 8
 | .postLoop _ => 31
 | .args _ => 31
 | .primary => 7
 | .object _ => 31
def Zi (p : PR) : Prop := p ≠ none
theorem Zi.fail {e : Int} {ts : List Tok} : Zi (Z2m e ts) := by simp [Zi, Z2m]
theorem Zi.ok {t : Tree} {ts : List Tok} : Zi (okT t ts) := by simp [Zi, okT]
theorem Zi.bind {p : PR} {k : Tree → List Tok → PR} {n : Nat} (hp : Zi p) (hl : Leaves n p) (hk : ∀ t ts, ts.length < n → Zi (k t ts)) : Zi (Zx p k) := by
 cases p with
 | none => exact absurd rfl hp
 | some r =>
   cases r with
   | error e => simp [Zi, Zx]
   | ok x => obtain ⟨t, ts⟩ := x; exact hk t ts (hl t ts rfl)
theorem Zi.want {s : ByteArray} {ts : List Tok} {k : List Tok → PR} (hk : ts.tail.length < ts.length → Zi (k ts.tail)) : Zi (Z0u s ts k) := by
 unfold Z0u;by_cases h : isT s ts = true;·rw [if_pos h]; exact hk (Z00 h)
 ·rw [if_neg h]; exact Zi.fail
theorem Zi.name {ts : List Tok} {k : ByteArray → List Tok → PR} (hk : ∀ s, ts.tail.length < ts.length → Zi (k s ts.tail)) : Zi (Z3b ts k) := by
 unfold Z3b;by_cases h : (hdT ts).kind = 1;·rw [if_pos h]; exact hk _ (Z3d (by omega))
 ·rw [if_neg h]; exact Zi.fail
theorem Zi.within {d : Nat} {ts : List Tok} {p : PR} (h : Zi p) : Zi (Z0q d ts p) := by
 unfold Z0q;by_cases h' : 30 < d + 1;·rw [if_pos h']; exact Zi.fail
 ·rw [if_neg h']; exact h
theorem Zi.ite {c : Prop} [Decidable c] {p q : PR} (hp : c → Zi p) (hq : ¬ c → Zi q) : Zi (if c then p else q) := by
 by_cases h : c;·rw [if_pos h]; exact hp h
 ·rw [if_neg h]; exact hq h
theorem Zi.comma {c : Prop} [Decidable c] {ts : List Tok} {k : List Tok → PR} (hk : ∀ ts', ts'.length ≤ ts.length → Zi (k ts')) : Zi ((if c then Z0u Z0p ts else fun k => k ts) k) := by
 by_cases h : c;·rw [if_pos h]; exact Zi.want fun h' => hk _ (by omega)
 ·rw [if_neg h]; exact hk _ (Nat.le_refl _)
theorem Z8m {ts : List Tok} (h : ¬ Z2z ts = 0) : ts.tail.length < ts.length := by
 unfold Z2z at h;by_cases h1 : isT Z4y ts = true;·exact Z00 h1
 ·by_cases h2 : isT Z1j ts = true;·exact Z00 h2
  ·by_cases h3 : isT Z1u ts = true;·exact Z00 h3
   ·simp [h1, h2, h3] at h
theorem Z6a {level : Nat} {ts : List Tok} (h : ¬ Z21 level ts = 0) : ts.tail.length < ts.length := by
 have key : ∀ {s : ByteArray} {x y : Int}, ¬ (if isT s ts then x else y) = 0 → ¬ y = 0 ∨ ts.tail.length < ts.length := by
  intro s x y h;by_cases h1 : isT s ts = true;·exact .inr (Z00 h1)
  ·rw [if_neg h1] at h; exact .inl h
 unfold Z21 at h;split at h
 all_goals first
  | exact absurd rfl h
  | (rcases key h with h | h; (exact absurd rfl h); exact h)
  | (rcases key h with h | h; (rcases key h with h | h; (exact absurd rfl h); exact h); exact h)
theorem Z9i : ∀ (f : Nat) (job : Job) (d : Nat) (ts : List Tok), 40 * ts.length + job.rank < f → Zi (Z4 f job d ts) := by
 intro f;induction f with
 | zero => intro job d ts h; omega
 | succ f ih =>
   intro job d ts hf;have L := Z1n f;have htl := Z0k ts;cases job with
   | stmts kind acc =>
     unfold Z4;refine Zi.ite (fun _ => Zi.ok) fun _ => Zi.bind (n := ts.length) (Zi.within (ih _ _ _ (by simp only [Job.rank] at *; omega))) (Leaves.within (L .stmt _ _)) fun t us h => ih _ _ _ (by simp only [Job.rank] at *; omega)
   | block body =>
     unfold Z4;refine Zi.want fun h => Zi.bind (ih _ _ _ (by simp only [Job.rank] at *; omega)) (L _ _ _) fun t us h => Zi.want fun h2 => Zi.ok
   | func kind text =>
     unfold Z4;refine Zi.want fun h => Zi.bind (ih _ _ _ (by simp only [Job.rank] at *; omega)) (L (.params []) _ _) fun t us h => Zi.want fun h2 => Zi.bind (ih _ _ _ (by simp only [Job.rank, Job.least] at *; omega)) (L _ _ _) fun t us h => Zi.ok
   | params acc =>
     unfold Z4;refine Zi.ite (fun _ => Zi.ok) fun _ => Zi.comma fun us h => Zi.ite (fun _ => Zi.fail) fun _ => Zi.name fun s h2 => ih _ _ _ (by simp only [Job.rank] at *; omega)
   | around =>
     unfold Z4;refine Zi.want fun h => Zi.bind (ih _ _ _ (by simp only [Job.rank] at *; omega)) (L _ _ _) fun t us h => Zi.want fun h2 => Zi.ok
   | stmt =>
     unfold Z4;have hend : ∀ (n : Tree) (us : List Tok), Zi (endT n us) := fun n us => Zi.want fun h2 => Zi.ok;refine Zi.ite (fun h => ih _ _ _ (by simp only [Job.rank] at *; omega)) fun _ => ?_;refine Zi.ite (fun h => Zi.ok) fun _ => ?_;refine Zi.ite (fun h => Zi.bind (ih _ _ _ (by simp only [Job.rank] at *; omega)) (L _ _ _) fun t us h2 => hend _ _) fun _ => ?_;refine Zi.ite (fun h => Zi.bind (ih _ _ _ (by simp only [Job.rank] at *; omega)) (L _ _ _) fun t us h2 => hend _ _) fun _ => ?_
     refine Zi.ite (fun h => Zi.bind (ih _ _ _ (by simp only [Job.rank] at *; omega)) (L _ _ _) fun t us h2 => hend _ _) fun _ => ?_;refine Zi.ite (fun h => Zi.name fun s h2 => ih _ _ _ (by simp only [Job.rank] at *; omega)) fun _ => ?_;refine Zi.ite (fun h => ?_) fun _ => ?_
     ·have := Z00 h;refine Zi.bind (ih _ _ _ (by simp only [Job.rank] at *; omega)) (L .around _ _) fun t us h2 => ?_;refine Zi.bind (Zi.within (ih _ _ _ (by simp only [Job.rank, Job.least] at *; omega))) (Leaves.within (L .stmt _ _)) fun t vs h3 => ?_;have := Z0k vs;exact Zi.ite (fun h4 => Zi.bind (Zi.within (ih _ _ _ (by simp only [Job.rank, Job.least] at *; omega))) (Leaves.within (L .stmt _ _)) fun t xs h5 => Zi.ok) fun _ => Zi.ok
     refine Zi.ite (fun h => ?_) fun _ => ?_
     ·have := Z00 h;refine Zi.bind (ih _ _ _ (by simp only [Job.rank] at *; omega)) (L .around _ _) fun t us h2 => ?_;exact Zi.bind (Zi.within (ih _ _ _ (by simp only [Job.rank, Job.least] at *; omega))) (Leaves.within (L .stmt _ _)) fun t vs h3 => Zi.ok
     refine Zi.ite (fun h => ?_) fun _ => ?_
     ·have := Z00 h;refine Zi.bind (ih _ _ _ (by simp only [Job.rank] at *; omega)) (L .around _ _) fun t us h2 => ?_;exact Zi.bind (Zi.within (ih _ _ _ (by simp only [Job.rank, Job.least] at *; omega))) (Leaves.within (L .stmt _ _)) fun t vs h3 => Zi.ok
     refine Zi.ite (fun h => Zi.ite (fun h1 => hend _ _) fun _ => Zi.bind (ih _ _ _ (by simp only [Job.rank] at *; omega)) (L _ _ _) fun t us h2 => hend _ _) fun _ => ?_;refine Zi.ite (fun h => Zi.bind (ih _ _ _ (by simp only [Job.rank] at *; omega)) (L _ _ _) fun t us h2 => hend _ _) fun _ => ?_;refine Zi.ite (fun h => ih _ _ _ (by simp only [Job.rank] at *; omega)) fun _ => ?_;exact Zi.bind (ih _ _ _ (by simp only [Job.rank] at *; omega)) (L _ _ _) fun t us h2 => hend _ _
   | decl kind must =>
     unfold Z4;refine Zi.name fun s h => Zi.ite (fun _ => Zi.fail) fun _ => Zi.ite (fun h2 => Zi.bind (ih _ _ _ ?_) (L _ _ _) fun t us h3 => Zi.ok) fun _ => Zi.ok;have := Z0k ts.tail; simp only [Job.rank] at *; omega
   | try_ =>
     unfold Z4;refine Zi.bind (ih _ _ _ (by simp only [Job.rank] at *; omega)) (L (.block false) _ _) fun b us h => ?_;have hk : ∀ (l : List Tree) (vs : List Tok), vs.length ≤ us.length → Zi (if isT Zz vs then Zx (Z4 f (.block false) d vs.tail) fun c ts => okT (.mk 12 ByteArray.empty 0 (l ++ [.mk 14 ByteArray.empty 0 [c]])) ts else if l.length = 1 then Z2m 3 vs else okT (.mk 12 ByteArray.empty 0 l) vs) := by
      intro l vs h2;have := Z0k vs;exact Zi.ite (fun _ => Zi.bind (ih _ _ _ (by simp only [Job.rank, Job.least] at *; omega)) (L _ _ _) fun t xs h3 => Zi.ok) fun _ => Zi.ite (fun _ => Zi.fail) fun _ => Zi.ok
     refine Zi.ite (fun h1 => ?_) fun _ => hk _ _ (Nat.le_refl _);have := Z0k us;refine Zi.want fun h2 => Zi.name fun s h3 => Zi.want fun h4 => Zi.bind (ih _ _ _ (by simp only [Job.rank, Job.least] at *; omega)) (L (.block false) _ _) fun c vs h5 => hk _ _ ?_;simp only [Job.least] at *; omega
   | value => unfold Z4; exact Zi.within (ih _ _ _ (by simp only [Job.rank] at *; omega))
   | assign =>
     unfold Z4;refine Zi.bind (ih _ _ _ (by simp only [Job.rank] at *; omega)) (L (.bin 0) _ _) fun x us h => Zi.ite (fun h1 => Zi.ite (fun _ => Zi.bind (ih _ _ _ ?_) (L _ _ _) fun y vs h2 => Zi.ok) fun _ => by simp [Zi]) fun _ => Zi.ok;have := Z0k us; simp only [Job.rank, Job.least] at *; omega
   | bin level =>
     unfold Z4;refine Zi.ite (fun h => ih _ _ _ (by simp only [Job.rank] at *; omega)) fun h => Zi.bind (ih _ _ _ (by simp only [Job.rank] at *; omega)) (L (.bin (level + 1)) _ _) fun x us h => ih _ _ _ (by simp only [Job.rank, Job.least] at *; omega)
   | binLoop level x =>
     unfold Z4;refine Zi.ite (fun _ => Zi.ok) fun h0 => Zi.bind (ih _ _ _ ?_) (L (.bin (level + 1)) _ _) fun y us h => ih _ _ _ ?_;·have := Z6a h0; simp only [Job.rank] at *; omega
     ·have := Z6a h0; simp only [Job.rank, Job.least] at *; omega
   | unary =>
     unfold Z4;refine Zi.ite (fun _ => ih _ _ _ (by simp only [Job.rank] at *; omega)) fun h0 => Zi.bind (Zi.within (ih _ _ _ ?_)) (Leaves.within (L _ _ _)) fun y us h => Zi.ok;have := Z8m h0; simp only [Job.rank] at *; omega
   | postfix_ =>
     unfold Z4;exact Zi.bind (ih _ _ _ (by simp only [Job.rank] at *; omega)) (L .primary _ _) fun y us h => ih _ _ _ (by simp only [Job.rank, Job.least] at *; omega)
   | postLoop x =>
     unfold Z4;refine Zi.ite (fun h => Zi.name fun s h2 => ih _ _ _ (by simp only [Job.rank] at *; omega)) fun _ => Zi.ite (fun h => ?_) fun _ => Zi.ok;have := Z00 h;exact Zi.bind (ih _ _ _ (by simp only [Job.rank] at *; omega)) (L (.args [x]) _ _) fun y us h => ih _ _ _ (by simp only [Job.rank, Job.least] at *; omega)
   | args acc =>
     unfold Z4;exact Zi.ite (fun h => Zi.ok) fun _ => Zi.comma fun us h => Zi.ite (fun _ => Zi.fail) fun _ => Zi.bind (ih _ _ _ (by simp only [Job.rank] at *; omega)) (L .value _ _) fun y vs h2 => ih _ _ _ (by simp only [Job.rank, Job.least] at *; omega)
   | primary =>
     unfold Z4;have := Z0k ts.tail;refine Zi.ite (fun _ => Zi.ok) fun _ => Zi.ite (fun _ => Zi.ok) fun _ => Zi.ite (fun _ => Zi.ok) fun _ => Zi.ite (fun _ => Zi.ok) fun _ => ?_;refine Zi.ite (fun _ => ih _ _ _ (by simp only [Job.rank] at *; omega)) fun _ => ?_;refine Zi.ite (fun _ => Zi.ite (fun _ => ih _ _ _ (by simp only [Job.rank] at *; omega)) fun _ => ih _ _ _ (by simp only [Job.rank] at *; omega)) fun _ => ?_;exact Zi.ite (fun h => ih _ _ _ (by have := Z00 h; simp only [Job.rank] at *; omega)) fun _ => Zi.fail
   | object acc =>
     unfold Z4;exact Zi.ite (fun h => Zi.ok) fun _ => Zi.comma fun us h => Zi.ite (fun _ => Zi.fail) fun _ => Zi.name fun s h1 => Zi.want fun h2 => Zi.bind (ih _ _ _ (by simp only [Job.rank] at *; omega)) (L .value _ _) fun y vs h2 => ih _ _ _ (by simp only [Job.rank, Job.least] at *; omega)
def Z0n (text : ByteArray) : Except (Int × Int) Tree :=
 if 3000 < text.size then .error (4, -1)
 else match Z5m text with
  | .error (e, p) => .error (e, p)
  | .ok ts => match Z4 (40 * ts.length + 31) (.stmts 1 []) 0 ts with
    | none => .error (0, -2)
    | some (.error (e, p)) => .error (e, p)
    | some (.ok (t, _)) => if 1500 < t.many then .error (4, -1) else .ok t
end Go.Proofs.YtgmnfgljkocnpaaGreatDoor
namespace Go.Proofs
def Tryz.lays137_ren : Go.Shelf.Ren := ⟨fun | 137 => 65 | 217 => 82 | 266 => 100 | n => n, fun | 9 => 9 | 5 => 5 | 3 => 3 | n => n, fun | n => n⟩
theorem Tryz.lays137 : Go.Proofs.Lays.n137 Tryz.prog Tryz.lays137_ren := {
 mixed := by kernel_rfl
 f137 := Tryz.func65.trans (congrArg some (by kernel_rfl))
 f217 := Tryz.func82.trans (congrArg some (by kernel_rfl))
 f266 := Tryz.func100.trans (congrArg some (by kernel_rfl))
 t3 := Tryz.underlying3
 a3 := Tryz.isAgg3
 z3 := Tryz.sizeOf3
 v3 := Tryz.zeroValue3
 t5 := Tryz.underlying5
 a5 := Tryz.isAgg5
 z5 := Tryz.sizeOf5
 v5 := Tryz.zeroValue5
 t9 := Tryz.underlying9
 a9 := Tryz.isAgg9
 z9 := Tryz.sizeOf9
 v9 := Tryz.zeroValue9 }
open Go.RowKit in
theorem Tryz.strings_IndexByte (s : ByteArray) (c : Int) (w : World) :
 Calls Tryz.prog 65 #[.string s, .int .u8 c] w fun e w' => e = .returned (.int .i64 (Lib.indexByte s.data.toList c.toNat.toUInt8)) ∧ w' = w := Any.strings_IndexByte Tryz.lays137 s c w
end Go.Proofs
namespace Go.Proofs.YtgmnfgljkocnpaaGreatDoor
open Go Go.RowKit
set_option maxRecDepth 100000
theorem ScanAt.bfr {w0 w w' : World} {sb b B a : Nat} {text : ByteArray} {p v v' : Value} {bs : List Value} (h : ScanAt w0 w sb text a) (hb : BAt B w b p v bs) (hs : sb < B) (h0 : w0.heap.size ≤ B) (f : BFr w w' b v v') : ScanAt w0 w' sb text a := by
 have hr : ∀ k, k < B → v.ownBlock ≠ some k := fun k hk e => by have := (hb.own.lt k e).1; omega
 have hle := hb.le
 exact ⟨(f.block sb h.lt (by omega) (hr sb hs)).trans h.blk, f.os.trans h.os, f.tape.trans h.tape, f.output.trans h.output, Nat.le_trans h.size f.size,
  fun k hk hn => (f.block k (Nat.lt_of_lt_of_le hk h.size) (by omega) (hr k (by omega))).trans (h.block k hk hn)⟩
theorem BAt.set {B : Nat} {w : World} {b sb : Nat} {p v : Value} {bs : List Value} (h : BAt B w b p v bs) (hs : sb < B) (x : Value) : BAt B (w.setCell ⟨sb, 1, none⟩ x) b p v bs := by
 have hle := h.le;exact ⟨(Below.heap_setCell _ _ _ _ (by simp; omega)).trans h.blk, h.ptr, Zl h.own fun g hg => Below.heap_setCell _ _ _ _ (by have := (h.own.lt g hg).1; simp; omega), h.ne, h.le⟩
theorem BAt.drew {B : Nat} {w : World} {b : Nat} {p v : Value} {bs : List Value} (h : BAt B w b p v bs) : BAt B w.drew b p v bs := ⟨h.blk, h.ptr, h.own, h.ne, h.le⟩
theorem BAt.new (w : World) : BAt w.heap.size (w.alloc (.cells #[.pointer none, .slice none 0 0] 110)) w.heap.size (.pointer none) (.slice none 0 0) [] :=
 ⟨heap_alloc_new w _, .inl rfl, World.ownsRow_nil _ _ _ _, by simp [Value.ownBlock], Nat.le_refl _⟩
end Go.Proofs.YtgmnfgljkocnpaaGreatDoor
