/- Package tree: what reading computes; it takes tokens, and ends. The library's contracts that are cited, laid by the shelf's own tools: Tryz.strings_IndexByte. Package lex: quoted, walked. -/
import Derived.Test.YtilchadbjflpgaaGreatDoorJ01
import Derived.Test.YtilchadbjflpgaaGreatDoorJ03
import Derived.Shelf.Small.Strs
import Derived.Shelf.LaysM
import Derived.Test.YtilchadbjflpgaaGreatDoorProg
namespace Go.Proofs.YtilchadbjflpgaaGreatDoor
open Go Go.RowKit
set_option maxRecDepth 100000
inductive Tree
 | mk (kind : Int) (text : ByteArray) (n : Int) (kids : List Tree)
def Tree.kind : Tree → Int | .mk k _ _ _ => k
def Tree.text : Tree → ByteArray | .mk _ t _ _ => t
def Tree.n : Tree → Int | .mk _ _ n _ => n
def Tree.kids : Tree → List Tree | .mk _ _ _ l => l
abbrev PR := Option (Except (Int × Nat) (Tree × List Tok))
def hdT (ts : List Tok) : Tok := ts.headD ⟨6, ByteArray.empty, 0, 0⟩
def isT (s : ByteArray) (ts : List Tok) : Bool := (decide ((hdT ts).kind = 5) || decide ((hdT ts).kind = 2)) && sameS (hdT ts).text s
def failT (e : Int) (ts : List Tok) : PR := some (.error (e, (hdT ts).at'))
def okT (t : Tree) (ts : List Tok) : PR := some (.ok (t, ts))
def wantT (s : ByteArray) (ts : List Tok) (k : List Tok → PR) : PR := if isT s ts then k ts.tail else failT 3 ts
def nameT (ts : List Tok) (k : ByteArray → List Tok → PR) : PR := if (hdT ts).kind = 1 then k (hdT ts).text ts.tail else failT 3 ts
def bindT (p : PR) (k : Tree → List Tok → PR) : PR := match p with | none => none | some (.error e) => some (.error e) | some (.ok (t, ts)) => k t ts
def s_lbrace : ByteArray := ⟨#[123]⟩
def s_rbrace : ByteArray := ⟨#[125]⟩
def s_lpar : ByteArray := ⟨#[40]⟩
def s_rpar : ByteArray := ⟨#[41]⟩
def s_semi : ByteArray := ⟨#[59]⟩
def s_comma : ByteArray := ⟨#[44]⟩
def s_colon : ByteArray := ⟨#[58]⟩
def s_dot : ByteArray := ⟨#[46]⟩
def s_eq : ByteArray := ⟨#[61]⟩
def s_var : ByteArray := ⟨#[118, 97, 114]⟩
def s_let : ByteArray := ⟨#[108, 101, 116]⟩
def s_const : ByteArray := ⟨#[99, 111, 110, 115, 116]⟩
def s_function : ByteArray := ⟨#[102, 117, 110, 99, 116, 105, 111, 110]⟩
def s_if : ByteArray := ⟨#[105, 102]⟩
def s_else : ByteArray := ⟨#[101, 108, 115, 101]⟩
def s_while : ByteArray := ⟨#[119, 104, 105, 108, 101]⟩
def s_with : ByteArray := ⟨#[119, 105, 116, 104]⟩
def s_return : ByteArray := ⟨#[114, 101, 116, 117, 114, 110]⟩
def s_throw : ByteArray := ⟨#[116, 104, 114, 111, 119]⟩
def s_try : ByteArray := ⟨#[116, 114, 121]⟩
def s_catch : ByteArray := ⟨#[99, 97, 116, 99, 104]⟩
def s_finally : ByteArray := ⟨#[102, 105, 110, 97, 108, 108, 121]⟩
def s_not : ByteArray := ⟨#[33]⟩
def s_typeof : ByteArray := ⟨#[116, 121, 112, 101, 111, 102]⟩
def s_delete : ByteArray := ⟨#[100, 101, 108, 101, 116, 101]⟩
def s_true : ByteArray := ⟨#[116, 114, 117, 101]⟩
def s_false : ByteArray := ⟨#[102, 97, 108, 115, 101]⟩
def s_null : ByteArray := ⟨#[110, 117, 108, 108]⟩
def s_undefined : ByteArray := ⟨#[117, 110, 100, 101, 102, 105, 110, 101, 100]⟩
def s_or : ByteArray := ⟨#[124, 124]⟩
def s_and : ByteArray := ⟨#[38, 38]⟩
def s_same : ByteArray := ⟨#[61, 61, 61]⟩
def s_less : ByteArray := ⟨#[60]⟩
def s_add : ByteArray := ⟨#[43]⟩
def s_sub : ByteArray := ⟨#[45]⟩
def s_mul : ByteArray := ⟨#[42]⟩
def s_usestrict : ByteArray := ⟨#[117, 115, 101, 32, 115, 116, 114, 105, 99, 116]⟩
def s_strict : ByteArray := ⟨#[115, 116, 114, 105, 99, 116]⟩
def strictL (l : List Tree) : Bool :=
 match l with
 | .mk k _ _ (x :: _) :: _ => decide (k = 15) && decide (x.kind = 18) && sameS x.text s_usestrict
 | _ => false
def levelT (level : Nat) (ts : List Tok) : Int :=
 match level with
 | 0 => if isT s_or ts then 25 else 0
 | 1 => if isT s_and ts then 26 else 0
 | 2 => if isT s_same ts then 27 else 0
 | 3 => if isT s_less ts then 28 else 0
 | 4 => if isT s_add ts then 29 else if isT s_sub ts then 30 else 0
 | 5 => if isT s_mul ts then 31 else 0
 | _ => 0
def unaryT (ts : List Tok) : Int := if isT s_not ts then 32 else if isT s_typeof ts then 33 else if isT s_delete ts then 34 else 0
def constT (ts : List Tok) : Int := if isT s_true ts then 19 else if isT s_false ts then 20 else if isT s_null ts then 21 else if isT s_undefined ts then 22 else 0
inductive Job
 | stmts (kind : Int) (acc : List Tree)
 | block (body : Bool)
 | func (kind : Int) (text : ByteArray)
 | params (acc : List Tree)
 | around
 | stmt
 | decl (kind : Int) (must : Bool)
 | try_
 | value
 | assign
 | bin (level : Nat)
 | binLoop (level : Nat) (x : Tree)
 | unary
 | postfix_
 | postLoop (x : Tree)
 | args (acc : List Tree)
 | primary
 | object (acc : List Tree)
def endT (n : Tree) (ts : List Tok) : PR := wantT s_semi ts fun ts => okT n ts
def withinT (d : Nat) (ts : List Tok) (p : PR) : PR := if 30 < d + 1 then failT 4 ts else p
def parseF : Nat → Job → Nat → List Tok → PR
 | 0, _, _, _ => none
 | f + 1, .stmts kind acc, d, ts =>
   if (if kind = 1 then decide ((hdT ts).kind = 6) else isT s_rbrace ts) then okT (.mk kind (if strictL acc then s_strict else ByteArray.empty) 0 acc) ts
   else bindT (withinT d ts (parseF f .stmt (d + 1) ts)) fun x ts => parseF f (.stmts kind (acc ++ [x])) d ts
 | f + 1, .block body, d, ts =>
   wantT s_lbrace ts fun ts => bindT (parseF f (.stmts 6 []) d ts) fun x ts => wantT s_rbrace ts fun ts => okT (if body then x else .mk 6 ByteArray.empty 0 x.kids) ts
 | f + 1, .func kind text, d, ts =>
   wantT s_lpar ts fun ts => bindT (parseF f (.params []) d ts) fun p ts => wantT s_rpar ts fun ts => bindT (parseF f (.block true) d ts) fun b ts => okT (.mk kind text 0 [p, b]) ts
 | f + 1, .params acc, d, ts =>
   if isT s_rpar ts then okT (.mk 40 ByteArray.empty 0 acc) ts
   else (if 0 < acc.length then wantT s_comma ts else fun k => k ts) fun ts =>
    if acc.length = 8 then failT 4 ts else nameT ts fun s ts => parseF f (.params (acc ++ [.mk 23 s 0 []])) d ts
 | f + 1, .around, d, ts =>
   wantT s_lpar ts fun ts => bindT (parseF f .value d ts) fun x ts => wantT s_rpar ts fun ts => okT x ts
 | f + 1, .stmt, d, ts =>
   if isT s_lbrace ts then parseF f (.block false) d ts
   else if isT s_semi ts then okT (.mk 16 ByteArray.empty 0 []) ts.tail
   else if isT s_var ts then bindT (parseF f (.decl 2 false) d ts.tail) endT
   else if isT s_let ts then bindT (parseF f (.decl 3 false) d ts.tail) endT
   else if isT s_const ts then bindT (parseF f (.decl 4 true) d ts.tail) endT
   else if isT s_function ts then nameT ts.tail fun s ts => parseF f (.func 5 s) d ts
   else if isT s_if ts then
    bindT (parseF f .around d ts.tail) fun x ts => bindT (withinT d ts (parseF f .stmt (d + 1) ts)) fun y ts =>
     if isT s_else ts then bindT (withinT d ts.tail (parseF f .stmt (d + 1) ts.tail)) fun z ts => okT (.mk 7 ByteArray.empty 0 [x, y, z]) ts
     else okT (.mk 7 ByteArray.empty 0 [x, y]) ts
   else if isT s_while ts then
    bindT (parseF f .around d ts.tail) fun x ts => bindT (withinT d ts (parseF f .stmt (d + 1) ts)) fun y ts => okT (.mk 8 ByteArray.empty 0 [x, y]) ts
   else if isT s_with ts then
    bindT (parseF f .around d ts.tail) fun x ts => bindT (withinT d ts (parseF f .stmt (d + 1) ts)) fun y ts => okT (.mk 9 ByteArray.empty 0 [x, y]) ts
   else if isT s_return ts then
    if isT s_semi ts.tail then endT (.mk 10 ByteArray.empty 0 []) ts.tail
    else bindT (parseF f .value d ts.tail) fun x ts => endT (.mk 10 ByteArray.empty 0 [x]) ts
   else if isT s_throw ts then bindT (parseF f .value d ts.tail) fun x ts => endT (.mk 11 ByteArray.empty 0 [x]) ts
   else if isT s_try ts then parseF f .try_ d ts.tail
   else bindT (parseF f .value d ts) fun x ts => endT (.mk 15 ByteArray.empty 0 [x]) ts
 | f + 1, .decl kind must, d, ts =>
   nameT ts fun s ts =>
    if must && !isT s_eq ts then failT 3 ts
    else if isT s_eq ts then bindT (parseF f .value d ts.tail) fun x ts => okT (.mk kind s 0 [x]) ts
    else okT (.mk kind s 0 []) ts
 | f + 1, .try_, d, ts =>
   bindT (parseF f (.block false) d ts) fun b ts =>
    (fun (k : List Tree → List Tok → PR) =>
     if isT s_catch ts then wantT s_lpar ts.tail fun ts => nameT ts fun s ts => wantT s_rpar ts fun ts => bindT (parseF f (.block false) d ts) fun c ts => k [b, .mk 13 s 0 [c]] ts
     else k [b] ts) fun l ts =>
    if isT s_finally ts then bindT (parseF f (.block false) d ts.tail) fun c ts => okT (.mk 12 ByteArray.empty 0 (l ++ [.mk 14 ByteArray.empty 0 [c]])) ts
    else if l.length = 1 then failT 3 ts else okT (.mk 12 ByteArray.empty 0 l) ts
 | f + 1, .value, d, ts => withinT d ts (parseF f .assign (d + 1) ts)
 | f + 1, .assign, d, ts =>
   bindT (parseF f (.bin 0) d ts) fun x ts' =>
    if isT s_eq ts' then
     if x.kind = 23 ∨ x.kind = 36 then bindT (parseF f .value d ts'.tail) fun y ts => okT (.mk 24 ByteArray.empty 0 [x, y]) ts
     else some (.error (1, (hdT ts).at'))
    else okT x ts'
 | f + 1, .bin level, d, ts =>
   if 6 ≤ level then parseF f .unary d ts
   else bindT (parseF f (.bin (level + 1)) d ts) fun x ts => parseF f (.binLoop level x) d ts
 | f + 1, .binLoop level x, d, ts =>
   if levelT level ts = 0 then okT x ts
   else bindT (parseF f (.bin (level + 1)) d ts.tail) fun y ts' => parseF f (.binLoop level (.mk (levelT level ts) ByteArray.empty 0 [x, y])) d ts'
 | f + 1, .unary, d, ts =>
   if unaryT ts = 0 then parseF f .postfix_ d ts
   else bindT (withinT d ts.tail (parseF f .unary (d + 1) ts.tail)) fun x ts' => okT (.mk (unaryT ts) ByteArray.empty 0 [x]) ts'
 | f + 1, .postfix_, d, ts => bindT (parseF f .primary d ts) fun x ts => parseF f (.postLoop x) d ts
 | f + 1, .postLoop x, d, ts =>
   if isT s_dot ts then nameT ts.tail fun s ts => parseF f (.postLoop (.mk 36 s 0 [x])) d ts
   else if isT s_lpar ts then bindT (parseF f (.args [x]) d ts.tail) fun n ts => parseF f (.postLoop n) d ts
   else okT x ts
 | f + 1, .args acc, d, ts =>
   if isT s_rpar ts then okT (.mk 35 ByteArray.empty 0 acc) ts.tail
   else (if 1 < acc.length then wantT s_comma ts else fun k => k ts) fun ts =>
    if 8 < acc.length then failT 4 ts else bindT (parseF f .value d ts) fun v ts => parseF f (.args (acc ++ [v])) d ts
 | f + 1, .primary, d, ts =>
   if (hdT ts).kind = 1 then okT (.mk 23 (hdT ts).text 0 []) ts.tail
   else if (hdT ts).kind = 3 then okT (.mk 17 ByteArray.empty (hdT ts).n []) ts.tail
   else if (hdT ts).kind = 4 then okT (.mk 18 (hdT ts).text 0 []) ts.tail
   else if constT ts ≠ 0 then okT (.mk (constT ts) ByteArray.empty 0 []) ts.tail
   else if isT s_lpar ts then parseF f .around d ts
   else if isT s_function ts then
    if (hdT ts.tail).kind = 1 then parseF f (.func 37 (hdT ts.tail).text) d ts.tail.tail
    else parseF f (.func 37 ByteArray.empty) d ts.tail
   else if isT s_lbrace ts then parseF f (.object []) d ts.tail
   else failT 3 ts
 | f + 1, .object acc, d, ts =>
   if isT s_rbrace ts then okT (.mk 38 ByteArray.empty 0 acc) ts.tail
   else (if 0 < acc.length then wantT s_comma ts else fun k => k ts) fun ts =>
    if acc.length = 8 then failT 4 ts
    else nameT ts fun s ts => wantT s_colon ts fun ts => bindT (parseF f .value d ts) fun v ts => parseF f (.object (acc ++ [.mk 39 s 0 [v]])) d ts
mutual
def Tree.many : Tree → Nat
 | .mk _ _ _ l => manyL l + 1
def manyL : List Tree → Nat
 | [] => 0
 | t :: l => t.many + manyL l
end
theorem isT_cons {s : ByteArray} {ts : List Tok} (h : isT s ts = true) : ts.tail.length < ts.length := by
 cases ts with
 | nil => simp [isT, hdT] at h
 | cons t l => simp
theorem tail_le (ts : List Tok) : ts.tail.length ≤ ts.length := by cases ts <;> simp
theorem kind_cons {ts : List Tok} (h : (hdT ts).kind ≠ 6) : ts.tail.length < ts.length := by
 cases ts with
 | nil => simp [hdT] at h
 | cons t l => simp
def Leaves (n : Nat) (p : PR) : Prop := ∀ t ts, p = some (.ok (t, ts)) → ts.length < n
theorem Leaves.fail {n : Nat} {e : Int} {ts : List Tok} : Leaves n (failT e ts) := by intro t ts' h; cases h
theorem Leaves.none {n : Nat} : Leaves n none := by intro t ts' h; cases h
theorem Leaves.err {n : Nat} {e : Int × Nat} : Leaves n (some (.error e)) := by intro t ts' h; cases h
theorem Leaves.ok {n : Nat} {t : Tree} {ts : List Tok} (h : ts.length < n) : Leaves n (okT t ts) := by
 intro t' ts' h'
 simp only [okT, Option.some.injEq, Except.ok.injEq, Prod.mk.injEq] at h'
 rw [← h'.2]; exact h
theorem Leaves.bind {n m : Nat} {p : PR} {k : Tree → List Tok → PR} (hp : Leaves m p) (hk : ∀ t ts, ts.length < m → Leaves n (k t ts)) : Leaves n (bindT p k) := by
 cases p with
 | none => exact Leaves.none
 | some r =>
   cases r with
   | error e => exact Leaves.err
   | ok x => obtain ⟨t, ts⟩ := x; exact hk t ts (hp t ts rfl)
theorem Leaves.want {n : Nat} {s : ByteArray} {ts : List Tok} {k : List Tok → PR} (hk : ts.tail.length < ts.length → Leaves n (k ts.tail)) : Leaves n (wantT s ts k) := by
 unfold wantT
 by_cases h : isT s ts = true
 ·rw [if_pos h]; exact hk (isT_cons h)
 ·rw [if_neg h]; exact Leaves.fail
theorem Leaves.name {n : Nat} {ts : List Tok} {k : ByteArray → List Tok → PR} (hk : ∀ s, ts.tail.length < ts.length → Leaves n (k s ts.tail)) : Leaves n (nameT ts k) := by
 unfold nameT
 by_cases h : (hdT ts).kind = 1
 ·rw [if_pos h]; exact hk _ (kind_cons (by omega))
 ·rw [if_neg h]; exact Leaves.fail
theorem Leaves.within {n d : Nat} {ts : List Tok} {p : PR} (h : Leaves n p) : Leaves n (withinT d ts p) := by
 unfold withinT
 by_cases h' : 30 < d + 1
 ·rw [if_pos h']; exact Leaves.fail
 ·rw [if_neg h']; exact h
theorem Leaves.ite {n : Nat} {c : Prop} [Decidable c] {p q : PR} (hp : c → Leaves n p) (hq : ¬ c → Leaves n q) : Leaves n (if c then p else q) := by
 by_cases h : c
 ·rw [if_pos h]; exact hp h
 ·rw [if_neg h]; exact hq h
theorem Leaves.comma {n : Nat} {c : Prop} [Decidable c] {ts : List Tok} {k : List Tok → PR} (hk : ∀ ts', ts'.length ≤ ts.length → Leaves n (k ts')) : Leaves n ((if c then wantT s_comma ts else fun k => k ts) k) := by
 by_cases h : c
 ·rw [if_pos h]; exact Leaves.want fun h' => hk _ (by omega)
 ·rw [if_neg h]; exact hk _ (Nat.le_refl _)
def Job.least : Job → Nat
 | .stmts .. => 1
 | .params .. => 1
 | .binLoop .. => 1
 | .postLoop .. => 1
 | _ => 0
theorem parse_leaves : ∀ (f : Nat) (job : Job) (d : Nat) (ts : List Tok), Leaves (ts.length + job.least) (parseF f job d ts) := by
 intro f
 induction f with
 | zero => intro job d ts; unfold parseF; exact Leaves.none
 | succ f ih =>
   intro job d ts
   have ih0 : ∀ {n : Nat} {job : Job} (d : Nat) (ts : List Tok), ts.length + job.least ≤ n → Leaves n (parseF f job d ts) := fun d ts h t ts' e => Nat.lt_of_lt_of_le (ih _ d ts t ts' e) h
   cases job with
   | stmts kind acc =>
     unfold parseF
     refine Leaves.ite (fun _ => Leaves.ok (by simp [Job.least])) fun _ => ?_
     exact Leaves.bind (Leaves.within (ih .stmt _ _)) fun t ts' h => ih0 _ _ (by simp only [Job.least] at *; omega)
   | block body =>
     unfold parseF
     refine Leaves.want fun h => ?_
     refine Leaves.bind (ih (.stmts 6 []) _ _) fun t ts' h' => ?_
     refine Leaves.want fun h'' => Leaves.ok ?_
     simp only [Job.least] at *; omega
   | func kind text =>
     unfold parseF
     refine Leaves.want fun h => Leaves.bind (ih (.params []) _ _) fun t ts' h' => Leaves.want fun h2 => Leaves.bind (ih (.block true) _ _) fun t ts' h3 => Leaves.ok ?_
     simp only [Job.least] at *; omega
   | params acc =>
     unfold parseF
     refine Leaves.ite (fun _ => Leaves.ok (by simp [Job.least])) fun _ => ?_
     refine Leaves.comma fun ts' h => Leaves.ite (fun _ => Leaves.fail) fun _ => Leaves.name fun s h2 => ih0 _ _ ?_
     simp only [Job.least] at *; omega
   | around =>
     unfold parseF
     refine Leaves.want fun h => Leaves.bind (ih .value _ _) fun t ts' h' => Leaves.want fun h2 => Leaves.ok ?_
     simp only [Job.least] at *; omega
   | stmt =>
     unfold parseF
     have hend : ∀ (n : Tree) (us : List Tok), us.length ≤ ts.length → Leaves (ts.length + Job.stmt.least) (endT n us) := fun n us h => Leaves.want fun h2 => Leaves.ok (by simp only [Job.least] at *; omega)
     have htl := tail_le ts
     refine Leaves.ite (fun h => ih0 _ _ (by simp [Job.least])) fun _ => ?_
     refine Leaves.ite (fun h => Leaves.ok (by have := isT_cons h; simp only [Job.least] at *; omega)) fun _ => ?_
     refine Leaves.ite (fun h => Leaves.bind (ih (.decl 2 false) _ _) fun t us h2 => hend _ _ (by simp only [Job.least] at *; omega)) fun _ => ?_
     refine Leaves.ite (fun h => Leaves.bind (ih (.decl 3 false) _ _) fun t us h2 => hend _ _ (by simp only [Job.least] at *; omega)) fun _ => ?_
     refine Leaves.ite (fun h => Leaves.bind (ih (.decl 4 true) _ _) fun t us h2 => hend _ _ (by simp only [Job.least] at *; omega)) fun _ => ?_
     refine Leaves.ite (fun h => Leaves.name fun s h2 => ih0 _ _ (by simp only [Job.least] at *; omega)) fun _ => ?_
     refine Leaves.ite (fun h => Leaves.bind (ih .around _ _) fun t us h2 => Leaves.bind (Leaves.within (ih .stmt _ _)) fun t vs h3 => Leaves.ite (fun h4 => Leaves.bind (Leaves.within (ih .stmt _ _)) fun t xs h5 => Leaves.ok (by have := tail_le vs; simp only [Job.least] at *; omega)) (fun _ => Leaves.ok (by simp only [Job.least] at *; omega))) fun _ => ?_
     refine Leaves.ite (fun h => Leaves.bind (ih .around _ _) fun t us h2 => Leaves.bind (Leaves.within (ih .stmt _ _)) fun t vs h3 => Leaves.ok (by simp only [Job.least] at *; omega)) fun _ => ?_
     refine Leaves.ite (fun h => Leaves.bind (ih .around _ _) fun t us h2 => Leaves.bind (Leaves.within (ih .stmt _ _)) fun t vs h3 => Leaves.ok (by simp only [Job.least] at *; omega)) fun _ => ?_
     refine Leaves.ite (fun h => Leaves.ite (fun h1 => hend _ _ htl) (fun _ => Leaves.bind (ih .value _ _) fun t us h2 => hend _ _ (by simp only [Job.least] at *; omega))) fun _ => ?_
     refine Leaves.ite (fun h => Leaves.bind (ih .value _ _) fun t us h2 => hend _ _ (by simp only [Job.least] at *; omega)) fun _ => ?_
     refine Leaves.ite (fun h => ih0 _ _ (by simp only [Job.least] at *; omega)) fun _ => ?_
     exact Leaves.bind (ih .value _ _) fun t us h2 => hend _ _ (by simp only [Job.least] at *; omega)
   | decl kind must =>
     unfold parseF
     refine Leaves.name fun s h => Leaves.ite (fun _ => Leaves.fail) fun _ => Leaves.ite (fun h2 => Leaves.bind (ih .value _ _) fun t us h3 => Leaves.ok ?_) fun _ => Leaves.ok ?_
     ·have := tail_le ts.tail; simp only [Job.least] at *; omega
     ·simp only [Job.least] at *; omega
   | try_ =>
     unfold parseF
     refine Leaves.bind (ih (.block false) _ _) fun b us h => ?_
     have hk : ∀ (l : List Tree) (vs : List Tok), vs.length ≤ us.length → Leaves (ts.length + Job.try_.least) (if isT s_finally vs then bindT (parseF f (.block false) d vs.tail) fun c ts => okT (.mk 12 ByteArray.empty 0 (l ++ [.mk 14 ByteArray.empty 0 [c]])) ts else if l.length = 1 then failT 3 vs else okT (.mk 12 ByteArray.empty 0 l) vs) := by
      intro l vs h2
      have := tail_le vs
      refine Leaves.ite (fun _ => Leaves.bind (ih (.block false) _ _) fun t xs h3 => Leaves.ok ?_) fun _ => Leaves.ite (fun _ => Leaves.fail) fun _ => Leaves.ok ?_
      ·simp only [Job.least] at *; omega
      ·simp only [Job.least] at *; omega
     refine Leaves.ite (fun h1 => ?_) fun _ => hk _ _ (Nat.le_refl _)
     refine Leaves.want fun h2 => Leaves.name fun s h3 => Leaves.want fun h4 => Leaves.bind (ih (.block false) _ _) fun c vs h5 => hk _ _ ?_
     have := tail_le us; simp only [Job.least] at *; omega
   | value => unfold parseF; exact Leaves.within (ih0 _ _ (by simp [Job.least]))
   | assign =>
     unfold parseF
     refine Leaves.bind (ih (.bin 0) _ _) fun x us h => Leaves.ite (fun h1 => Leaves.ite (fun _ => Leaves.bind (ih .value _ _) fun y vs h2 => Leaves.ok ?_) fun _ => Leaves.err) fun _ => Leaves.ok ?_
     ·have := tail_le us; simp only [Job.least] at *; omega
     ·simp only [Job.least] at *; omega
   | bin level =>
     unfold parseF
     refine Leaves.ite (fun _ => ih0 _ _ (by simp [Job.least])) fun _ => Leaves.bind (ih (.bin (level + 1)) _ _) fun x us h => ih0 _ _ ?_
     simp only [Job.least] at *; omega
   | binLoop level x =>
     unfold parseF
     refine Leaves.ite (fun _ => Leaves.ok (by simp [Job.least])) fun _ => Leaves.bind (ih (.bin (level + 1)) _ _) fun y us h => ih0 _ _ ?_
     have := tail_le ts; simp only [Job.least] at *; omega
   | unary =>
     unfold parseF
     refine Leaves.ite (fun _ => ih0 _ _ (by simp [Job.least])) fun _ => Leaves.bind (Leaves.within (ih .unary _ _)) fun y us h => Leaves.ok ?_
     have := tail_le ts; simp only [Job.least] at *; omega
   | postfix_ =>
     unfold parseF
     refine Leaves.bind (ih .primary _ _) fun y us h => ih0 _ _ ?_
     simp only [Job.least] at *; omega
   | postLoop x =>
     unfold parseF
     have := tail_le ts
     refine Leaves.ite (fun _ => Leaves.name fun s h => ih0 _ _ (by simp only [Job.least] at *; omega)) fun _ => Leaves.ite (fun _ => Leaves.bind (ih (.args [x]) _ _) fun y us h => ih0 _ _ (by simp only [Job.least] at *; omega)) fun _ => Leaves.ok (by simp [Job.least])
   | args acc =>
     unfold parseF
     refine Leaves.ite (fun h => Leaves.ok (by have := isT_cons h; simp only [Job.least] at *; omega)) fun _ => Leaves.comma fun us h => Leaves.ite (fun _ => Leaves.fail) fun _ => Leaves.bind (ih .value _ _) fun y vs h2 => ih0 _ _ (by simp only [Job.least] at *; omega)
   | primary =>
     unfold parseF
     have := tail_le ts
     have := tail_le ts.tail
     refine Leaves.ite (fun h => Leaves.ok (by have := kind_cons (ts := ts) (by omega); simp only [Job.least] at *; omega)) fun _ => ?_
     refine Leaves.ite (fun h => Leaves.ok (by have := kind_cons (ts := ts) (by omega); simp only [Job.least] at *; omega)) fun _ => ?_
     refine Leaves.ite (fun h => Leaves.ok (by have := kind_cons (ts := ts) (by omega); simp only [Job.least] at *; omega)) fun _ => ?_
     refine Leaves.ite (fun h => Leaves.ok ?_) fun _ => ?_
     ·have : ts.tail.length < ts.length := by
       unfold constT at h
       by_cases h1 : isT s_true ts = true
       ·exact isT_cons h1
       ·by_cases h2 : isT s_false ts = true
        ·exact isT_cons h2
        ·by_cases h3 : isT s_null ts = true
         ·exact isT_cons h3
         ·by_cases h4 : isT s_undefined ts = true
          ·exact isT_cons h4
          ·simp [h1, h2, h3, h4] at h
      simp only [Job.least] at *; omega
     refine Leaves.ite (fun _ => ih0 _ _ (by simp [Job.least])) fun _ => ?_
     refine Leaves.ite (fun _ => Leaves.ite (fun _ => ih0 _ _ (by simp only [Job.least] at *; omega)) fun _ => ih0 _ _ (by simp only [Job.least] at *; omega)) fun _ => ?_
     exact Leaves.ite (fun _ => ih0 _ _ (by simp only [Job.least] at *; omega)) fun _ => Leaves.fail
   | object acc =>
     unfold parseF
     refine Leaves.ite (fun h => Leaves.ok (by have := isT_cons h; simp only [Job.least] at *; omega)) fun _ => Leaves.comma fun us h => Leaves.ite (fun _ => Leaves.fail) fun _ => Leaves.name fun s h1 => Leaves.want fun h2 => Leaves.bind (ih .value _ _) fun y vs h2 => ih0 _ _ (by simp only [Job.least] at *; omega)
def Job.rank : Job → Nat
 | .stmts .. => 30
 | .block _ => 5
 | .func .. => 1
 | .params _ => 1
 | .around => 1
 | .stmt => 20
 | .decl .. => 1
 | .try_ => 6
 | .value => 19
 | .assign => 18
 | .bin level => 10 + (6 - level)
 | .binLoop .. => 31
 | .unary => 9
 | .postfix_ => 8
 | .postLoop _ => 31
 | .args _ => 31
 | .primary => 7
 | .object _ => 31
def Some' (p : PR) : Prop := p ≠ none
theorem Some'.fail {e : Int} {ts : List Tok} : Some' (failT e ts) := by simp [Some', failT]
theorem Some'.ok {t : Tree} {ts : List Tok} : Some' (okT t ts) := by simp [Some', okT]
theorem Some'.bind {p : PR} {k : Tree → List Tok → PR} {n : Nat} (hp : Some' p) (hl : Leaves n p) (hk : ∀ t ts, ts.length < n → Some' (k t ts)) : Some' (bindT p k) := by
 cases p with
 | none => exact absurd rfl hp
 | some r =>
   cases r with
   | error e => simp [Some', bindT]
   | ok x => obtain ⟨t, ts⟩ := x; exact hk t ts (hl t ts rfl)
theorem Some'.want {s : ByteArray} {ts : List Tok} {k : List Tok → PR} (hk : ts.tail.length < ts.length → Some' (k ts.tail)) : Some' (wantT s ts k) := by
 unfold wantT
 by_cases h : isT s ts = true
 ·rw [if_pos h]; exact hk (isT_cons h)
 ·rw [if_neg h]; exact Some'.fail
theorem Some'.name {ts : List Tok} {k : ByteArray → List Tok → PR} (hk : ∀ s, ts.tail.length < ts.length → Some' (k s ts.tail)) : Some' (nameT ts k) := by
 unfold nameT
 by_cases h : (hdT ts).kind = 1
 ·rw [if_pos h]; exact hk _ (kind_cons (by omega))
 ·rw [if_neg h]; exact Some'.fail
theorem Some'.within {d : Nat} {ts : List Tok} {p : PR} (h : Some' p) : Some' (withinT d ts p) := by
 unfold withinT
 by_cases h' : 30 < d + 1
 ·rw [if_pos h']; exact Some'.fail
 ·rw [if_neg h']; exact h
theorem Some'.ite {c : Prop} [Decidable c] {p q : PR} (hp : c → Some' p) (hq : ¬ c → Some' q) : Some' (if c then p else q) := by
 by_cases h : c
 ·rw [if_pos h]; exact hp h
 ·rw [if_neg h]; exact hq h
theorem Some'.comma {c : Prop} [Decidable c] {ts : List Tok} {k : List Tok → PR} (hk : ∀ ts', ts'.length ≤ ts.length → Some' (k ts')) : Some' ((if c then wantT s_comma ts else fun k => k ts) k) := by
 by_cases h : c
 ·rw [if_pos h]; exact Some'.want fun h' => hk _ (by omega)
 ·rw [if_neg h]; exact hk _ (Nat.le_refl _)
theorem unaryT_cons {ts : List Tok} (h : ¬ unaryT ts = 0) : ts.tail.length < ts.length := by
 unfold unaryT at h
 by_cases h1 : isT s_not ts = true
 ·exact isT_cons h1
 ·by_cases h2 : isT s_typeof ts = true
  ·exact isT_cons h2
  ·by_cases h3 : isT s_delete ts = true
   ·exact isT_cons h3
   ·simp [h1, h2, h3] at h
theorem levelT_cons {level : Nat} {ts : List Tok} (h : ¬ levelT level ts = 0) : ts.tail.length < ts.length := by
 have key : ∀ {s : ByteArray} {x y : Int}, ¬ (if isT s ts then x else y) = 0 → ¬ y = 0 ∨ ts.tail.length < ts.length := by
  intro s x y h
  by_cases h1 : isT s ts = true
  ·exact .inr (isT_cons h1)
  ·rw [if_neg h1] at h; exact .inl h
 unfold levelT at h
 split at h
 all_goals first
  | exact absurd rfl h
  | (rcases key h with h | h; (exact absurd rfl h); exact h)
  | (rcases key h with h | h; (rcases key h with h | h; (exact absurd rfl h); exact h); exact h)
theorem parse_some : ∀ (f : Nat) (job : Job) (d : Nat) (ts : List Tok), 40 * ts.length + job.rank < f → Some' (parseF f job d ts) := by
 intro f
 induction f with
 | zero => intro job d ts h; omega
 | succ f ih =>
   intro job d ts hf
   have L := parse_leaves f
   have htl := tail_le ts
   cases job with
   | stmts kind acc =>
     unfold parseF
     refine Some'.ite (fun _ => Some'.ok) fun _ => Some'.bind (n := ts.length) (Some'.within (ih _ _ _ (by simp only [Job.rank] at *; omega))) (Leaves.within (L .stmt _ _)) fun t us h => ih _ _ _ (by simp only [Job.rank] at *; omega)
   | block body =>
     unfold parseF
     refine Some'.want fun h => Some'.bind (ih _ _ _ (by simp only [Job.rank] at *; omega)) (L _ _ _) fun t us h => Some'.want fun h2 => Some'.ok
   | func kind text =>
     unfold parseF
     refine Some'.want fun h => Some'.bind (ih _ _ _ (by simp only [Job.rank] at *; omega)) (L (.params []) _ _) fun t us h => Some'.want fun h2 => Some'.bind (ih _ _ _ (by simp only [Job.rank, Job.least] at *; omega)) (L _ _ _) fun t us h => Some'.ok
   | params acc =>
     unfold parseF
     refine Some'.ite (fun _ => Some'.ok) fun _ => Some'.comma fun us h => Some'.ite (fun _ => Some'.fail) fun _ => Some'.name fun s h2 => ih _ _ _ (by simp only [Job.rank] at *; omega)
   | around =>
     unfold parseF
     refine Some'.want fun h => Some'.bind (ih _ _ _ (by simp only [Job.rank] at *; omega)) (L _ _ _) fun t us h => Some'.want fun h2 => Some'.ok
   | stmt =>
     unfold parseF
     have hend : ∀ (n : Tree) (us : List Tok), Some' (endT n us) := fun n us => Some'.want fun h2 => Some'.ok
     refine Some'.ite (fun h => ih _ _ _ (by simp only [Job.rank] at *; omega)) fun _ => ?_
     refine Some'.ite (fun h => Some'.ok) fun _ => ?_
     refine Some'.ite (fun h => Some'.bind (ih _ _ _ (by simp only [Job.rank] at *; omega)) (L _ _ _) fun t us h2 => hend _ _) fun _ => ?_
     refine Some'.ite (fun h => Some'.bind (ih _ _ _ (by simp only [Job.rank] at *; omega)) (L _ _ _) fun t us h2 => hend _ _) fun _ => ?_
     refine Some'.ite (fun h => Some'.bind (ih _ _ _ (by simp only [Job.rank] at *; omega)) (L _ _ _) fun t us h2 => hend _ _) fun _ => ?_
     refine Some'.ite (fun h => Some'.name fun s h2 => ih _ _ _ (by simp only [Job.rank] at *; omega)) fun _ => ?_
     refine Some'.ite (fun h => ?_) fun _ => ?_
     ·have := isT_cons h
      refine Some'.bind (ih _ _ _ (by simp only [Job.rank] at *; omega)) (L .around _ _) fun t us h2 => ?_
      refine Some'.bind (Some'.within (ih _ _ _ (by simp only [Job.rank, Job.least] at *; omega))) (Leaves.within (L .stmt _ _)) fun t vs h3 => ?_
      have := tail_le vs
      exact Some'.ite (fun h4 => Some'.bind (Some'.within (ih _ _ _ (by simp only [Job.rank, Job.least] at *; omega))) (Leaves.within (L .stmt _ _)) fun t xs h5 => Some'.ok) fun _ => Some'.ok
     refine Some'.ite (fun h => ?_) fun _ => ?_
     ·have := isT_cons h
      refine Some'.bind (ih _ _ _ (by simp only [Job.rank] at *; omega)) (L .around _ _) fun t us h2 => ?_
      exact Some'.bind (Some'.within (ih _ _ _ (by simp only [Job.rank, Job.least] at *; omega))) (Leaves.within (L .stmt _ _)) fun t vs h3 => Some'.ok
     refine Some'.ite (fun h => ?_) fun _ => ?_
     ·have := isT_cons h
      refine Some'.bind (ih _ _ _ (by simp only [Job.rank] at *; omega)) (L .around _ _) fun t us h2 => ?_
      exact Some'.bind (Some'.within (ih _ _ _ (by simp only [Job.rank, Job.least] at *; omega))) (Leaves.within (L .stmt _ _)) fun t vs h3 => Some'.ok
     refine Some'.ite (fun h => Some'.ite (fun h1 => hend _ _) fun _ => Some'.bind (ih _ _ _ (by simp only [Job.rank] at *; omega)) (L _ _ _) fun t us h2 => hend _ _) fun _ => ?_
     refine Some'.ite (fun h => Some'.bind (ih _ _ _ (by simp only [Job.rank] at *; omega)) (L _ _ _) fun t us h2 => hend _ _) fun _ => ?_
     refine Some'.ite (fun h => ih _ _ _ (by simp only [Job.rank] at *; omega)) fun _ => ?_
     exact Some'.bind (ih _ _ _ (by simp only [Job.rank] at *; omega)) (L _ _ _) fun t us h2 => hend _ _
   | decl kind must =>
     unfold parseF
     refine Some'.name fun s h => Some'.ite (fun _ => Some'.fail) fun _ => Some'.ite (fun h2 => Some'.bind (ih _ _ _ ?_) (L _ _ _) fun t us h3 => Some'.ok) fun _ => Some'.ok
     have := tail_le ts.tail; simp only [Job.rank] at *; omega
   | try_ =>
     unfold parseF
     refine Some'.bind (ih _ _ _ (by simp only [Job.rank] at *; omega)) (L (.block false) _ _) fun b us h => ?_
     have hk : ∀ (l : List Tree) (vs : List Tok), vs.length ≤ us.length → Some' (if isT s_finally vs then bindT (parseF f (.block false) d vs.tail) fun c ts => okT (.mk 12 ByteArray.empty 0 (l ++ [.mk 14 ByteArray.empty 0 [c]])) ts else if l.length = 1 then failT 3 vs else okT (.mk 12 ByteArray.empty 0 l) vs) := by
      intro l vs h2
      have := tail_le vs
      exact Some'.ite (fun _ => Some'.bind (ih _ _ _ (by simp only [Job.rank, Job.least] at *; omega)) (L _ _ _) fun t xs h3 => Some'.ok) fun _ => Some'.ite (fun _ => Some'.fail) fun _ => Some'.ok
     refine Some'.ite (fun h1 => ?_) fun _ => hk _ _ (Nat.le_refl _)
     have := tail_le us
     refine Some'.want fun h2 => Some'.name fun s h3 => Some'.want fun h4 => Some'.bind (ih _ _ _ (by simp only [Job.rank, Job.least] at *; omega)) (L (.block false) _ _) fun c vs h5 => hk _ _ ?_
     simp only [Job.least] at *; omega
   | value => unfold parseF; exact Some'.within (ih _ _ _ (by simp only [Job.rank] at *; omega))
   | assign =>
     unfold parseF
     refine Some'.bind (ih _ _ _ (by simp only [Job.rank] at *; omega)) (L (.bin 0) _ _) fun x us h => Some'.ite (fun h1 => Some'.ite (fun _ => Some'.bind (ih _ _ _ ?_) (L _ _ _) fun y vs h2 => Some'.ok) fun _ => by simp [Some']) fun _ => Some'.ok
     have := tail_le us; simp only [Job.rank, Job.least] at *; omega
   | bin level =>
     unfold parseF
     refine Some'.ite (fun h => ih _ _ _ (by simp only [Job.rank] at *; omega)) fun h => Some'.bind (ih _ _ _ (by simp only [Job.rank] at *; omega)) (L (.bin (level + 1)) _ _) fun x us h => ih _ _ _ (by simp only [Job.rank, Job.least] at *; omega)
   | binLoop level x =>
     unfold parseF
     refine Some'.ite (fun _ => Some'.ok) fun h0 => Some'.bind (ih _ _ _ ?_) (L (.bin (level + 1)) _ _) fun y us h => ih _ _ _ ?_
     ·have := levelT_cons h0; simp only [Job.rank] at *; omega
     ·have := levelT_cons h0; simp only [Job.rank, Job.least] at *; omega
   | unary =>
     unfold parseF
     refine Some'.ite (fun _ => ih _ _ _ (by simp only [Job.rank] at *; omega)) fun h0 => Some'.bind (Some'.within (ih _ _ _ ?_)) (Leaves.within (L _ _ _)) fun y us h => Some'.ok
     have := unaryT_cons h0; simp only [Job.rank] at *; omega
   | postfix_ =>
     unfold parseF
     exact Some'.bind (ih _ _ _ (by simp only [Job.rank] at *; omega)) (L .primary _ _) fun y us h => ih _ _ _ (by simp only [Job.rank, Job.least] at *; omega)
   | postLoop x =>
     unfold parseF
     refine Some'.ite (fun h => Some'.name fun s h2 => ih _ _ _ (by simp only [Job.rank] at *; omega)) fun _ => Some'.ite (fun h => ?_) fun _ => Some'.ok
     have := isT_cons h
     exact Some'.bind (ih _ _ _ (by simp only [Job.rank] at *; omega)) (L (.args [x]) _ _) fun y us h => ih _ _ _ (by simp only [Job.rank, Job.least] at *; omega)
   | args acc =>
     unfold parseF
     exact Some'.ite (fun h => Some'.ok) fun _ => Some'.comma fun us h => Some'.ite (fun _ => Some'.fail) fun _ => Some'.bind (ih _ _ _ (by simp only [Job.rank] at *; omega)) (L .value _ _) fun y vs h2 => ih _ _ _ (by simp only [Job.rank, Job.least] at *; omega)
   | primary =>
     unfold parseF
     have := tail_le ts.tail
     refine Some'.ite (fun _ => Some'.ok) fun _ => Some'.ite (fun _ => Some'.ok) fun _ => Some'.ite (fun _ => Some'.ok) fun _ => Some'.ite (fun _ => Some'.ok) fun _ => ?_
     refine Some'.ite (fun _ => ih _ _ _ (by simp only [Job.rank] at *; omega)) fun _ => ?_
     refine Some'.ite (fun _ => Some'.ite (fun _ => ih _ _ _ (by simp only [Job.rank] at *; omega)) fun _ => ih _ _ _ (by simp only [Job.rank] at *; omega)) fun _ => ?_
     exact Some'.ite (fun h => ih _ _ _ (by have := isT_cons h; simp only [Job.rank] at *; omega)) fun _ => Some'.fail
   | object acc =>
     unfold parseF
     exact Some'.ite (fun h => Some'.ok) fun _ => Some'.comma fun us h => Some'.ite (fun _ => Some'.fail) fun _ => Some'.name fun s h1 => Some'.want fun h2 => Some'.bind (ih _ _ _ (by simp only [Job.rank] at *; omega)) (L .value _ _) fun y vs h2 => ih _ _ _ (by simp only [Job.rank, Job.least] at *; omega)
def parseAll (text : ByteArray) : Except (Int × Int) Tree :=
 if 3000 < text.size then .error (4, -1)
 else match lexAll text with
  | .error (e, p) => .error (e, p)
  | .ok ts => match parseF (40 * ts.length + 31) (.stmts 1 []) 0 ts with
    | none => .error (0, -2)
    | some (.error (e, p)) => .error (e, p)
    | some (.ok (t, _)) => if 1500 < t.many then .error (4, -1) else .ok t
end Go.Proofs.YtilchadbjflpgaaGreatDoor
namespace Go.Proofs
def Tryz.lays137_ren : Go.Shelf.Ren := ⟨fun | 137 => 50 | 217 => 68 | 266 => 92 | n => n, fun | 9 => 9 | 5 => 5 | 3 => 3 | n => n, fun | n => n⟩
theorem Tryz.lays137 : Go.Proofs.Lays.n137 Tryz.prog Tryz.lays137_ren := {
 mixed := by kernel_rfl
 f137 := Tryz.func50.trans (congrArg some (by kernel_rfl))
 f217 := Tryz.func68.trans (congrArg some (by kernel_rfl))
 f266 := Tryz.func92.trans (congrArg some (by kernel_rfl))
 t3 := Tryz.underlying3
 a3 := Tryz.isAgg3
 z3 := Tryz.sizeOf3
 v3 := Tryz.zeroValue3
 t5 := Tryz.underlying5
 a5 := Tryz.isAgg5
 z5 := Tryz.sizeOf5
 v5 := Tryz.zeroValue5
 t9 := Tryz.underlying9
 a9 := Tryz.isAgg9
 z9 := Tryz.sizeOf9
 v9 := Tryz.zeroValue9 }
open Go.RowKit in
theorem Tryz.strings_IndexByte (s : ByteArray) (c : Int) (w : World) :
 Calls Tryz.prog 50 #[.string s, .int .u8 c] w fun e w' => e = .returned (.int .i64 (Lib.indexByte s.data.toList c.toNat.toUInt8)) ∧ w' = w := Any.strings_IndexByte Tryz.lays137 s c w
end Go.Proofs
namespace Go.Proofs.YtilchadbjflpgaaGreatDoor
open Go Go.RowKit
set_option maxRecDepth 100000
theorem ScanAt.bfr {w0 w w' : World} {sb b B a : Nat} {text : ByteArray} {p v v' : Value} {bs : List Value} (h : ScanAt w0 w sb text a) (hb : BAt B w b p v bs) (hs : sb < B) (h0 : w0.heap.size ≤ B) (f : BFr w w' b v v') : ScanAt w0 w' sb text a := by
 have hr : ∀ k, k < B → v.ownBlock ≠ some k := fun k hk e => by have := (hb.own.lt k e).1; omega
 have hle := hb.le
 exact ⟨(f.block sb h.lt (by omega) (hr sb hs)).trans h.blk, f.os.trans h.os, f.tape.trans h.tape, f.output.trans h.output, Nat.le_trans h.size f.size,
  fun k hk hn => (f.block k (Nat.lt_of_lt_of_le hk h.size) (by omega) (hr k (by omega))).trans (h.block k hk hn)⟩
theorem BAt.set {B : Nat} {w : World} {b sb : Nat} {p v : Value} {bs : List Value} (h : BAt B w b p v bs) (hs : sb < B) (x : Value) : BAt B (w.setCell ⟨sb, 1, none⟩ x) b p v bs := by
 have hle := h.le
 exact ⟨(Below.heap_setCell _ _ _ _ (by simp; omega)).trans h.blk, h.ptr, ownsRow_block h.own fun g hg => Below.heap_setCell _ _ _ _ (by have := (h.own.lt g hg).1; simp; omega), h.ne, h.le⟩
theorem BAt.drew {B : Nat} {w : World} {b : Nat} {p v : Value} {bs : List Value} (h : BAt B w b p v bs) : BAt B w.drew b p v bs := ⟨h.blk, h.ptr, h.own, h.ne, h.le⟩
theorem BAt.new (w : World) : BAt w.heap.size (w.alloc (.cells #[.pointer none, .slice none 0 0] 73)) w.heap.size (.pointer none) (.slice none 0 0) [] :=
 ⟨heap_alloc_new w _, .inl rfl, World.ownsRow_nil _ _ _ _, by simp [Value.ownBlock], Nat.le_refl _⟩
end Go.Proofs.YtilchadbjflpgaaGreatDoor
