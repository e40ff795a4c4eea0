/- Package tree: what reading computes; it takes tokens, and ends. -/
import Derived.Test.YtmeiggjboakmpaaGreatDoorJ01
import Derived.Lib.ItoaNum
import Derived.Lib.Strings
import Derived.Handy
import Derived.Defers
namespace Go.Proofs.YtmeiggjboakmpaaGreatDoor
open Go Go.RowKit
set_option maxRecDepth 100000
set_option maxHeartbeats 20000000
set_option linter.unusedVariables false
inductive Tree
 | mk (kind:Int) (text:ByteArray) (n:Int) (kids:List Tree)
def Tree.kind:Tree→Int | .mk k _ _ _=>k
def Tree.text:Tree→ByteArray | .mk _ t _ _=>t
def Tree.n:Tree→Int | .mk _ _ n _=>n
def Tree.kids:Tree→List Tree | .mk _ _ _ l=>l
abbrev PR:=Option (Except (Int×Nat) (Tree×List Tok))
def hdT (ts:List Tok):Tok:=ts.headD ⟨6,ByteArray.empty,0,0⟩
def isT (s:ByteArray) (ts:List Tok):Bool:=(decide ((hdT ts).kind=5) || decide ((hdT ts).kind=2)) && Z15 (hdT ts).text s
def Z30 (e:Int) (ts:List Tok):PR:=some (.error (e,(hdT ts).at'))
def okT (t:Tree) (ts:List Tok):PR:=some (.ok (t,ts))
def Z1e (s:ByteArray) (ts:List Tok) (k:List Tok→PR):PR:=if isT s ts then k ts.tail else Z30 3 ts
def Z3f (ts:List Tok) (k:ByteArray→List Tok→PR):PR:=if (hdT ts).kind=1 then k (hdT ts).text ts.tail else Z30 3 ts
def Z0g (p:PR) (k:Tree→List Tok→PR):PR:=match p with | none=>none | some (.error e)=>some (.error e) | some (.ok (t,ts))=>k t ts
def Zi:ByteArray:=⟨#[123]⟩
def Z01:ByteArray:=⟨#[125]⟩
def Z0u:ByteArray:=⟨#[40]⟩
def Z0v:ByteArray:=⟨#[41]⟩
def Zs:ByteArray:=⟨#[59]⟩
def Z1b:ByteArray:=⟨#[44]⟩
def Z2s:ByteArray:=⟨#[58]⟩
def Z98:ByteArray:=⟨#[46]⟩
def s_eq:ByteArray:=⟨#[61]⟩
def Z18:ByteArray:=⟨#[118,97,114]⟩
def Z1c:ByteArray:=⟨#[108,101,116]⟩
def Z06:ByteArray:=⟨#[99,111,110,115,116]⟩
def Ze:ByteArray:=⟨#[102,117,110,99,116,105,111,110]⟩
def s_if:ByteArray:=⟨#[105,102]⟩
def Z1y:ByteArray:=⟨#[101,108,115,101]⟩
def Zz:ByteArray:=⟨#[119,104,105,108,101]⟩
def Z0d:ByteArray:=⟨#[119,105,116,104]⟩
def Z08:ByteArray:=⟨#[114,101,116,117,114,110]⟩
def Z0s:ByteArray:=⟨#[116,104,114,111,119]⟩
def Z1j:ByteArray:=⟨#[116,114,121]⟩
def Z0r:ByteArray:=⟨#[99,97,116,99,104]⟩
def Zt:ByteArray:=⟨#[102,105,110,97,108,108,121]⟩
def Z5g:ByteArray:=⟨#[33]⟩
def Z1l:ByteArray:=⟨#[116,121,112,101,111,102]⟩
def Z1t:ByteArray:=⟨#[100,101,108,101,116,101]⟩
def Z49:ByteArray:=⟨#[116,114,117,101]⟩
def Z38:ByteArray:=⟨#[102,97,108,115,101]⟩
def Z4s:ByteArray:=⟨#[110,117,108,108]⟩
def Z1q:ByteArray:=⟨#[117,110,100,101,102,105,110,101,100]⟩
def s_or:ByteArray:=⟨#[124,124]⟩
def Z5n:ByteArray:=⟨#[38,38]⟩
def Z3j:ByteArray:=⟨#[61,61,61]⟩
def Z4i:ByteArray:=⟨#[60]⟩
def Z51:ByteArray:=⟨#[43]⟩
def Z5p:ByteArray:=⟨#[45]⟩
def Z6n:ByteArray:=⟨#[42]⟩
def Z11:ByteArray:=⟨#[117,115,101,32,115,116,114,105,99,116]⟩
def Z1d:ByteArray:=⟨#[115,116,114,105,99,116]⟩
def Z1w (l:List Tree):Bool:=
 match l with
 | .mk k _ _ (x :: _) :: _=>decide (k=15) && decide (x.kind=18) && Z15 x.text Z11
 | _=>false
def Z2i (level:Nat) (ts:List Tok):Int:=
 match level with
 | 0=>if isT s_or ts then 25 else 0
 | 1=>if isT Z5n ts then 26 else 0
 | 2=>if isT Z3j ts then 27 else 0
 | 3=>if isT Z4i ts then 28 else 0
 | 4=>if isT Z51 ts then 29 else if isT Z5p ts then 30 else 0
 | 5=>if isT Z6n ts then 31 else 0
 | _=>0
def Z3g (ts:List Tok):Int:=if isT Z5g ts then 32 else if isT Z1l ts then 33 else if isT Z1t ts then 34 else 0
def Z3s (ts:List Tok):Int:=if isT Z49 ts then 19 else if isT Z38 ts then 20 else if isT Z4s ts then 21 else if isT Z1q ts then 22 else 0
inductive Job
 | stmts (kind:Int) (acc:List Tree)
 | block (body:Bool)
 | func (kind:Int) (text:ByteArray)
 | params (acc:List Tree)
 | around
 | stmt
 | decl (kind:Int) (must:Bool)
 | try_
 | value
 | assign
 | bin (level:Nat)
 | binLoop (level:Nat) (x:Tree)
 | unary
 | postfix_
 | postLoop (x:Tree)
 | args (acc:List Tree)
 | primary
 | object (acc:List Tree)
def endT (n:Tree) (ts:List Tok):PR:=Z1e Zs ts fun ts=>okT n ts
def Z1a (d:Nat) (ts:List Tok) (p:PR):PR:=if 30 < d + 1 then Z30 4 ts else p
def Z0:Nat→Job→Nat→List Tok→PR
 | 0,_,_,_=>none
 | f + 1, .stmts kind acc, d, ts =>
   if (if kind=1 then decide ((hdT ts).kind=6) else isT Z01 ts) then okT (.mk kind (if Z1w acc then Z1d else ByteArray.empty) 0 acc) ts
   else Z0g (Z1a d ts (Z0 f .stmt (d + 1) ts)) fun x ts=>Z0 f (.stmts kind (acc ++ [x])) d ts
 | f + 1, .block body, d, ts =>
   Z1e Zi ts fun ts=>Z0g (Z0 f (.stmts 6 []) d ts) fun x ts=>Z1e Z01 ts fun ts=>okT (if body then x else .mk 6 ByteArray.empty 0 x.kids) ts
 | f + 1, .func kind text, d, ts =>
   Z1e Z0u ts fun ts=>Z0g (Z0 f (.params []) d ts) fun p ts=>Z1e Z0v ts fun ts=>Z0g (Z0 f (.block true) d ts) fun b ts=>okT (.mk kind text 0 [p,b]) ts
 | f + 1, .params acc, d, ts =>
   if isT Z0v ts then okT (.mk 40 ByteArray.empty 0 acc) ts
   else (if 0 < acc.length then Z1e Z1b ts else fun k=>k ts) fun ts=>
    if acc.length=8 then Z30 4 ts else Z3f ts fun s ts=>Z0 f (.params (acc ++ [.mk 23 s 0 []])) d ts
 | f + 1, .around, d, ts =>
   Z1e Z0u ts fun ts=>Z0g (Z0 f .value d ts) fun x ts=>Z1e Z0v ts fun ts=>okT x ts
 | f + 1, .stmt, d, ts =>
   if isT Zi ts then Z0 f (.block false) d ts
   else if isT Zs ts then okT (.mk 16 ByteArray.empty 0 []) ts.tail
   else if isT Z18 ts then Z0g (Z0 f (.decl 2 false) d ts.tail) endT
   else if isT Z1c ts then Z0g (Z0 f (.decl 3 false) d ts.tail) endT
   else if isT Z06 ts then Z0g (Z0 f (.decl 4 true) d ts.tail) endT
   else if isT Ze ts then Z3f ts.tail fun s ts=>Z0 f (.func 5 s) d ts
   else if isT s_if ts then
    Z0g (Z0 f .around d ts.tail) fun x ts=>Z0g (Z1a d ts (Z0 f .stmt (d + 1) ts)) fun y ts=>
     if isT Z1y ts then Z0g (Z1a d ts.tail (Z0 f .stmt (d + 1) ts.tail)) fun z ts=>okT (.mk 7 ByteArray.empty 0 [x,y,z]) ts
     else okT (.mk 7 ByteArray.empty 0 [x,y]) ts
   else if isT Zz ts then
    Z0g (Z0 f .around d ts.tail) fun x ts=>Z0g (Z1a d ts (Z0 f .stmt (d + 1) ts)) fun y ts=>okT (.mk 8 ByteArray.empty 0 [x,y]) ts
   else if isT Z0d ts then
    Z0g (Z0 f .around d ts.tail) fun x ts=>Z0g (Z1a d ts (Z0 f .stmt (d + 1) ts)) fun y ts=>okT (.mk 9 ByteArray.empty 0 [x,y]) ts
   else if isT Z08 ts then
    if isT Zs ts.tail then endT (.mk 10 ByteArray.empty 0 []) ts.tail
    else Z0g (Z0 f .value d ts.tail) fun x ts=>endT (.mk 10 ByteArray.empty 0 [x]) ts
   else if isT Z0s ts then Z0g (Z0 f .value d ts.tail) fun x ts=>endT (.mk 11 ByteArray.empty 0 [x]) ts
   else if isT Z1j ts then Z0 f .try_ d ts.tail
   else Z0g (Z0 f .value d ts) fun x ts=>endT (.mk 15 ByteArray.empty 0 [x]) ts
 | f + 1, .decl kind must, d, ts =>
   Z3f ts fun s ts=>
    if must && !isT s_eq ts then Z30 3 ts
    else if isT s_eq ts then Z0g (Z0 f .value d ts.tail) fun x ts=>okT (.mk kind s 0 [x]) ts
    else okT (.mk kind s 0 []) ts
 | f + 1, .try_, d, ts =>
   Z0g (Z0 f (.block false) d ts) fun b ts=>
    (fun (k : List Tree → List Tok → PR) =>
     if isT Z0r ts then Z1e Z0u ts.tail fun ts=>Z3f ts fun s ts=>Z1e Z0v ts fun ts=>Z0g (Z0 f (.block false) d ts) fun c ts=>k [b,.mk 13 s 0 [c]] ts
     else k [b] ts) fun l ts=>
    if isT Zt ts then Z0g (Z0 f (.block false) d ts.tail) fun c ts=>okT (.mk 12 ByteArray.empty 0 (l ++ [.mk 14 ByteArray.empty 0 [c]])) ts
    else if l.length=1 then Z30 3 ts else okT (.mk 12 ByteArray.empty 0 l) ts
 | f + 1,.value,d,ts=>Z1a d ts (Z0 f .assign (d + 1) ts)
 | f + 1, .assign, d, ts =>
   Z0g (Z0 f (.bin 0) d ts) fun x ts'=>
    if isT s_eq ts' then
     if x.kind=23∨x.kind=36 then Z0g (Z0 f .value d ts'.tail) fun y ts=>okT (.mk 24 ByteArray.empty 0 [x,y]) ts
     else some (.error (1,(hdT ts).at'))
    else okT x ts'
 | f + 1, .bin level, d, ts =>
   if 6≤level then Z0 f .unary d ts
   else Z0g (Z0 f (.bin (level + 1)) d ts) fun x ts=>Z0 f (.binLoop level x) d ts
 | f + 1, .binLoop level x, d, ts =>
   if Z2i level ts=0 then okT x ts
   else Z0g (Z0 f (.bin (level + 1)) d ts.tail) fun y ts'=>Z0 f (.binLoop level (.mk (Z2i level ts) ByteArray.empty 0 [x,y])) d ts'
 | f + 1, .unary, d, ts =>
   if Z3g ts=0 then Z0 f .postfix_ d ts
   else Z0g (Z1a d ts.tail (Z0 f .unary (d + 1) ts.tail)) fun x ts'=>okT (.mk (Z3g ts) ByteArray.empty 0 [x]) ts'
 | f + 1,.postfix_,d,ts=>Z0g (Z0 f .primary d ts) fun x ts=>Z0 f (.postLoop x) d ts
 | f + 1, .postLoop x, d, ts =>
   if isT Z98 ts then Z3f ts.tail fun s ts=>Z0 f (.postLoop (.mk 36 s 0 [x])) d ts
   else if isT Z0u ts then Z0g (Z0 f (.args [x]) d ts.tail) fun n ts=>Z0 f (.postLoop n) d ts
   else okT x ts
 | f + 1, .args acc, d, ts =>
   if isT Z0v ts then okT (.mk 35 ByteArray.empty 0 acc) ts.tail
   else (if 1 < acc.length then Z1e Z1b ts else fun k=>k ts) fun ts=>
    if 8 < acc.length then Z30 4 ts else Z0g (Z0 f .value d ts) fun v ts=>Z0 f (.args (acc ++ [v])) d ts
 | f + 1, .primary, d, ts =>
   if (hdT ts).kind=1 then okT (.mk 23 (hdT ts).text 0 []) ts.tail
   else if (hdT ts).kind=3 then okT (.mk 17 ByteArray.empty (hdT ts).n []) ts.tail
   else if (hdT ts).kind=4 then okT (.mk 18 (hdT ts).text 0 []) ts.tail
   else if Z3s ts≠0 then okT (.mk (Z3s ts) ByteArray.empty 0 []) ts.tail
   else if isT Z0u ts then Z0 f .around d ts
   else if isT Ze ts then
    if (hdT ts.tail).kind=1 then Z0 f (.func 37 (hdT ts.tail).text) d ts.tail.tail
    else Z0 f (.func 37 ByteArray.empty) d ts.tail
   else if isT Zi ts then Z0 f (.object []) d ts.tail
   else Z30 3 ts
 | f + 1, .object acc, d, ts =>
   if isT Z01 ts then okT (.mk 38 ByteArray.empty 0 acc) ts.tail
   else (if 0 < acc.length then Z1e Z1b ts else fun k=>k ts) fun ts=>
    if acc.length=8 then Z30 4 ts
    else Z3f ts fun s ts=>Z1e Z2s ts fun ts=>Z0g (Z0 f .value d ts) fun v ts=>Z0 f (.object (acc ++ [.mk 39 s 0 [v]])) d ts
mutual
def Tree.many:Tree→Nat
 | .mk _ _ _ l=>Zv l + 1
def Zv:List Tree→Nat
 | []=>0
 | t :: l=>t.many + Zv l
end
theorem Z0j {s:ByteArray} {ts:List Tok} (h:isT s ts=true):ts.tail.length < ts.length:=by
 cases ts with
 | nil=>simp [isT,hdT] at h
 | cons t l=>simp
theorem Z19 (ts:List Tok):ts.tail.length≤ts.length:=by cases ts <;> simp
theorem Z3q {ts:List Tok} (h:(hdT ts).kind≠6):ts.tail.length < ts.length:=by
 cases ts with
 | nil=>simp [hdT] at h
 | cons t l=>simp
def Leaves (n:Nat) (p:PR):Prop:=∀ t ts,p=some (.ok (t,ts))→ts.length < n
theorem Leaves.fail {n:Nat} {e:Int} {ts:List Tok}:Leaves n (Z30 e ts):=by intro t ts' h; cases h
theorem Leaves.none {n:Nat}:Leaves n none:=by intro t ts' h; cases h
theorem Leaves.err {n:Nat} {e:Int×Nat}:Leaves n (some (.error e)):=by intro t ts' h; cases h
theorem Leaves.ok {n:Nat} {t:Tree} {ts:List Tok} (h:ts.length < n):Leaves n (okT t ts):=by
 intro t' ts' h';simp only [okT,Option.some.injEq,Except.ok.injEq,Prod.mk.injEq] at h';rw [← h'.2]; exact h
theorem Leaves.bind {n m:Nat} {p:PR} {k:Tree→List Tok→PR} (hp:Leaves m p) (hk:∀ t ts,ts.length < m→Leaves n (k t ts)):Leaves n (Z0g p k):=by
 cases p with
 | none=>exact Leaves.none
 | some r =>
   cases r with
   | error e=>exact Leaves.err
   | ok x=>obtain ⟨t,ts⟩:=x; exact hk t ts (hp t ts rfl)
theorem Leaves.want {n:Nat} {s:ByteArray} {ts:List Tok} {k:List Tok→PR} (hk:ts.tail.length < ts.length→Leaves n (k ts.tail)):Leaves n (Z1e s ts k):=by
 unfold Z1e;by_cases h:isT s ts=true;·rw [Yb h]; exact hk (Z0j h)
 ·rw [Y9 h]; exact Leaves.fail
theorem Leaves.name {n:Nat} {ts:List Tok} {k:ByteArray→List Tok→PR} (hk:∀ s,ts.tail.length < ts.length→Leaves n (k s ts.tail)):Leaves n (Z3f ts k):=by
 unfold Z3f;by_cases h:(hdT ts).kind=1;·rw [Yb h]; exact hk _ (Z3q (by omega))
 ·rw [Y9 h]; exact Leaves.fail
theorem Leaves.within {n d:Nat} {ts:List Tok} {p:PR} (h:Leaves n p):Leaves n (Z1a d ts p):=by
 unfold Z1a;by_cases h':30 < d + 1;·rw [Yb h']; exact Leaves.fail
 ·rw [Y9 h']; exact h
theorem Leaves.ite {n:Nat} {c:Prop} [Decidable c] {p q:PR} (hp:c→Leaves n p) (hq:¬ c→Leaves n q):Leaves n (if c then p else q):=by
 by_cases h:c;·rw [Yb h]; exact hp h
 ·rw [Y9 h]; exact hq h
theorem Leaves.comma {n:Nat} {c:Prop} [Decidable c] {ts:List Tok} {k:List Tok→PR} (hk:∀ ts',ts'.length≤ts.length→Leaves n (k ts')):Leaves n ((if c then Z1e Z1b ts else fun k=>k ts) k):=by
 by_cases h:c;·rw [Yb h]; exact Leaves.want fun h'=>hk _ (by omega)
 ·rw [Y9 h]; exact hk _ (Y5 _)
def Job.least:Job→Nat
 | .stmts ..=>1
 | .params ..=>1
 | .binLoop ..=>1
 | .postLoop ..=>1
 | _=>0
theorem Z24:∀ (f:Nat) (job:Job) (d:Nat) (ts:List Tok),Leaves (ts.length + job.least) (Z0 f job d ts):=by
 intro f;induction f with
 | zero=>intro job d ts; unfold Z0; exact Leaves.none
 | succ f ih =>
   intro job d ts;have ih0:∀ {n:Nat} {job:Job} (d:Nat) (ts:List Tok),ts.length + job.least≤n→Leaves n (Z0 f job d ts):=fun d ts h t ts' e=>Ye (ih _ d ts t ts' e) h;cases job with
   | stmts kind acc =>
     unfold Z0;refine Leaves.ite (fun _=>Leaves.ok (by simp [Job.least])) fun _=>?_;exact Leaves.bind (Leaves.within (ih .stmt _ _)) fun t ts' h=>ih0 _ _ (by simp only [Job.least] at *; omega)
   | block body =>
     unfold Z0;refine Leaves.want fun h=>?_;refine Leaves.bind (ih (.stmts 6 []) _ _) fun t ts' h'=>?_;refine Leaves.want fun h''=>Leaves.ok ?_;simp only [Job.least] at *; omega
   | func kind text =>
     unfold Z0;refine Leaves.want fun h=>Leaves.bind (ih (.params []) _ _) fun t ts' h'=>Leaves.want fun h2=>Leaves.bind (ih (.block true) _ _) fun t ts' h3=>Leaves.ok ?_;simp only [Job.least] at *; omega
   | params acc =>
     unfold Z0;refine Leaves.ite (fun _=>Leaves.ok (by simp [Job.least])) fun _=>?_;refine Leaves.comma fun ts' h=>Leaves.ite (fun _=>Leaves.fail) fun _=>Leaves.name fun s h2=>ih0 _ _ ?_;simp only [Job.least] at *; omega
   | around =>
     unfold Z0;refine Leaves.want fun h=>Leaves.bind (ih .value _ _) fun t ts' h'=>Leaves.want fun h2=>Leaves.ok ?_;simp only [Job.least] at *; omega
   | stmt =>
     unfold Z0;have hend:∀ (n:Tree) (us:List Tok),us.length≤ts.length→Leaves (ts.length + Job.stmt.least) (endT n us):=fun n us h=>Leaves.want fun h2=>Leaves.ok (by simp only [Job.least] at *; omega);have htl:=Z19 ts;refine Leaves.ite (fun h=>ih0 _ _ (by simp [Job.least])) fun _=>?_;refine Leaves.ite (fun h=>Leaves.ok (by have:=Z0j h; simp only [Job.least] at *; omega)) fun _=>?_;refine Leaves.ite (fun h=>Leaves.bind (ih (.decl 2 false) _ _) fun t us h2=>hend _ _ (by simp only [Job.least] at *; omega)) fun _=>?_
     refine Leaves.ite (fun h=>Leaves.bind (ih (.decl 3 false) _ _) fun t us h2=>hend _ _ (by simp only [Job.least] at *; omega)) fun _=>?_;refine Leaves.ite (fun h=>Leaves.bind (ih (.decl 4 true) _ _) fun t us h2=>hend _ _ (by simp only [Job.least] at *; omega)) fun _=>?_;refine Leaves.ite (fun h=>Leaves.name fun s h2=>ih0 _ _ (by simp only [Job.least] at *; omega)) fun _=>?_
     refine Leaves.ite (fun h=>Leaves.bind (ih .around _ _) fun t us h2=>Leaves.bind (Leaves.within (ih .stmt _ _)) fun t vs h3=>Leaves.ite (fun h4=>Leaves.bind (Leaves.within (ih .stmt _ _)) fun t xs h5=>Leaves.ok (by have:=Z19 vs; simp only [Job.least] at *; omega)) (fun _=>Leaves.ok (by simp only [Job.least] at *; omega))) fun _=>?_;refine Leaves.ite (fun h=>Leaves.bind (ih .around _ _) fun t us h2=>Leaves.bind (Leaves.within (ih .stmt _ _)) fun t vs h3=>Leaves.ok (by simp only [Job.least] at *; omega)) fun _=>?_
     refine Leaves.ite (fun h=>Leaves.bind (ih .around _ _) fun t us h2=>Leaves.bind (Leaves.within (ih .stmt _ _)) fun t vs h3=>Leaves.ok (by simp only [Job.least] at *; omega)) fun _=>?_;refine Leaves.ite (fun h=>Leaves.ite (fun h1=>hend _ _ htl) (fun _=>Leaves.bind (ih .value _ _) fun t us h2=>hend _ _ (by simp only [Job.least] at *; omega))) fun _=>?_;refine Leaves.ite (fun h=>Leaves.bind (ih .value _ _) fun t us h2=>hend _ _ (by simp only [Job.least] at *; omega)) fun _=>?_;refine Leaves.ite (fun h=>ih0 _ _ (by simp only [Job.least] at *; omega)) fun _=>?_
     exact Leaves.bind (ih .value _ _) fun t us h2=>hend _ _ (by simp only [Job.least] at *; omega)
   | decl kind must =>
     unfold Z0;refine Leaves.name fun s h=>Leaves.ite (fun _=>Leaves.fail) fun _=>Leaves.ite (fun h2=>Leaves.bind (ih .value _ _) fun t us h3=>Leaves.ok ?_) fun _=>Leaves.ok ?_;·have:=Z19 ts.tail; simp only [Job.least] at *; omega
     ·simp only [Job.least] at *; omega
   | try_ =>
     unfold Z0;refine Leaves.bind (ih (.block false) _ _) fun b us h=>?_;have hk:∀ (l:List Tree) (vs:List Tok),vs.length≤us.length→Leaves (ts.length + Job.try_.least) (if isT Zt vs then Z0g (Z0 f (.block false) d vs.tail) fun c ts=>okT (.mk 12 ByteArray.empty 0 (l ++ [.mk 14 ByteArray.empty 0 [c]])) ts else if l.length=1 then Z30 3 vs else okT (.mk 12 ByteArray.empty 0 l) vs):=by
      intro l vs h2;have:=Z19 vs;refine Leaves.ite (fun _=>Leaves.bind (ih (.block false) _ _) fun t xs h3=>Leaves.ok ?_) fun _=>Leaves.ite (fun _=>Leaves.fail) fun _=>Leaves.ok ?_;·simp only [Job.least] at *; omega
      ·simp only [Job.least] at *; omega
     refine Leaves.ite (fun h1=>?_) fun _=>hk _ _ (Y5 _);refine Leaves.want fun h2=>Leaves.name fun s h3=>Leaves.want fun h4=>Leaves.bind (ih (.block false) _ _) fun c vs h5=>hk _ _ ?_;have:=Z19 us; simp only [Job.least] at *; omega
   | value=>unfold Z0; exact Leaves.within (ih0 _ _ (by simp [Job.least]))
   | assign =>
     unfold Z0;refine Leaves.bind (ih (.bin 0) _ _) fun x us h=>Leaves.ite (fun h1=>Leaves.ite (fun _=>Leaves.bind (ih .value _ _) fun y vs h2=>Leaves.ok ?_) fun _=>Leaves.err) fun _=>Leaves.ok ?_;·have:=Z19 us; simp only [Job.least] at *; omega
     ·simp only [Job.least] at *; omega
   | bin level =>
     unfold Z0;refine Leaves.ite (fun _=>ih0 _ _ (by simp [Job.least])) fun _=>Leaves.bind (ih (.bin (level + 1)) _ _) fun x us h=>ih0 _ _ ?_;simp only [Job.least] at *; omega
   | binLoop level x =>
     unfold Z0;refine Leaves.ite (fun _=>Leaves.ok (by simp [Job.least])) fun _=>Leaves.bind (ih (.bin (level + 1)) _ _) fun y us h=>ih0 _ _ ?_;have:=Z19 ts; simp only [Job.least] at *; omega
   | unary =>
     unfold Z0;refine Leaves.ite (fun _=>ih0 _ _ (by simp [Job.least])) fun _=>Leaves.bind (Leaves.within (ih .unary _ _)) fun y us h=>Leaves.ok ?_;have:=Z19 ts; simp only [Job.least] at *; omega
   | postfix_ =>
     unfold Z0;refine Leaves.bind (ih .primary _ _) fun y us h=>ih0 _ _ ?_;simp only [Job.least] at *; omega
   | postLoop x =>
     unfold Z0;have:=Z19 ts;refine Leaves.ite (fun _=>Leaves.name fun s h=>ih0 _ _ (by simp only [Job.least] at *; omega)) fun _=>Leaves.ite (fun _=>Leaves.bind (ih (.args [x]) _ _) fun y us h=>ih0 _ _ (by simp only [Job.least] at *; omega)) fun _=>Leaves.ok (by simp [Job.least])
   | args acc =>
     unfold Z0;refine Leaves.ite (fun h=>Leaves.ok (by have:=Z0j h; simp only [Job.least] at *; omega)) fun _=>Leaves.comma fun us h=>Leaves.ite (fun _=>Leaves.fail) fun _=>Leaves.bind (ih .value _ _) fun y vs h2=>ih0 _ _ (by simp only [Job.least] at *; omega)
   | primary =>
     unfold Z0;have:=Z19 ts;have:=Z19 ts.tail;refine Leaves.ite (fun h=>Leaves.ok (by have:=Z3q (ts:=ts) (by omega); simp only [Job.least] at *; omega)) fun _=>?_;refine Leaves.ite (fun h=>Leaves.ok (by have:=Z3q (ts:=ts) (by omega); simp only [Job.least] at *; omega)) fun _=>?_;refine Leaves.ite (fun h=>Leaves.ok (by have:=Z3q (ts:=ts) (by omega); simp only [Job.least] at *; omega)) fun _=>?_;refine Leaves.ite (fun h=>Leaves.ok ?_) fun _=>?_
     ·have:ts.tail.length < ts.length:=by
       unfold Z3s at h;by_cases h1:isT Z49 ts=true;·exact Z0j h1
       ·by_cases h2 : isT Z38 ts = true;·exact Z0j h2
        ·by_cases h3 : isT Z4s ts = true;·exact Z0j h3
         ·by_cases h4 : isT Z1q ts = true;·exact Z0j h4
          ·simp [h1,h2,h3,h4] at h
      simp only [Job.least] at *; omega
     refine Leaves.ite (fun _=>ih0 _ _ (by simp [Job.least])) fun _=>?_;refine Leaves.ite (fun _=>Leaves.ite (fun _=>ih0 _ _ (by simp only [Job.least] at *; omega)) fun _=>ih0 _ _ (by simp only [Job.least] at *; omega)) fun _=>?_;exact Leaves.ite (fun _=>ih0 _ _ (by simp only [Job.least] at *; omega)) fun _=>Leaves.fail
   | object acc =>
     unfold Z0;refine Leaves.ite (fun h=>Leaves.ok (by have:=Z0j h; simp only [Job.least] at *; omega)) fun _=>Leaves.comma fun us h=>Leaves.ite (fun _=>Leaves.fail) fun _=>Leaves.name fun s h1=>Leaves.want fun h2=>Leaves.bind (ih .value _ _) fun y vs h2=>ih0 _ _ (by simp only [Job.least] at *; omega)
def Job.rank:Job→Nat
 | .stmts ..=>30
 | .block _=>5
 | .func ..=>1
 | .params _=>1
 | .around=>1
 | .stmt=>20
 | .decl ..=>1
 | .try_=>6
 | .value=>19
 | .assign=>18
 | .bin level=>10 + (6 - level)
 | .binLoop ..=>31
 | .unary=>9
 | .postfix_=>8
 | .postLoop _=>31
 | .args _=>31
 | .primary=>7
 | .object _=>31
def Zu (p:PR):Prop:=p≠none
theorem Zu.fail {e:Int} {ts:List Tok}:Zu (Z30 e ts):=by simp [Zu,Z30]
theorem Zu.ok {t:Tree} {ts:List Tok}:Zu (okT t ts):=by simp [Zu,okT]
theorem Zu.bind {p:PR} {k:Tree→List Tok→PR} {n:Nat} (hp:Zu p) (hl:Leaves n p) (hk:∀ t ts,ts.length < n→Zu (k t ts)):Zu (Z0g p k):=by
 cases p with
 | none=>exact absurd rfl hp
 | some r =>
   cases r with
   | error e=>simp [Zu,Z0g]
   | ok x=>obtain ⟨t,ts⟩:=x; exact hk t ts (hl t ts rfl)
theorem Zu.want {s:ByteArray} {ts:List Tok} {k:List Tok→PR} (hk:ts.tail.length < ts.length→Zu (k ts.tail)):Zu (Z1e s ts k):=by
 unfold Z1e;by_cases h:isT s ts=true;·rw [Yb h]; exact hk (Z0j h)
 ·rw [Y9 h]; exact Zu.fail
theorem Zu.name {ts:List Tok} {k:ByteArray→List Tok→PR} (hk:∀ s,ts.tail.length < ts.length→Zu (k s ts.tail)):Zu (Z3f ts k):=by
 unfold Z3f;by_cases h:(hdT ts).kind=1;·rw [Yb h]; exact hk _ (Z3q (by omega))
 ·rw [Y9 h]; exact Zu.fail
theorem Zu.within {d:Nat} {ts:List Tok} {p:PR} (h:Zu p):Zu (Z1a d ts p):=by
 unfold Z1a;by_cases h':30 < d + 1;·rw [Yb h']; exact Zu.fail
 ·rw [Y9 h']; exact h
theorem Zu.ite {c:Prop} [Decidable c] {p q:PR} (hp:c→Zu p) (hq:¬ c→Zu q):Zu (if c then p else q):=by
 by_cases h:c;·rw [Yb h]; exact hp h
 ·rw [Y9 h]; exact hq h
theorem Zu.comma {c:Prop} [Decidable c] {ts:List Tok} {k:List Tok→PR} (hk:∀ ts',ts'.length≤ts.length→Zu (k ts')):Zu ((if c then Z1e Z1b ts else fun k=>k ts) k):=by
 by_cases h:c;·rw [Yb h]; exact Zu.want fun h'=>hk _ (by omega)
 ·rw [Y9 h]; exact hk _ (Y5 _)
theorem Z91 {ts:List Tok} (h:¬ Z3g ts=0):ts.tail.length < ts.length:=by
 unfold Z3g at h;by_cases h1:isT Z5g ts=true;·exact Z0j h1
 ·by_cases h2 : isT Z1l ts = true;·exact Z0j h2
  ·by_cases h3 : isT Z1t ts = true;·exact Z0j h3
   ·simp [h1,h2,h3] at h
theorem Z6r {level:Nat} {ts:List Tok} (h:¬ Z2i level ts=0):ts.tail.length < ts.length:=by
 have key:∀ {s:ByteArray} {x y:Int},¬ (if isT s ts then x else y)=0→¬ y=0∨ts.tail.length < ts.length:=by
  intro s x y h;by_cases h1:isT s ts=true;·exact .inr (Z0j h1)
  ·rw [Y9 h1] at h; exact .inl h
 unfold Z2i at h;split at h
 all_goals first
  | exact absurd rfl h
  | (rcases key h with h | h; (exact absurd rfl h); exact h)
  | (rcases key h with h | h; (rcases key h with h | h; (exact absurd rfl h); exact h); exact h)
theorem Z9u:∀ (f:Nat) (job:Job) (d:Nat) (ts:List Tok),40 * ts.length + job.rank < f→Zu (Z0 f job d ts):=by
 intro f;induction f with
 | zero=>intro job d ts h; omega
 | succ f ih =>
   intro job d ts hf;have L:=Z24 f;have htl:=Z19 ts;cases job with
   | stmts kind acc =>
     unfold Z0;refine Zu.ite (fun _=>Zu.ok) fun _=>Zu.bind (n:=ts.length) (Zu.within (ih _ _ _ (by simp only [Job.rank] at *; omega))) (Leaves.within (L .stmt _ _)) fun t us h=>ih _ _ _ (by simp only [Job.rank] at *; omega)
   | block body =>
     unfold Z0;refine Zu.want fun h=>Zu.bind (ih _ _ _ (by simp only [Job.rank] at *; omega)) (L _ _ _) fun t us h=>Zu.want fun h2=>Zu.ok
   | func kind text =>
     unfold Z0;refine Zu.want fun h=>Zu.bind (ih _ _ _ (by simp only [Job.rank] at *; omega)) (L (.params []) _ _) fun t us h=>Zu.want fun h2=>Zu.bind (ih _ _ _ (by simp only [Job.rank,Job.least] at *; omega)) (L _ _ _) fun t us h=>Zu.ok
   | params acc =>
     unfold Z0;refine Zu.ite (fun _=>Zu.ok) fun _=>Zu.comma fun us h=>Zu.ite (fun _=>Zu.fail) fun _=>Zu.name fun s h2=>ih _ _ _ (by simp only [Job.rank] at *; omega)
   | around =>
     unfold Z0;refine Zu.want fun h=>Zu.bind (ih _ _ _ (by simp only [Job.rank] at *; omega)) (L _ _ _) fun t us h=>Zu.want fun h2=>Zu.ok
   | stmt =>
     unfold Z0;have hend:∀ (n:Tree) (us:List Tok),Zu (endT n us):=fun n us=>Zu.want fun h2=>Zu.ok;refine Zu.ite (fun h=>ih _ _ _ (by simp only [Job.rank] at *; omega)) fun _=>?_;refine Zu.ite (fun h=>Zu.ok) fun _=>?_;refine Zu.ite (fun h=>Zu.bind (ih _ _ _ (by simp only [Job.rank] at *; omega)) (L _ _ _) fun t us h2=>hend _ _) fun _=>?_;refine Zu.ite (fun h=>Zu.bind (ih _ _ _ (by simp only [Job.rank] at *; omega)) (L _ _ _) fun t us h2=>hend _ _) fun _=>?_
     refine Zu.ite (fun h=>Zu.bind (ih _ _ _ (by simp only [Job.rank] at *; omega)) (L _ _ _) fun t us h2=>hend _ _) fun _=>?_;refine Zu.ite (fun h=>Zu.name fun s h2=>ih _ _ _ (by simp only [Job.rank] at *; omega)) fun _=>?_;refine Zu.ite (fun h=>?_) fun _=>?_
     ·have:=Z0j h;refine Zu.bind (ih _ _ _ (by simp only [Job.rank] at *; omega)) (L .around _ _) fun t us h2=>?_;refine Zu.bind (Zu.within (ih _ _ _ (by simp only [Job.rank,Job.least] at *; omega))) (Leaves.within (L .stmt _ _)) fun t vs h3=>?_;have:=Z19 vs;exact Zu.ite (fun h4=>Zu.bind (Zu.within (ih _ _ _ (by simp only [Job.rank,Job.least] at *; omega))) (Leaves.within (L .stmt _ _)) fun t xs h5=>Zu.ok) fun _=>Zu.ok
     refine Zu.ite (fun h=>?_) fun _=>?_
     ·have:=Z0j h;refine Zu.bind (ih _ _ _ (by simp only [Job.rank] at *; omega)) (L .around _ _) fun t us h2=>?_;exact Zu.bind (Zu.within (ih _ _ _ (by simp only [Job.rank,Job.least] at *; omega))) (Leaves.within (L .stmt _ _)) fun t vs h3=>Zu.ok
     refine Zu.ite (fun h=>?_) fun _=>?_
     ·have:=Z0j h;refine Zu.bind (ih _ _ _ (by simp only [Job.rank] at *; omega)) (L .around _ _) fun t us h2=>?_;exact Zu.bind (Zu.within (ih _ _ _ (by simp only [Job.rank,Job.least] at *; omega))) (Leaves.within (L .stmt _ _)) fun t vs h3=>Zu.ok
     refine Zu.ite (fun h=>Zu.ite (fun h1=>hend _ _) fun _=>Zu.bind (ih _ _ _ (by simp only [Job.rank] at *; omega)) (L _ _ _) fun t us h2=>hend _ _) fun _=>?_;refine Zu.ite (fun h=>Zu.bind (ih _ _ _ (by simp only [Job.rank] at *; omega)) (L _ _ _) fun t us h2=>hend _ _) fun _=>?_;refine Zu.ite (fun h=>ih _ _ _ (by simp only [Job.rank] at *; omega)) fun _=>?_;exact Zu.bind (ih _ _ _ (by simp only [Job.rank] at *; omega)) (L _ _ _) fun t us h2=>hend _ _
   | decl kind must =>
     unfold Z0;refine Zu.name fun s h=>Zu.ite (fun _=>Zu.fail) fun _=>Zu.ite (fun h2=>Zu.bind (ih _ _ _ ?_) (L _ _ _) fun t us h3=>Zu.ok) fun _=>Zu.ok;have:=Z19 ts.tail; simp only [Job.rank] at *; omega
   | try_ =>
     unfold Z0;refine Zu.bind (ih _ _ _ (by simp only [Job.rank] at *; omega)) (L (.block false) _ _) fun b us h=>?_;have hk:∀ (l:List Tree) (vs:List Tok),vs.length≤us.length→Zu (if isT Zt vs then Z0g (Z0 f (.block false) d vs.tail) fun c ts=>okT (.mk 12 ByteArray.empty 0 (l ++ [.mk 14 ByteArray.empty 0 [c]])) ts else if l.length=1 then Z30 3 vs else okT (.mk 12 ByteArray.empty 0 l) vs):=by
      intro l vs h2;have:=Z19 vs;exact Zu.ite (fun _=>Zu.bind (ih _ _ _ (by simp only [Job.rank,Job.least] at *; omega)) (L _ _ _) fun t xs h3=>Zu.ok) fun _=>Zu.ite (fun _=>Zu.fail) fun _=>Zu.ok
     refine Zu.ite (fun h1=>?_) fun _=>hk _ _ (Y5 _);have:=Z19 us;refine Zu.want fun h2=>Zu.name fun s h3=>Zu.want fun h4=>Zu.bind (ih _ _ _ (by simp only [Job.rank,Job.least] at *; omega)) (L (.block false) _ _) fun c vs h5=>hk _ _ ?_;simp only [Job.least] at *; omega
   | value=>unfold Z0; exact Zu.within (ih _ _ _ (by simp only [Job.rank] at *; omega))
   | assign =>
     unfold Z0;refine Zu.bind (ih _ _ _ (by simp only [Job.rank] at *; omega)) (L (.bin 0) _ _) fun x us h=>Zu.ite (fun h1=>Zu.ite (fun _=>Zu.bind (ih _ _ _ ?_) (L _ _ _) fun y vs h2=>Zu.ok) fun _=>by simp [Zu]) fun _=>Zu.ok;have:=Z19 us; simp only [Job.rank,Job.least] at *; omega
   | bin level =>
     unfold Z0;refine Zu.ite (fun h=>ih _ _ _ (by simp only [Job.rank] at *; omega)) fun h=>Zu.bind (ih _ _ _ (by simp only [Job.rank] at *; omega)) (L (.bin (level + 1)) _ _) fun x us h=>ih _ _ _ (by simp only [Job.rank,Job.least] at *; omega)
   | binLoop level x =>
     unfold Z0;refine Zu.ite (fun _=>Zu.ok) fun h0=>Zu.bind (ih _ _ _ ?_) (L (.bin (level + 1)) _ _) fun y us h=>ih _ _ _ ?_;·have:=Z6r h0; simp only [Job.rank] at *; omega
     ·have:=Z6r h0; simp only [Job.rank,Job.least] at *; omega
   | unary =>
     unfold Z0;refine Zu.ite (fun _=>ih _ _ _ (by simp only [Job.rank] at *; omega)) fun h0=>Zu.bind (Zu.within (ih _ _ _ ?_)) (Leaves.within (L _ _ _)) fun y us h=>Zu.ok;have:=Z91 h0; simp only [Job.rank] at *; omega
   | postfix_ =>
     unfold Z0;exact Zu.bind (ih _ _ _ (by simp only [Job.rank] at *; omega)) (L .primary _ _) fun y us h=>ih _ _ _ (by simp only [Job.rank,Job.least] at *; omega)
   | postLoop x =>
     unfold Z0;refine Zu.ite (fun h=>Zu.name fun s h2=>ih _ _ _ (by simp only [Job.rank] at *; omega)) fun _=>Zu.ite (fun h=>?_) fun _=>Zu.ok;have:=Z0j h;exact Zu.bind (ih _ _ _ (by simp only [Job.rank] at *; omega)) (L (.args [x]) _ _) fun y us h=>ih _ _ _ (by simp only [Job.rank,Job.least] at *; omega)
   | args acc =>
     unfold Z0;exact Zu.ite (fun h=>Zu.ok) fun _=>Zu.comma fun us h=>Zu.ite (fun _=>Zu.fail) fun _=>Zu.bind (ih _ _ _ (by simp only [Job.rank] at *; omega)) (L .value _ _) fun y vs h2=>ih _ _ _ (by simp only [Job.rank,Job.least] at *; omega)
   | primary =>
     unfold Z0;have:=Z19 ts.tail;refine Zu.ite (fun _=>Zu.ok) fun _=>Zu.ite (fun _=>Zu.ok) fun _=>Zu.ite (fun _=>Zu.ok) fun _=>Zu.ite (fun _=>Zu.ok) fun _=>?_;refine Zu.ite (fun _=>ih _ _ _ (by simp only [Job.rank] at *; omega)) fun _=>?_;refine Zu.ite (fun _=>Zu.ite (fun _=>ih _ _ _ (by simp only [Job.rank] at *; omega)) fun _=>ih _ _ _ (by simp only [Job.rank] at *; omega)) fun _=>?_;exact Zu.ite (fun h=>ih _ _ _ (by have:=Z0j h; simp only [Job.rank] at *; omega)) fun _=>Zu.fail
   | object acc =>
     unfold Z0;exact Zu.ite (fun h=>Zu.ok) fun _=>Zu.comma fun us h=>Zu.ite (fun _=>Zu.fail) fun _=>Zu.name fun s h1=>Zu.want fun h2=>Zu.bind (ih _ _ _ (by simp only [Job.rank] at *; omega)) (L .value _ _) fun y vs h2=>ih _ _ _ (by simp only [Job.rank,Job.least] at *; omega)
def Z1o (text:ByteArray):Except (Int×Int) Tree:=
 if 3000 < text.size then .error (4,-1)
 else match Z6h text with
  | .error (e,p)=>.error (e,p)
  | .ok ts => match Z0 (40 * ts.length + 31) (.stmts 1 []) 0 ts with
    | none=>.error (0,-2)
    | some (.error (e,p))=>.error (e,p)
    | some (.ok (t,_))=>if 1500 < t.many then .error (4,-1) else .ok t
inductive Pc
 | sp (c:UInt8)
 | t (kind:Int) (text:ByteArray) (n:Int)
def escB (u:UInt8):List UInt8:=if u=92 then [92,92] else if u=39 then [92,39] else if u=10 then [92,110] else [u]
def Z57 (s:ByteArray):List UInt8:=39 :: (s.data.toList.flatMap escB ++ [39])
def Pc.bytes:Pc→List UInt8
 | .sp c=>[c]
 | .t k s n=>if k=3 then Lib.itoa n else if k=4 then Z57 s else s.data.toList
def Zd (l:List Pc):List UInt8:=l.flatMap Pc.bytes
def toB (l:List Pc):ByteArray:=⟨(Zd l).toArray⟩
abbrev sg (c:UInt8):Pc:=.t 5 ⟨#[c]⟩ 0
abbrev wd (s:ByteArray):Pc:=.t 2 s 0
abbrev nm (s:ByteArray):Pc:=.t 1 s 0
abbrev sp:Pc:=.sp 32
def Zo (k:Int):Int:=
 if k=24 then 0 else if k=25 then 1 else if k=26 then 2 else if k=27 then 3 else if k=28 then 4 else if k=29∨k=30 then 5 else if k=31 then 6
 else if k=32∨k=33∨k=34 then 7 else if k=35∨k=36 then 8 else 9
def sgnP (k:Int):List Pc:=
 if k=25 then [sp,.t 5 s_or 0,sp] else if k=26 then [sp,.t 5 Z5n 0,sp] else if k=27 then [sp,.t 5 Z3j 0,sp] else if k=28 then [sp,sg 60,sp]
 else if k=29 then [sp,sg 43,sp] else if k=30 then [sp,sg 45,sp] else if k=31 then [sp,sg 42,sp]
 else if k=32 then [sg 33] else if k=33 then [wd Z1l,sp] else [wd Z1t,sp]
def Z2y (k:Int):List Pc:=
 if k=2 then [wd Z18,sp] else if k=3 then [wd Z1c,sp] else if k=4 then [wd Z06,sp] else if k=7 then [wd s_if,sp] else if k=8 then [wd Zz,sp]
 else if k=9 then [wd Z0d,sp] else if k=10 then [wd Z08] else [wd Z0s]
def Z9z (k:Int):ByteArray:=if k=19 then Z49 else if k=20 then Z38 else if k=21 then Z4s else Z1q
def Z6y (s:List UInt8):Bool:=Lib.hasPrefix s [123] || Lib.hasPrefix s [102,117,110,99,116,105,111,110,40] || Lib.hasPrefix s [102,117,110,99,116,105,111,110,32]
def Z9o (p:Bool) (l:List Pc):List Pc:=if p then sg 40 :: (l ++ [sg 41]) else l
def Zfm (l:List Pc):List Pc:=Z9o (Z6y (Zd l)) l
def fnP (t:ByteArray) (l b:List Pc):List Pc:=wd Ze :: ((if t.size=0 then [] else [sp,nm t]) ++ sg 40 :: (l ++ sg 41 :: sp :: b))
def sepP (first:Bool) (l:List Pc):List Pc:=if first then [] else l
mutual
def vP:Tree→Int→List Pc
 | .mk k t n ks,need=>Z9o (decide (Zo k < need)) (vbP k t n ks)
def vbP (k:Int) (t:ByteArray) (n:Int) (ks:List Tree):List Pc:=
 if k=17 then [.t 3 ByteArray.empty n] else if k=18 then [.t 4 t 0]
 else if k=19∨k=20∨k=21∨k=22 then [wd (Z9z k)] else if k=23 then [nm t]
 else if k=24 then match ks with
  | x :: y :: _=>vP x 8 ++ sp :: sg 61 :: sp :: vP y 0
  | _=>[]
 else if k=32∨k=33∨k=34 then match ks with
  | x :: _=>sgnP k ++ vP x 7
  | _=>[]
 else if k=36 then match ks with
  | x :: _=>vP x 8 ++ [sg 46,nm t]
  | _=>[]
 else if k=35 then match ks with
  | x :: r=>vP x 8 ++ sg 40 :: (lP true r ++ [sg 41])
  | _=>[]
 else if k=37 then match ks with
  | .mk _ _ _ ps :: b :: _=>fnP t (lP true ps) (sP b)
  | _=>[]
 else if k=38 then sg 123 :: (lP true ks ++ [sg 125])
 else if k=39 then match ks with
  | x :: _=>nm t :: sg 58 :: sp :: vP x 0
  | _=>[]
 else match ks with
  | x :: y :: _=>vP x (Zo k) ++ (sgnP k ++ vP y (Zo k + 1))
  | _=>[]
def lP (first:Bool):List Tree→List Pc
 | []=>[]
 | x :: r=>sepP first [sg 44,sp] ++ (vP x 0 ++ lP false r)
def sP:Tree→List Pc
 | .mk k t n ks =>
   if k=2∨k=3∨k=4 then Z2y k ++ nm t :: (match ks with
    | x :: _=>sp :: sg 61 :: sp :: (vP x 0 ++ [sg 59])
    | _=>[sg 59])
   else if k=5 then match ks with
    | .mk _ _ _ ps :: b :: _=>fnP t (lP true ps) (sP b)
    | _=>[]
   else if k=6 then sg 123 :: (bP true ks ++ [sg 125])
   else if k=7∨k=8∨k=9 then match ks with
    | x :: y :: r => Z2y k ++ sg 40 :: (vP x 0 ++ sg 41 :: sp :: (sP y ++ (match r with
      | z :: _=>sp :: wd Z1y :: sp :: sP z
      | _=>[])))
    | _=>[]
   else if k=10∨k=11 then Z2y k ++ (match ks with
    | x :: _=>sp :: (vP x 0 ++ [sg 59])
    | _=>[sg 59])
   else if k=12 then match ks with
    | x :: r=>wd Z1j :: sp :: (sP x ++ cP r)
    | _=>[]
   else if k=16 then [sg 59]
   else match ks with
    | x :: _=>Zfm (vP x 0) ++ [sg 59]
    | _=>[]
def bP (first:Bool):List Tree→List Pc
 | []=>[]
 | x :: r=>sepP first [sp] ++ (sP x ++ bP false r)
def cP:List Tree→List Pc
 | []=>[]
 | .mk k t _ ks :: r => (match ks with
   | x :: _=>(if k=13 then [sp,wd Z0r,sp,sg 40,nm t,sg 41,sp] else [sp,wd Zt,sp]) ++ sP x
   | _=>[]) ++ cP r
end
def pP:List Tree→List Pc
 | []=>[]
 | x :: r=>sP x ++ .sp 10 :: pP r
def Zgg (l:List Tree):ByteArray:=toB (pP l)
theorem Z7 (l m:List Pc):Zd (l ++ m)=Zd l ++ Zd m:=by simp [Zd]
theorem Z4 (p:Pc) (l:List Pc):Zd (p :: l)=p.bytes ++ Zd l:=by simp [Zd]
theorem Zj:Zd []=[]:=rfl
theorem Zid (v:World) (cs:Array Value) (t:TypeId) (b i:Nat) (hb:b=v.heap.size):(v.alloc (.cells cs t)).cell? ⟨b,i,none⟩=cs[i]?:=by
 subst hb;exact World.cell?_alloc_new _ _ _ _
theorem Zax {k:Int} (h:∀ c:Int,24≤c→c≤36→k≠c):Zo k=9:=by
 have h1:¬ (24≤k∧k≤36):=fun ⟨a,b⟩=>h k a b rfl;unfold Zo;repeat' split
 all_goals omega
theorem Z23 {k:Int} {j:Nat} (hN:∀ c:Int,24≤c→c≤36→Zo c < (j:Int)→k≠c) (h:∀ c:Int,24≤c→c≤36→Zo c=(j:Int)→k≠c) :
 ∀ c:Int,24≤c→c≤36→Zo c < ((j + 1:Nat):Int)→k≠c:=by
 intro c h1 h2 h3;by_cases h4:Zo c=(j:Int)
 ·exact h c h1 h2 h4
 ·exact hN c h1 h2 (by omega)
theorem Zaf (w:World) (k:Int):Calls Tryz.prog 90 #[.int .i64 k] w fun e w'=>e=.returned (.int .i64 (Zo k))∧Below w.heap.size w w':=by
 have hBel:∀ l:List Obj,Below w.heap.size w (l.foldl (fun v o=>v.alloc o) w):=fun l=>by
  have:∀ (l:List Obj) (v:World),Below w.heap.size w v→Below w.heap.size w (l.foldl (fun v o=>v.alloc o) v):=by
   intro l;induction l with
   | nil=>intro v h; exact h
   | cons o l ih=>intro v h; exact ih _ (h.alloc h.size _)
  exact this l w (Y8 _ _)
 obtain ⟨W,hW⟩:=zX (((((((((((w.alloc (.cells #[.int .i64 24] 3)).alloc (.cells #[.int .i64 25] 3)).alloc (.cells #[.int .i64 26] 3)).alloc (.cells #[.int .i64 27] 3)).alloc (.cells #[.int .i64 28] 3)).alloc (.cells #[.int .i64 29,.int .i64 30] 3)).alloc (.cells #[.int .i64 31] 3)).alloc (.cells #[.int .i64 32,.int .i64 33,.int .i64 34] 3)).alloc (.cells #[.int .i64 35,.int .i64 36] 3)).alloc (.cells #[.slice (some ⟨w.heap.size,0,none⟩) 1 1,.slice (some ⟨w.heap.size + 1,0,none⟩) 1 1,.slice (some ⟨w.heap.size + 1 + 1,0,none⟩) 1 1,.slice (some ⟨w.heap.size + 1 + 1 + 1,0,none⟩) 1 1,.slice (some ⟨w.heap.size + 1 + 1 + 1 + 1,0,none⟩) 1 1,.slice (some ⟨w.heap.size + 1 + 1 + 1 + 1 + 1,0,none⟩) 2 2,.slice (some ⟨w.heap.size + 1 + 1 + 1 + 1 + 1 + 1,0,none⟩) 1 1,.slice (some ⟨w.heap.size + 1 + 1 + 1 + 1 + 1 + 1 + 1,0,none⟩) 3 3,.slice (some ⟨w.heap.size + 1 + 1 + 1 + 1 + 1 + 1 + 1 + 1,0,none⟩) 2 2] 145)))
 have HB:Hid (Below w.heap.size w W):=lh (by rw [hW]; exact hBel [_,_,_,_,_,_,_,_,_,_]);clear hBel
 obtain ⟨o0,d24,o1,d25,o2,d26,o3,d27,o4,d28,o5,d29,d30,o6,d31,o7,d32,d33,d34,o8,d35,d36⟩:W.cell? ⟨w.heap.size + 1 + 1 + 1 + 1 + 1 + 1 + 1 + 1 + 1,0,none⟩=some (.slice (some ⟨w.heap.size,0,none⟩) 1 1)∧W.cell? ⟨w.heap.size,0,none⟩=some (.int .i64 24)∧W.cell? ⟨w.heap.size + 1 + 1 + 1 + 1 + 1 + 1 + 1 + 1 + 1,1,none⟩=some (.slice (some ⟨w.heap.size + 1,0,none⟩) 1 1)∧W.cell? ⟨w.heap.size + 1,0,none⟩=some (.int .i64 25)∧W.cell? ⟨w.heap.size + 1 + 1 + 1 + 1 + 1 + 1 + 1 + 1 + 1,2,none⟩=some (.slice (some ⟨w.heap.size + 1 + 1,0,none⟩) 1 1)∧W.cell? ⟨w.heap.size + 1 + 1,0,none⟩=some (.int .i64 26)∧W.cell? ⟨w.heap.size + 1 + 1 + 1 + 1 + 1 + 1 + 1 + 1 + 1,3,none⟩=some (.slice (some ⟨w.heap.size + 1 + 1 + 1,0,none⟩) 1 1)∧W.cell? ⟨w.heap.size + 1 + 1 + 1,0,none⟩=some (.int .i64 27)∧W.cell? ⟨w.heap.size + 1 + 1 + 1 + 1 + 1 + 1 + 1 + 1 + 1,4,none⟩=some (.slice (some ⟨w.heap.size + 1 + 1 + 1 + 1,0,none⟩) 1 1)∧W.cell? ⟨w.heap.size + 1 + 1 + 1 + 1,0,none⟩=some (.int .i64 28)∧W.cell? ⟨w.heap.size + 1 + 1 + 1 + 1 + 1 + 1 + 1 + 1 + 1,5,none⟩=some (.slice (some ⟨w.heap.size + 1 + 1 + 1 + 1 + 1,0,none⟩) 2 2)∧W.cell? ⟨w.heap.size + 1 + 1 + 1 + 1 + 1,0,none⟩=some (.int .i64 29)∧W.cell? ⟨w.heap.size + 1 + 1 + 1 + 1 + 1,1,none⟩=some (.int .i64 30)∧W.cell? ⟨w.heap.size + 1 + 1 + 1 + 1 + 1 + 1 + 1 + 1 + 1,6,none⟩=some (.slice (some ⟨w.heap.size + 1 + 1 + 1 + 1 + 1 + 1,0,none⟩) 1 1)∧W.cell? ⟨w.heap.size + 1 + 1 + 1 + 1 + 1 + 1,0,none⟩=some (.int .i64 31)∧W.cell? ⟨w.heap.size + 1 + 1 + 1 + 1 + 1 + 1 + 1 + 1 + 1,7,none⟩=some (.slice (some ⟨w.heap.size + 1 + 1 + 1 + 1 + 1 + 1 + 1,0,none⟩) 3 3)∧W.cell? ⟨w.heap.size + 1 + 1 + 1 + 1 + 1 + 1 + 1,0,none⟩=some (.int .i64 32)∧W.cell? ⟨w.heap.size + 1 + 1 + 1 + 1 + 1 + 1 + 1,1,none⟩=some (.int .i64 33)∧W.cell? ⟨w.heap.size + 1 + 1 + 1 + 1 + 1 + 1 + 1,2,none⟩=some (.int .i64 34)∧W.cell? ⟨w.heap.size + 1 + 1 + 1 + 1 + 1 + 1 + 1 + 1 + 1,8,none⟩=some (.slice (some ⟨w.heap.size + 1 + 1 + 1 + 1 + 1 + 1 + 1 + 1,0,none⟩) 2 2)∧W.cell? ⟨w.heap.size + 1 + 1 + 1 + 1 + 1 + 1 + 1 + 1,0,none⟩=some (.int .i64 35)∧W.cell? ⟨w.heap.size + 1 + 1 + 1 + 1 + 1 + 1 + 1 + 1,1,none⟩=some (.int .i64 36):=by
  rw [hW];refine ⟨?_,?_,?_,?_,?_,?_,?_,?_,?_,?_,?_,?_,?_,?_,?_,?_,?_,?_,?_,?_,?_,?_⟩;all_goals repeat (first | exact Zid _ _ _ _ _ (by simp) | rw [Z8 (by simp; try omega)])
 go_enter Tryz.func90,Tryz.ntmps90
 go_wp2_with fail
 rw [← hW];clear hW;go_loopw [18] (fun i wr=>∃ j:Nat,j≤9∧i=.int .i64 j∧wr=W∧Hid (∀ c:Int,24≤c→c≤36→Zo c < (j:Int)→k≠c)) (fun i _=>9 - (intOf i).toNat)
 case atStart=>
  refine ⟨0,by omega,rfl,rfl,lh fun c h1 h2 h3=>?_⟩;exfalso;unfold Zo at h3;repeat' split at h3
  all_goals omega
 case round=>
  obtain ⟨j,hj,rfl,rfl,HN⟩:=hrel;have hc:j=0∨j=1∨j=2∨j=3∨j=4∨j=5∨j=6∨j=7∨j=8∨j=9:=by omega
  clear hj;rcases hc with rfl | rfl | rfl | rfl | rfl | rfl | rfl | rfl | rfl | rfl
  ·go_wp2_with fail
   refine wp_loop_rounds 2 ?_;rw [rounds_succ];by_cases h24:k=24
   ·subst h24;go_wp2_with fail
    go_ret;exact ⟨rfl,HB.out⟩
   have b24:((24:Int) == k)=false:=by simp; omega
   go_wp2_with fail
   rw [rounds_succ];go_wp2;go_roundw
   case rel=>
    refine ⟨1,by omega,by first | rfl | trivial,by first | rfl | trivial,lh (Z23 (j:=0) HN.out fun c h1 h2 h3=>?_)⟩;have hc:c=24∨c=25∨c=26∨c=27∨c=28∨c=29∨c=30∨c=31∨c=32∨c=33∨c=34∨c=35∨c=36:=by omega
    clear HN h1 h2;rcases hc with rfl | rfl | rfl | rfl | rfl | rfl | rfl | rfl | rfl | rfl | rfl | rfl | rfl;all_goals first | assumption | (exfalso; revert h3; decide)
   case measure=>simp [intOf]
  ·go_wp2_with fail
   refine wp_loop_rounds 2 ?_;rw [rounds_succ];by_cases h25:k=25
   ·subst h25;go_wp2_with fail
    go_ret;exact ⟨rfl,HB.out⟩
   have b25:((25:Int) == k)=false:=by simp; omega
   go_wp2_with fail
   rw [rounds_succ];go_wp2;go_roundw
   case rel=>
    refine ⟨2,by omega,by first | rfl | trivial,by first | rfl | trivial,lh (Z23 (j:=1) HN.out fun c h1 h2 h3=>?_)⟩;have hc:c=24∨c=25∨c=26∨c=27∨c=28∨c=29∨c=30∨c=31∨c=32∨c=33∨c=34∨c=35∨c=36:=by omega
    clear HN h1 h2;rcases hc with rfl | rfl | rfl | rfl | rfl | rfl | rfl | rfl | rfl | rfl | rfl | rfl | rfl;all_goals first | assumption | (exfalso; revert h3; decide)
   case measure=>simp [intOf]
  ·go_wp2_with fail
   refine wp_loop_rounds 2 ?_;rw [rounds_succ];by_cases h26:k=26
   ·subst h26;go_wp2_with fail
    go_ret;exact ⟨rfl,HB.out⟩
   have b26:((26:Int) == k)=false:=by simp; omega
   go_wp2_with fail
   rw [rounds_succ];go_wp2;go_roundw
   case rel=>
    refine ⟨3,by omega,by first | rfl | trivial,by first | rfl | trivial,lh (Z23 (j:=2) HN.out fun c h1 h2 h3=>?_)⟩;have hc:c=24∨c=25∨c=26∨c=27∨c=28∨c=29∨c=30∨c=31∨c=32∨c=33∨c=34∨c=35∨c=36:=by omega
    clear HN h1 h2;rcases hc with rfl | rfl | rfl | rfl | rfl | rfl | rfl | rfl | rfl | rfl | rfl | rfl | rfl;all_goals first | assumption | (exfalso; revert h3; decide)
   case measure=>simp [intOf]
  ·go_wp2_with fail
   refine wp_loop_rounds 2 ?_;rw [rounds_succ];by_cases h27:k=27
   ·subst h27;go_wp2_with fail
    go_ret;exact ⟨rfl,HB.out⟩
   have b27:((27:Int) == k)=false:=by simp; omega
   go_wp2_with fail
   rw [rounds_succ];go_wp2;go_roundw
   case rel=>
    refine ⟨4,by omega,by first | rfl | trivial,by first | rfl | trivial,lh (Z23 (j:=3) HN.out fun c h1 h2 h3=>?_)⟩;have hc:c=24∨c=25∨c=26∨c=27∨c=28∨c=29∨c=30∨c=31∨c=32∨c=33∨c=34∨c=35∨c=36:=by omega
    clear HN h1 h2;rcases hc with rfl | rfl | rfl | rfl | rfl | rfl | rfl | rfl | rfl | rfl | rfl | rfl | rfl;all_goals first | assumption | (exfalso; revert h3; decide)
   case measure=>simp [intOf]
  ·go_wp2_with fail
   refine wp_loop_rounds 2 ?_;rw [rounds_succ];by_cases h28:k=28
   ·subst h28;go_wp2_with fail
    go_ret;exact ⟨rfl,HB.out⟩
   have b28:((28:Int) == k)=false:=by simp; omega
   go_wp2_with fail
   rw [rounds_succ];go_wp2;go_roundw
   case rel=>
    refine ⟨5,by omega,by first | rfl | trivial,by first | rfl | trivial,lh (Z23 (j:=4) HN.out fun c h1 h2 h3=>?_)⟩;have hc:c=24∨c=25∨c=26∨c=27∨c=28∨c=29∨c=30∨c=31∨c=32∨c=33∨c=34∨c=35∨c=36:=by omega
    clear HN h1 h2;rcases hc with rfl | rfl | rfl | rfl | rfl | rfl | rfl | rfl | rfl | rfl | rfl | rfl | rfl;all_goals first | assumption | (exfalso; revert h3; decide)
   case measure=>simp [intOf]
  ·go_wp2_with fail
   refine wp_loop_rounds 3 ?_;rw [rounds_succ];by_cases h29:k=29
   ·subst h29;go_wp2_with fail
    go_ret;exact ⟨rfl,HB.out⟩
   have b29:((29:Int) == k)=false:=by simp; omega
   go_wp2_with fail
   rw [rounds_succ];by_cases h30:k=30
   ·subst h30;go_wp2_with fail
    go_ret;exact ⟨rfl,HB.out⟩
   have b30:((30:Int) == k)=false:=by simp; omega
   go_wp2_with fail
   rw [rounds_succ];go_wp2;go_roundw
   case rel=>
    refine ⟨6,by omega,by first | rfl | trivial,by first | rfl | trivial,lh (Z23 (j:=5) HN.out fun c h1 h2 h3=>?_)⟩;have hc:c=24∨c=25∨c=26∨c=27∨c=28∨c=29∨c=30∨c=31∨c=32∨c=33∨c=34∨c=35∨c=36:=by omega
    clear HN h1 h2;rcases hc with rfl | rfl | rfl | rfl | rfl | rfl | rfl | rfl | rfl | rfl | rfl | rfl | rfl;all_goals first | assumption | (exfalso; revert h3; decide)
   case measure=>simp [intOf]
  ·go_wp2_with fail
   refine wp_loop_rounds 2 ?_;rw [rounds_succ];by_cases h31:k=31
   ·subst h31;go_wp2_with fail
    go_ret;exact ⟨rfl,HB.out⟩
   have b31:((31:Int) == k)=false:=by simp; omega
   go_wp2_with fail
   rw [rounds_succ];go_wp2;go_roundw
   case rel=>
    refine ⟨7,by omega,by first | rfl | trivial,by first | rfl | trivial,lh (Z23 (j:=6) HN.out fun c h1 h2 h3=>?_)⟩;have hc:c=24∨c=25∨c=26∨c=27∨c=28∨c=29∨c=30∨c=31∨c=32∨c=33∨c=34∨c=35∨c=36:=by omega
    clear HN h1 h2;rcases hc with rfl | rfl | rfl | rfl | rfl | rfl | rfl | rfl | rfl | rfl | rfl | rfl | rfl;all_goals first | assumption | (exfalso; revert h3; decide)
   case measure=>simp [intOf]
  ·go_wp2_with fail
   refine wp_loop_rounds 4 ?_;rw [rounds_succ];by_cases h32:k=32
   ·subst h32;go_wp2_with fail
    go_ret;exact ⟨rfl,HB.out⟩
   have b32:((32:Int) == k)=false:=by simp; omega
   go_wp2_with fail
   rw [rounds_succ];by_cases h33:k=33
   ·subst h33;go_wp2_with fail
    go_ret;exact ⟨rfl,HB.out⟩
   have b33:((33:Int) == k)=false:=by simp; omega
   go_wp2_with fail
   rw [rounds_succ];by_cases h34:k=34
   ·subst h34;go_wp2_with fail
    go_ret;exact ⟨rfl,HB.out⟩
   have b34:((34:Int) == k)=false:=by simp; omega
   go_wp2_with fail
   rw [rounds_succ];go_wp2;go_roundw
   case rel=>
    refine ⟨8,by omega,by first | rfl | trivial,by first | rfl | trivial,lh (Z23 (j:=7) HN.out fun c h1 h2 h3=>?_)⟩;have hc:c=24∨c=25∨c=26∨c=27∨c=28∨c=29∨c=30∨c=31∨c=32∨c=33∨c=34∨c=35∨c=36:=by omega
    clear HN h1 h2;rcases hc with rfl | rfl | rfl | rfl | rfl | rfl | rfl | rfl | rfl | rfl | rfl | rfl | rfl;all_goals first | assumption | (exfalso; revert h3; decide)
   case measure=>simp [intOf]
  ·go_wp2_with fail
   refine wp_loop_rounds 3 ?_;rw [rounds_succ];by_cases h35:k=35
   ·subst h35;go_wp2_with fail
    go_ret;exact ⟨rfl,HB.out⟩
   have b35:((35:Int) == k)=false:=by simp; omega
   go_wp2_with fail
   rw [rounds_succ];by_cases h36:k=36
   ·subst h36;go_wp2_with fail
    go_ret;exact ⟨rfl,HB.out⟩
   have b36:((36:Int) == k)=false:=by simp; omega
   go_wp2_with fail
   rw [rounds_succ];go_wp2;go_roundw
   case rel=>
    refine ⟨9,by omega,by first | rfl | trivial,by first | rfl | trivial,lh (Z23 (j:=8) HN.out fun c h1 h2 h3=>?_)⟩;have hc:c=24∨c=25∨c=26∨c=27∨c=28∨c=29∨c=30∨c=31∨c=32∨c=33∨c=34∨c=35∨c=36:=by omega
    clear HN h1 h2;rcases hc with rfl | rfl | rfl | rfl | rfl | rfl | rfl | rfl | rfl | rfl | rfl | rfl | rfl;all_goals first | assumption | (exfalso; revert h3; decide)
   case measure=>simp [intOf]
  ·have hs:Zo k=9:=Zax fun c h1 h2=>HN.out c h1 h2 (by
    have hc:c=24∨c=25∨c=26∨c=27∨c=28∨c=29∨c=30∨c=31∨c=32∨c=33∨c=34∨c=35∨c=36:=by omega
    rcases hc with rfl | rfl | rfl | rfl | rfl | rfl | rfl | rfl | rfl | rfl | rfl | rfl | rfl;all_goals decide)
   clear HN;go_wp2;go_ret;exact ⟨Zl5 (k:=.i64) hs.symm,HB.out⟩
theorem Z97 (B b:Nat) (bs:List Value) (w:World) (h:Lib.IsBuilder 69 5 B b bs w) :
 Calls Tryz.prog 58 #[.pointer (some ⟨b,0,none⟩)] w fun e w'=>e=.returned (.tuple #[])∧(Lib.BuilderAt 69 5 B b (.pointer (some ⟨b,0,none⟩)) bs w'∧Below B w w'):=by
 rcases h with h | h
 ·refine (Z65 w b h.cell0 h.shape h.frozen0).mono ?_;rintro e w' ⟨rfl,rfl⟩;exact ⟨rfl,h.used _,(Y8 B w).setCell (p:=⟨b,0,none⟩) h.1 _⟩
 ·refine (Z6p w b h.cell0).mono ?_;rintro e w' ⟨rfl,rfl⟩;exact ⟨rfl,h,Y8 B _⟩
theorem Zfo (B b:Nat) (bs:List Value) (c:Int) (w:World) (h:Lib.IsBuilder 69 5 B b bs w) (hlen:bs.length + 1≤140737488355328) (hBw:B≤w.heap.size) :
 Calls Tryz.prog 24 #[.pointer (some ⟨b,0,none⟩),.int .u8 c] w fun e w'=>e=.returned .nilIface∧(Lib.BuilderAt 69 5 B b (.pointer (some ⟨b,0,none⟩)) (bs ++ [.int .u8 c]) w'∧Below B w w'):=by
 obtain ⟨i0,hi,hz0,hz1,hz2⟩:=info_parts Tryz.infoU8;have HC:=lh (Z97 B b bs w h);clear h;go_enter Tryz.func24,Tryz.ntmps24
 go_wp2_with fail
 refine HC.out.mono ?_;rintro e w1 ⟨rfl,h1,hb1⟩;obtain ⟨hB,v,hbk,hown,hne⟩:=h1;have c0:w1.cell? ⟨b,0,none⟩=some (.pointer (some ⟨b,0,none⟩)):=by rw [Lib.cell_of_heap hbk]; rfl
 have c1:w1.cell? ⟨b,1,none⟩=some v:=by rw [Lib.cell_of_heap hbk]; rfl
 go_wp2_with (at_builtin; refine wpList_append_own _ rfl _ _ 67 rfl B 5 i0 (.int .u8 0) 1 1 Tryz.underlying67 hi hz0 hz1 hz2 rfl (by decide) _ _ _ rfl (hown.alloc _) ⟨w1.heap.size,0,none⟩ 1 1 [.int .u8 c] rfl rfl ?c1 ?c2 ?c3 ?c4 ?c5 ?_)
 case c1=>
  intro j u hj;match j,hj with
  | 0,hj=>simp at hj; subst hj; simp [Addr.add]
 case c2=>intro u hu; simp at hu; subst hu; rfl
 case c3=>unfold maxLen; omega
 case c4=>omega
 case c5=>have:=hb1.size; simp; omega
 intro v' w2 hown' hgrow _;have hlt:b < w1.heap.size:=by
  rcases Nat.lt_or_ge b w1.heap.size with h' | h';·exact h'
  ·simp [Array.getElem?_eq_none h'] at hbk
 have hb2:w2.heap[b]?=some (.cells #[.pointer (some ⟨b,0,none⟩),v] 69 (0,0)):=by
  rw [hgrow.block b (by simp; omega) (fun e=>hne e.symm),Lib.alloc_old w1 _ b hlt];exact hbk
 have d0:w2.cell? ⟨b,0,none⟩=some (.pointer (some ⟨b,0,none⟩)):=by rw [Lib.cell_of_heap hb2]; rfl
 have d1:w2.cell? ⟨b,1,none⟩=some v:=by rw [Lib.cell_of_heap hb2]; rfl
 have f1:w2.frozen? ⟨b,1,none⟩=false:=Lib.frozen_of_heap hb2 1;obtain ⟨g,cap,rfl⟩:∃ g cap,v'=.slice (some ⟨g,0,none⟩) (bs.length + 1) cap:=by
  rcases hown'.2 with ⟨_,h0⟩ | ⟨g,cap,cur,hv,_⟩;·omega
  ·exact ⟨g,cap,hv⟩
 go_wp2;go_ret;refine ⟨rfl,?_,?_⟩;·exact Lib.BuilderAt.put (T:=69) (e:=5) hB hb2 (bs':=bs ++ [.int .u8 c]) (by simpa using hown') (by decide)
 ·exact ((hb1.alloc (by have:=hb1.size; omega) _).grown hgrow (by have:=hb1.size; simp; omega) (fun k hk=>(hown.lt k hk).1)).setCell (p:=⟨b,1,none⟩) hB _
theorem Zec (B b:Nat) (bs:List Value) (c:Int) (w:World) (h:Lib.IsBuilder 69 5 B b bs w) (hlen:bs.length + 1≤140737488355328) (hBw:B≤w.heap.size) (u:FrameMode) :
 CallsD Tryz.prog 24 #[.pointer (some ⟨b,0,none⟩),.int .u8 c] u w fun e u' w'=>u'=u∧(e=.returned .nilIface∧Lib.BuilderAt 69 5 B b (.pointer (some ⟨b,0,none⟩)) (bs ++ [.int .u8 c]) w'∧Below B w w'):=by
 obtain ⟨i0,hi,hz0,hz1,hz2⟩:=info_parts Tryz.infoU8;have HC:=lh (Z97 B b bs w h);clear h;go_enter_d Tryz.func24,Tryz.ntmps24
 go_wp2_with fail
 refine HC.out.mono ?_;rintro e w1 ⟨rfl,h1,hb1⟩;obtain ⟨hB,v,hbk,hown,hne⟩:=h1;have c0:w1.cell? ⟨b,0,none⟩=some (.pointer (some ⟨b,0,none⟩)):=by rw [Lib.cell_of_heap hbk]; rfl
 have c1:w1.cell? ⟨b,1,none⟩=some v:=by rw [Lib.cell_of_heap hbk]; rfl
 go_wp2_with (at_builtin; refine wpList_append_own _ rfl _ _ 67 rfl B 5 i0 (.int .u8 0) 1 1 Tryz.underlying67 hi hz0 hz1 hz2 rfl (by decide) _ _ _ rfl (hown.alloc _) ⟨w1.heap.size,0,none⟩ 1 1 [.int .u8 c] rfl rfl ?c1 ?c2 ?c3 ?c4 ?c5 ?_)
 case c1=>
  intro j u hj;match j,hj with
  | 0,hj=>simp at hj; subst hj; simp [Addr.add]
 case c2=>intro u hu; simp at hu; subst hu; rfl
 case c3=>unfold maxLen; omega
 case c4=>omega
 case c5=>have:=hb1.size; simp; omega
 intro v' w2 hown' hgrow _;have hlt:b < w1.heap.size:=by
  rcases Nat.lt_or_ge b w1.heap.size with h' | h';·exact h'
  ·simp [Array.getElem?_eq_none h'] at hbk
 have hb2:w2.heap[b]?=some (.cells #[.pointer (some ⟨b,0,none⟩),v] 69 (0,0)):=by
  rw [hgrow.block b (by simp; omega) (fun e=>hne e.symm),Lib.alloc_old w1 _ b hlt];exact hbk
 have d0:w2.cell? ⟨b,0,none⟩=some (.pointer (some ⟨b,0,none⟩)):=by rw [Lib.cell_of_heap hb2]; rfl
 have d1:w2.cell? ⟨b,1,none⟩=some v:=by rw [Lib.cell_of_heap hb2]; rfl
 have f1:w2.frozen? ⟨b,1,none⟩=false:=Lib.frozen_of_heap hb2 1;obtain ⟨g,cap,rfl⟩:∃ g cap,v'=.slice (some ⟨g,0,none⟩) (bs.length + 1) cap:=by
  rcases hown'.2 with ⟨_,h0⟩ | ⟨g,cap,cur,hv,_⟩;·omega
  ·exact ⟨g,cap,hv⟩
 go_wp2;go_ret;refine ⟨rfl,?_,?_⟩;·exact Lib.BuilderAt.put (T:=69) (e:=5) hB hb2 (bs':=bs ++ [.int .u8 c]) (by simpa using hown') (by decide)
 ·exact ((hb1.alloc (by have:=hb1.size; omega) _).grown hgrow (by have:=hb1.size; simp; omega) (fun k hk=>(hown.lt k hk).1)).setCell (p:=⟨b,1,none⟩) hB _
theorem Zii (B b:Nat) (bs:List Value) (s:ByteArray) (w:World) (h:Lib.IsBuilder 69 5 B b bs w) (hlen:bs.length + s.size≤140737488355328) (hBw:B≤w.heap.size) :
 Calls Tryz.prog 55 #[.pointer (some ⟨b,0,none⟩),.string s] w fun e w'=>e=.returned (.tuple #[.int .i64 s.size,.nilIface])∧(Lib.BuilderAt 69 5 B b (.pointer (some ⟨b,0,none⟩)) (bs ++ Lib.strCells s) w'∧Below B w w'):=by
 obtain ⟨i0,hi,hz0,hz1,hz2⟩:=info_parts Tryz.infoU8;have HC:=lh (Z97 B b bs w h);clear h;go_enter Tryz.func55,Tryz.ntmps55
 go_wp2_with fail
 refine HC.out.mono ?_;rintro e w1 ⟨rfl,h1,hb1⟩;obtain ⟨hB,v,hbk,hown,hne⟩:=h1;have c0:w1.cell? ⟨b,0,none⟩=some (.pointer (some ⟨b,0,none⟩)):=by rw [Lib.cell_of_heap hbk]; rfl
 have c1:w1.cell? ⟨b,1,none⟩=some v:=by rw [Lib.cell_of_heap hbk]; rfl
 go_wp2_with (at_builtin; refine Lib.wpList_append_own_string _ rfl _ _ 67 9 rfl B 5 i0 Tryz.underlying67 Yr hi hz0 hz1 hz2 _ _ _ rfl hown s rfl ?c3 ?c4 ?c5 ?_)
 case c3=>unfold maxLen; omega
 case c4=>omega
 case c5=>have:=hb1.size; omega
 intro v' w2 hown' hgrow _;have hlt:b < w1.heap.size:=by
  rcases Nat.lt_or_ge b w1.heap.size with h' | h';·exact h'
  ·simp [Array.getElem?_eq_none h'] at hbk
 have hb2:w2.heap[b]?=some (.cells #[.pointer (some ⟨b,0,none⟩),v] 69 (0,0)):=by
  rw [hgrow.block b hlt (fun e=>hne e.symm)];exact hbk
 have d0:w2.cell? ⟨b,0,none⟩=some (.pointer (some ⟨b,0,none⟩)):=by rw [Lib.cell_of_heap hb2]; rfl
 have d1:w2.cell? ⟨b,1,none⟩=some v:=by rw [Lib.cell_of_heap hb2]; rfl
 have f1:w2.frozen? ⟨b,1,none⟩=false:=Lib.frozen_of_heap hb2 1;obtain ⟨ao,n',cap,rfl⟩:∃ ao n' cap,v'=.slice ao n' cap:=by
  rcases hown'.2 with ⟨hv,_⟩ | ⟨g,cap,cur,hv,_⟩;·exact ⟨_,_,_,hv⟩
  ·exact ⟨_,_,_,hv⟩
 go_wp2;go_ret2
 refine ⟨rfl,?_,?_⟩;·exact Lib.BuilderAt.put (T:=69) (e:=5) hB hb2 (bs':=bs ++ Lib.strCells s) (by simpa [Lib.strCells_length] using hown') (by decide)
 ·exact (hb1.grown hgrow (by have:=hb1.size; omega) (fun k hk=>(hown.lt k hk).1)).setCell (p:=⟨b,1,none⟩) hB _
def Bnd (n:Nat) (p:PR):Prop:=∀ t ts,p=some (.ok (t,ts))→t.many + 2 * ts.length≤n
theorem Bnd.fail {n:Nat} {e:Int} {ts:List Tok}:Bnd n (Z30 e ts):=by intro t ts' h; cases h
theorem Bnd.none {n:Nat}:Bnd n none:=by intro t ts' h; cases h
theorem Bnd.err {n:Nat} {e:Int×Nat}:Bnd n (some (.error e)):=by intro t ts' h; cases h
theorem Bnd.ok {n:Nat} {t:Tree} {ts:List Tok} (h:t.many + 2 * ts.length≤n):Bnd n (okT t ts):=by
 intro t' ts' h';simp only [okT,Option.some.injEq,Except.ok.injEq,Prod.mk.injEq] at h';rw [← h'.1,← h'.2]; exact h
theorem Bnd.bind {n m:Nat} {p:PR} {k:Tree→List Tok→PR} (hp:Bnd m p) (hk:∀ t ts,t.many + 2 * ts.length≤m→Bnd n (k t ts)):Bnd n (Z0g p k):=by
 cases p with
 | none=>exact Bnd.none
 | some r =>
   cases r with
   | error e=>exact Bnd.err
   | ok x=>obtain ⟨t,ts⟩:=x; exact hk t ts (hp t ts rfl)
theorem Bnd.want {n:Nat} {s:ByteArray} {ts:List Tok} {k:List Tok→PR} (hk:ts.tail.length < ts.length→Bnd n (k ts.tail)):Bnd n (Z1e s ts k):=by
 unfold Z1e;by_cases h:isT s ts=true;·rw [Yb h]; exact hk (Z0j h)
 ·rw [Y9 h]; exact Bnd.fail
theorem Bnd.name {n:Nat} {ts:List Tok} {k:ByteArray→List Tok→PR} (hk:∀ s,ts.tail.length < ts.length→Bnd n (k s ts.tail)):Bnd n (Z3f ts k):=by
 unfold Z3f;by_cases h:(hdT ts).kind=1;·rw [Yb h]; exact hk _ (Z3q (by omega))
 ·rw [Y9 h]; exact Bnd.fail
theorem Bnd.within {n d:Nat} {ts:List Tok} {p:PR} (h:Bnd n p):Bnd n (Z1a d ts p):=by
 unfold Z1a;by_cases h':30 < d + 1;·rw [Yb h']; exact Bnd.fail
 ·rw [Y9 h']; exact h
theorem Bnd.ite {n:Nat} {c:Prop} [Decidable c] {p q:PR} (hp:c→Bnd n p) (hq:¬ c→Bnd n q):Bnd n (if c then p else q):=by
 by_cases h:c;·rw [Yb h]; exact hp h
 ·rw [Y9 h]; exact hq h
theorem Bnd.comma {n:Nat} {c:Prop} [Decidable c] {ts:List Tok} {k:List Tok→PR} (hk:∀ ts',ts'.length≤ts.length→Bnd n (k ts')):Bnd n ((if c then Z1e Z1b ts else fun k=>k ts) k):=by
 by_cases h:c;·rw [Yb h]; exact Bnd.want fun h'=>hk _ (by omega)
 ·rw [Y9 h]; exact hk _ (Y5 _)
theorem Bnd.end' {n:Nat} {t:Tree} {ts:List Tok} (h:t.many + 2 * ts.length≤n + 2):Bnd n (endT t ts):=Bnd.want fun h'=>Bnd.ok (by omega)
def Job.base:Job→Nat
 | .stmts _ acc=>Zv acc + 1
 | .params acc=>Zv acc + 1
 | .try_=>1
 | .binLoop _ x=>x.many
 | .postLoop x=>x.many
 | .args acc=>Zv acc + 1
 | .object acc=>Zv acc + 1
 | _=>0
theorem Z6g (l m:List Tree):Zv (l ++ m)=Zv l + Zv m:=by
 induction l with
 | nil=>simp [Zv]
 | cons x l ih=>simp only [List.cons_append,Zv,ih]; omega
theorem Z1m (k:Int) (s:ByteArray) (n:Int) (l:List Tree):(Tree.mk k s n l).many=Zv l + 1:=by simp [Tree.many]
theorem Z2d (x:Tree):Zv [x]=x.many:=by simp [Zv]
theorem Z50 (x y:Tree):Zv [x,y]=x.many + y.many:=by simp [Zv]
theorem Zcm (x y z:Tree):Zv [x,y,z]=x.many + y.many + z.many:=by simp [Zv]; omega
theorem Z2v:Zv []=0:=by simp [Zv]
theorem Zg0 (x:Tree):x.many=Zv x.kids + 1:=by cases x; simp [Tree.many,Tree.kids]
theorem Za1:∀ (f:Nat) (job:Job) (d:Nat) (ts:List Tok),Bnd (job.base + 2 * ts.length) (Z0 f job d ts):=by
 intro f;induction f with
 | zero=>intro job d ts; exact Bnd.none
 | succ f ih =>
   intro job d ts;have htl:=Z19 ts;have ih':∀ (job:Job) (d:Nat) (us:List Tok) {n:Nat},job.base + 2 * us.length≤n→Bnd n (Z0 f job d us):=fun job d us n h t vs hp=>Ya (ih job d us t vs hp) h;cases job with
   | stmts kind acc =>
     rw [Z0];refine Bnd.ite (fun _=>Bnd.ok ?_) fun _=>Bnd.bind (Bnd.within (ih .stmt _ _)) fun t us h=>ih' _ _ _ ?_;·rw [Z1m]; simp only [Job.base]; omega
     ·simp only [Job.base,Z6g,Z2d] at *; omega
   | block body =>
     rw [Z0];refine Bnd.want fun h1=>Bnd.bind (ih (.stmts 6 []) _ _) fun t us h=>Bnd.want fun h2=>Bnd.ok ?_;simp only [Job.base,Z2v] at *;cases body;·simp only [Bool.false_eq_true,if_false]; rw [Z1m]; rw [Zg0] at h; omega
     ·simp only [if_true]; omega
   | func kind text =>
     rw [Z0];refine Bnd.want fun h1=>Bnd.bind (ih (.params []) _ _) fun t us h=>Bnd.want fun h2=>Bnd.bind (ih (.block true) _ _) fun t vs h3=>Bnd.ok ?_;simp only [Job.base,Z2v,Z1m,Z50] at *; omega
   | params acc =>
     rw [Z0];refine Bnd.ite (fun _=>Bnd.ok ?_) fun _=>Bnd.comma fun us h=>Bnd.ite (fun _=>Bnd.fail) fun _=>Bnd.name fun s h2=>ih' _ _ _ ?_;·rw [Z1m]; simp only [Job.base]; omega
     ·simp only [Job.base,Z6g,Z2d,Z1m,Z2v] at *; omega
   | around =>
     rw [Z0];refine Bnd.want fun h1=>Bnd.bind (ih .value _ _) fun t us h=>Bnd.want fun h2=>Bnd.ok ?_;simp only [Job.base] at *; omega
   | stmt =>
     rw [Z0];refine Bnd.ite (fun h=>ih' _ _ _ (by simp only [Job.base]; omega)) fun _=>?_;refine Bnd.ite (fun h=>Bnd.ok (by have:=Z0j h; simp only [Job.base,Z1m,Z2v]; omega)) fun _=>?_;refine Bnd.ite (fun h=>Bnd.bind (ih _ _ _) fun t us h2=>Bnd.end' (by simp only [Job.base] at *; omega)) fun _=>?_;refine Bnd.ite (fun h=>Bnd.bind (ih _ _ _) fun t us h2=>Bnd.end' (by simp only [Job.base] at *; omega)) fun _=>?_;refine Bnd.ite (fun h=>Bnd.bind (ih _ _ _) fun t us h2=>Bnd.end' (by simp only [Job.base] at *; omega)) fun _=>?_
     refine Bnd.ite (fun h=>Bnd.name fun s h2=>ih' _ _ _ (by simp only [Job.base]; omega)) fun _=>?_;refine Bnd.ite (fun h=>?_) fun _=>?_
     ·have:=Z0j h;refine Bnd.bind (ih .around _ _) fun t us h2=>Bnd.bind (Bnd.within (ih .stmt _ _)) fun t vs h3=>?_;have:=Z19 vs;exact Bnd.ite (fun h4=>Bnd.bind (Bnd.within (ih .stmt _ _)) fun t xs h5=>Bnd.ok (by simp only [Job.base,Z1m,Zcm] at *; omega)) fun _=>Bnd.ok (by simp only [Job.base,Z1m,Z50] at *; omega)
     refine Bnd.ite (fun h=>?_) fun _=>?_
     ·have:=Z0j h;exact Bnd.bind (ih .around _ _) fun t us h2=>Bnd.bind (Bnd.within (ih .stmt _ _)) fun t vs h3=>Bnd.ok (by simp only [Job.base,Z1m,Z50] at *; omega)
     refine Bnd.ite (fun h=>?_) fun _=>?_
     ·have:=Z0j h;exact Bnd.bind (ih .around _ _) fun t us h2=>Bnd.bind (Bnd.within (ih .stmt _ _)) fun t vs h3=>Bnd.ok (by simp only [Job.base,Z1m,Z50] at *; omega)
     refine Bnd.ite (fun h=>?_) fun _=>?_
     ·have:=Z0j h;exact Bnd.ite (fun h1=>Bnd.end' (by simp only [Job.base,Z1m,Z2v] at *; omega)) fun _=>Bnd.bind (ih .value _ _) fun t us h2=>Bnd.end' (by simp only [Job.base,Z1m,Z2d] at *; omega)
     refine Bnd.ite (fun h=>?_) fun _=>?_
     ·have:=Z0j h;exact Bnd.bind (ih .value _ _) fun t us h2=>Bnd.end' (by simp only [Job.base,Z1m,Z2d] at *; omega)
     refine Bnd.ite (fun h=>ih' _ _ _ (by have:=Z0j h; simp only [Job.base]; omega)) fun _=>?_;exact Bnd.bind (ih .value _ _) fun t us h2=>Bnd.end' (by simp only [Job.base,Z1m,Z2d] at *; omega)
   | decl kind must =>
     rw [Z0];refine Bnd.name fun s h=>Bnd.ite (fun _=>Bnd.fail) fun _=>Bnd.ite (fun h2=>Bnd.bind (ih .value _ _) fun t us h3=>Bnd.ok ?_) fun _=>Bnd.ok ?_;·have:=Z19 ts.tail; simp only [Job.base,Z1m,Z2d] at *; omega
     ·simp only [Job.base,Z1m,Z2v] at *; omega
   | try_ =>
     rw [Z0];refine Bnd.bind (ih (.block false) _ _) fun b us h=>?_;have hk:∀ (l:List Tree) (vs:List Tok),Zv l + 2 * vs.length≤2 * ts.length→Bnd (1 + 2 * ts.length) (if isT Zt vs then Z0g (Z0 f (.block false) d vs.tail) fun c ts=>okT (.mk 12 ByteArray.empty 0 (l ++ [.mk 14 ByteArray.empty 0 [c]])) ts else if l.length=1 then Z30 3 vs else okT (.mk 12 ByteArray.empty 0 l) vs):=by
      intro l vs h2;refine Bnd.ite (fun h3=>Bnd.bind (ih (.block false) _ _) fun t xs h4=>Bnd.ok ?_) fun _=>Bnd.ite (fun _=>Bnd.fail) fun _=>Bnd.ok ?_;·have:=Z0j h3; simp only [Job.base,Z1m,Z6g,Z2d] at *; omega
      ·rw [Z1m]; omega
     refine Bnd.ite (fun h1=>?_) fun _=>hk _ _ (by simp only [Job.base,Z2d] at *; omega);have:=Z0j h1;refine Bnd.want fun h2=>Bnd.name fun s h3=>Bnd.want fun h4=>Bnd.bind (ih (.block false) _ _) fun c vs h5=>hk _ _ ?_;simp only [Job.base,Z1m,Z2d,Z50] at *; omega
   | value=>rw [Z0]; exact Bnd.within (ih' _ _ _ (by simp only [Job.base]; omega))
   | assign =>
     rw [Z0];refine Bnd.bind (ih (.bin 0) _ _) fun x us h=>Bnd.ite (fun h1=>Bnd.ite (fun _=>Bnd.bind (ih .value _ _) fun y vs h2=>Bnd.ok ?_) fun _=>Bnd.err) fun _=>Bnd.ok ?_;·have:=Z0j h1; simp only [Job.base,Z1m,Z50] at *; omega
     ·simp only [Job.base] at *; omega
   | bin level =>
     rw [Z0];refine Bnd.ite (fun h=>ih' _ _ _ (by simp only [Job.base]; omega)) fun h=>Bnd.bind (ih (.bin (level + 1)) _ _) fun x us h=>ih' _ _ _ (by simp only [Job.base] at *; omega)
   | binLoop level x =>
     rw [Z0];refine Bnd.ite (fun _=>Bnd.ok (by simp only [Job.base]; omega)) fun h0=>Bnd.bind (ih (.bin (level + 1)) _ _) fun y us h=>ih' _ _ _ ?_;have:=Z6r h0; simp only [Job.base,Z1m,Z50] at *; omega
   | unary =>
     rw [Z0];refine Bnd.ite (fun _=>ih' _ _ _ (by simp only [Job.base]; omega)) fun h0=>Bnd.bind (Bnd.within (ih .unary _ _)) fun y us h=>Bnd.ok ?_;have:=Z91 h0; simp only [Job.base,Z1m,Z2d] at *; omega
   | postfix_ =>
     rw [Z0];exact Bnd.bind (ih .primary _ _) fun y us h=>ih' _ _ _ (by simp only [Job.base] at *; omega)
   | postLoop x =>
     rw [Z0];refine Bnd.ite (fun h=>Bnd.name fun s h2=>ih' _ _ _ ?_) fun _=>Bnd.ite (fun h=>?_) fun _=>Bnd.ok (by simp only [Job.base]; omega);·have:=Z0j h; simp only [Job.base,Z1m,Z2d] at *; omega
     ·have:=Z0j h;exact Bnd.bind (ih (.args [x]) _ _) fun y us h=>ih' _ _ _ (by simp only [Job.base,Z2d] at *; omega)
   | args acc =>
     rw [Z0];refine Bnd.ite (fun h=>Bnd.ok ?_) fun _=>Bnd.comma fun us h=>Bnd.ite (fun _=>Bnd.fail) fun _=>Bnd.bind (ih .value _ _) fun y vs h2=>ih' _ _ _ ?_;·rw [Z1m]; simp only [Job.base]; omega
     ·simp only [Job.base,Z6g,Z2d] at *; omega
   | primary =>
     rw [Z0];have:=Z19 ts.tail;refine Bnd.ite (fun h=>Bnd.ok ?_) fun _=>Bnd.ite (fun h=>Bnd.ok ?_) fun _=>Bnd.ite (fun h=>Bnd.ok ?_) fun _=>Bnd.ite (fun h=>Bnd.ok ?_) fun _=>?_;·have:=Z3q (ts:=ts) (by omega); simp only [Job.base,Z1m,Z2v] at *; omega
     ·have:=Z3q (ts:=ts) (by omega); simp only [Job.base,Z1m,Z2v] at *; omega
     ·have:=Z3q (ts:=ts) (by omega); simp only [Job.base,Z1m,Z2v] at *; omega
     ·have:ts.tail.length < ts.length:=by
       unfold Z3s at h;by_cases h1:isT Z49 ts=true;·exact Z0j h1
       ·by_cases h2 : isT Z38 ts = true;·exact Z0j h2
        ·by_cases h3 : isT Z4s ts = true;·exact Z0j h3
         ·by_cases h4 : isT Z1q ts = true;·exact Z0j h4
          ·simp [h1,h2,h3,h4] at h
      simp only [Job.base,Z1m,Z2v] at *; omega
     refine Bnd.ite (fun _=>ih' _ _ _ (by simp only [Job.base]; omega)) fun _=>?_;refine Bnd.ite (fun _=>Bnd.ite (fun _=>ih' _ _ _ (by simp only [Job.base]; omega)) fun _=>ih' _ _ _ (by simp only [Job.base]; omega)) fun _=>?_;exact Bnd.ite (fun h=>ih' _ _ _ (by have:=Z0j h; simp only [Job.base,Z2v]; omega)) fun _=>Bnd.fail
   | object acc =>
     rw [Z0];refine Bnd.ite (fun h=>Bnd.ok ?_) fun _=>Bnd.comma fun us h=>Bnd.ite (fun _=>Bnd.fail) fun _=>Bnd.name fun s h1=>Bnd.want fun h2=>Bnd.bind (ih .value _ _) fun y vs h3=>ih' _ _ _ ?_;·rw [Z1m]; simp only [Job.base]; omega
     ·simp only [Job.base,Z6g,Z2d,Z1m] at *; omega
structure RS where
 ts:List Tok
 f:Option (Int×Nat)
def gT:Tree:=.mk 0 ByteArray.empty 0 []
def Z39 (e:Int) (σ:RS):RS:=if σ.f.isNone then ⟨σ.ts,some (e,(hdT σ.ts).at')⟩ else σ
def Zl (s:ByteArray) (σ:RS):Bool:=σ.f.isNone && isT s σ.ts
def advR (σ:RS):RS:=⟨σ.ts.tail,σ.f⟩
def Z0y (s:ByteArray) (σ:RS):RS:=if σ.f.isNone then (if isT s σ.ts then advR σ else Z39 3 σ) else σ
def Zw (σ:RS):ByteArray×RS:=if σ.f.isNone then (if (hdT σ.ts).kind=1 then ((hdT σ.ts).text,advR σ) else (ByteArray.empty,Z39 3 σ)) else (ByteArray.empty,σ)
abbrev RR:=Option (Tree×RS)
def Z0n (p:RR) (k:Tree→RS→RR):RR:=match p with | none=>none | some (t,σ)=>k t σ
def Z37 (s:ByteArray):Int:=if Z15 s s_or then 25 else if Z15 s Z5n then 26 else if Z15 s Z3j then 27 else if Z15 s Z4i then 28 else if Z15 s Z51 then 29 else if Z15 s Z5p then 30 else if Z15 s Z6n then 31 else 0
def Z5c (level:Nat) (s:ByteArray):Bool:=
 match level with
 | 0=>Z15 s s_or
 | 1=>Z15 s Z5n
 | 2=>Z15 s Z3j
 | 3=>Z15 s Z4i
 | 4=>Z15 s Z51 || Z15 s Z5p
 | 5=>Z15 s Z6n
 | _=>false
def Z68 (σ:RS):Int:=if Zl Z5g σ then 32 else if Zl Z1l σ then 33 else if Zl Z1t σ then 34 else 0
def Z33 (s:ByteArray):Int:=if Z15 s Z49 then 19 else if Z15 s Z38 then 20 else if Z15 s Z4s then 21 else if Z15 s Z1q then 22 else 0
inductive RJob
 | prog (acc:List Tree)
 | braces (body:Bool)
 | bracesL (acc:List Tree)
 | params (acc:List Tree)
 | args (acc:List Tree)
 | props (acc:List Tree)
 | func (kind:Int) (text:ByteArray)
 | head
 | stmt
 | stmt2
 | value
 | pairs (level:Nat)
 | pairsL (level:Nat) (x:Tree)
 | single
 | singleL (x:Tree)
 | first
def Z3t (c:Bool) (σ:RS):RS:=if c then Z0y Z1b σ else σ
def Z5i (c:Bool) (σ:RS):RS:=if c then Z39 4 σ else σ
def tryF (l:List Tree) (σ:RS):RR:=some (.mk 12 ByteArray.empty 0 l,if l.length=1 then Z39 3 σ else σ)
def Z45 (σ:RS):Int:=if Zl Z18 σ then 2 else if Zl Z1c σ then 3 else if Zl Z06 σ then 4 else 0
def Z28 (k:Int) (σ:RS):RS:=if decide (k=4) && σ.f.isNone && !Zl s_eq σ then Z39 3 σ else σ
def refF:Nat→RJob→Nat→RS→RR
 | 0,_,_,_=>none
 | f + 1, .prog acc, d, σ =>
   if σ.f.isNone && !decide ((hdT σ.ts).kind=6) then Z0n (refF f .stmt 1 σ) fun x σ=>refF f (.prog (acc ++ [x])) d σ
   else some (.mk 0 ByteArray.empty 0 acc,σ)
 | f + 1, .braces body, d, σ =>
   Z0n (refF f (.bracesL []) d (Z0y Zi σ)) fun l σ=>
    some (.mk 6 (if body && (Z0y Z01 σ).f.isNone && Z1w l.kids then Z1d else ByteArray.empty) 0 l.kids,Z0y Z01 σ)
 | f + 1, .bracesL acc, d, σ =>
   if σ.f.isNone && !Zl Z01 σ then Z0n (refF f .stmt (d + 1) σ) fun x σ=>refF f (.bracesL (acc ++ [x])) d σ
   else some (.mk 0 ByteArray.empty 0 acc,σ)
 | f + 1, .params acc, d, σ =>
   if σ.f.isNone && !Zl Z0v σ then
    if (Z5i (decide (acc.length=8)) (Z3t (decide (0 < acc.length)) σ)).f.isNone then
     refF f (.params (acc ++ [.mk 23 (Zw (Z5i (decide (acc.length=8)) (Z3t (decide (0 < acc.length)) σ))).1 0 []])) d (Zw (Z5i (decide (acc.length=8)) (Z3t (decide (0 < acc.length)) σ))).2
    else refF f (.params acc) d (Z5i (decide (acc.length=8)) (Z3t (decide (0 < acc.length)) σ))
   else some (.mk 0 ByteArray.empty 0 acc,Z0y Z0v σ)
 | f + 1, .args acc, d, σ =>
   if σ.f.isNone && !Zl Z0v σ then
    if (Z5i (decide (acc.length=8)) (Z3t (decide (0 < acc.length)) σ)).f.isNone then
     Z0n (refF f .value (d + 1) (Z5i (decide (acc.length=8)) (Z3t (decide (0 < acc.length)) σ))) fun v σ=>refF f (.args (acc ++ [v])) d σ
    else refF f (.args acc) d (Z5i (decide (acc.length=8)) (Z3t (decide (0 < acc.length)) σ))
   else some (.mk 0 ByteArray.empty 0 acc,Z0y Z0v σ)
 | f + 1, .props acc, d, σ =>
   if σ.f.isNone && !Zl Z01 σ then
    if (Z5i (decide (acc.length=8)) (Z3t (decide (0 < acc.length)) σ)).f.isNone then
     Z0n (refF f .value (d + 1) (Z0y Z2s (Zw (Z5i (decide (acc.length=8)) (Z3t (decide (0 < acc.length)) σ))).2)) fun v σ'=>
      refF f (.props (acc ++ [.mk 39 (Zw (Z5i (decide (acc.length=8)) (Z3t (decide (0 < acc.length)) σ))).1 0 [v]])) d σ'
    else refF f (.props acc) d (Z5i (decide (acc.length=8)) (Z3t (decide (0 < acc.length)) σ))
   else some (.mk 0 ByteArray.empty 0 acc,Z0y Z01 σ)
 | f + 1, .func kind text, d, σ =>
   Z0n (refF f (.params []) d (Z0y Z0u σ)) fun l σ=>Z0n (refF f (.braces true) d σ) fun b σ=>some (.mk kind text 0 [.mk 40 ByteArray.empty 0 l.kids,b],σ)
 | f + 1,.head,d,σ=>Z0n (refF f .value (d + 1) (Z0y Z0u σ)) fun x σ=>some (x,Z0y Z0v σ)
 | f + 1, .stmt, d, σ =>
   if 30 < d then some (gT,Z39 4 σ)
   else if Zl Zi σ then refF f (.braces false) d σ
   else if Zl Zs σ then some (.mk 16 ByteArray.empty 0 [],advR σ)
   else if Zl Ze σ then refF f (.func 5 (Zw (advR σ)).1) d (Zw (advR σ)).2
   else if Zl s_if σ then
    Z0n (refF f .head d (advR σ)) fun x σ=>Z0n (refF f .stmt2 d σ) fun y σ=>
     if Zl Z1y σ then Z0n (refF f .stmt2 d (advR σ)) fun z σ=>some (.mk 7 ByteArray.empty 0 [x,y,z],σ)
     else some (.mk 7 ByteArray.empty 0 [x,y],σ)
   else if Zl Zz σ || Zl Z0d σ then
    Z0n (refF f .head d (advR σ)) fun x σ1=>Z0n (refF f .stmt2 d σ1) fun y σ2=>some (.mk (if Zl Z0d σ then 9 else 8) ByteArray.empty 0 [x,y],σ2)
   else if Zl Z1j σ then
    Z0n (refF f (.braces false) d (advR σ)) fun b σ=>
     (fun (k : List Tree → RS → RR) =>
      if Zl Z0r σ then
       Z0n (refF f (.braces false) d (Z0y Z0v (Zw (Z0y Z0u (advR σ))).2)) fun c σ'=>k [b,.mk 13 (Zw (Z0y Z0u (advR σ))).1 0 [c]] σ'
      else k [b] σ) fun l σ=>
     if Zl Zt σ then Z0n (refF f (.braces false) d (advR σ)) fun c σ=>tryF (l ++ [.mk 14 ByteArray.empty 0 [c]]) σ
     else tryF l σ
   else if Z45 σ≠0 then
    if Zl s_eq (Z28 (Z45 σ) (Zw (advR σ)).2) then
     Z0n (refF f .value (d + 1) (advR (Z28 (Z45 σ) (Zw (advR σ)).2))) fun x σ'=>some (.mk (Z45 σ) (Zw (advR σ)).1 0 [x],Z0y Zs σ')
    else some (.mk (Z45 σ) (Zw (advR σ)).1 0 [],Z0y Zs (Z28 (Z45 σ) (Zw (advR σ)).2))
   else if Zl Z08 σ then
    if Zl Zs (advR σ) then some (.mk 10 ByteArray.empty 0 [],Z0y Zs (advR σ))
    else Z0n (refF f .value (d + 1) (advR σ)) fun x σ=>some (.mk 10 ByteArray.empty 0 [x],Z0y Zs σ)
   else if Zl Z0s σ then Z0n (refF f .value (d + 1) (advR σ)) fun x σ=>some (.mk 11 ByteArray.empty 0 [x],Z0y Zs σ)
   else Z0n (refF f .value (d + 1) σ) fun x σ=>some (.mk 15 ByteArray.empty 0 [x],Z0y Zs σ)
 | f + 1,.stmt2,d,σ=>if σ.f.isNone then refF f .stmt (d + 1) σ else some (gT,σ)
 | f + 1, .value, d, σ =>
   if σ.f.isNone then
    if 30 < d then some (gT,Z39 4 σ)
    else Z0n (refF f (.pairs 0) d σ) fun x σ1=>
     if Zl s_eq σ1 then
      if x.kind=23∨x.kind=36 then Z0n (refF f .value (d + 1) (advR σ1)) fun y σ2=>some (.mk 24 ByteArray.empty 0 [x,y],σ2)
      else some (gT,Z39 1 ⟨σ.ts,σ1.f⟩)
     else some (x,σ1)
   else some (gT,σ)
 | f + 1, .pairs level, d, σ =>
   if 6≤level then refF f .single d σ
   else Z0n (refF f (.pairs (level + 1)) d σ) fun x σ=>refF f (.pairsL level x) d σ
 | f + 1, .pairsL level x, d, σ =>
   if σ.f.isNone && decide ((hdT σ.ts).kind=5) && Z5c level (hdT σ.ts).text then
    Z0n (refF f (.pairs (level + 1)) d (advR σ)) fun y σ'=>refF f (.pairsL level (.mk (Z37 (hdT σ.ts).text) ByteArray.empty 0 [x,y])) d σ'
   else some (x,σ)
 | f + 1, .single, d, σ =>
   if Z68 σ≠0 then
    if 30 < d + 1 then some (gT,Z39 4 (advR σ))
    else Z0n (refF f .single (d + 1) (advR σ)) fun x σ'=>some (.mk (Z68 σ) ByteArray.empty 0 [x],σ')
   else Z0n (refF f .first d σ) fun x σ=>refF f (.singleL x) d σ
 | f + 1, .singleL x, d, σ =>
   if Zl Z98 σ then refF f (.singleL (.mk 36 (Zw (advR σ)).1 0 [x])) d (Zw (advR σ)).2
   else if Zl Z0u σ then Z0n (refF f (.args []) d (advR σ)) fun l σ=>refF f (.singleL (.mk 35 ByteArray.empty 0 (x :: l.kids))) d σ
   else some (x,σ)
 | f + 1, .first, d, σ =>
   if σ.f.isNone then
    if (hdT σ.ts).kind=1 then some (.mk 23 (hdT σ.ts).text 0 [],advR σ)
    else if (hdT σ.ts).kind=3 then some (.mk 17 ByteArray.empty (hdT σ.ts).n [],advR σ)
    else if (hdT σ.ts).kind=4 then some (.mk 18 (hdT σ.ts).text 0 [],advR σ)
    else if Zl Z0u σ then refF f .head d σ
    else if Zl Ze σ then
     if (hdT (advR σ).ts).kind=1 then refF f (.func 37 (Zw (advR σ)).1) d (Zw (advR σ)).2
     else refF f (.func 37 ByteArray.empty) d (advR σ)
    else if Zl Zi σ then Z0n (refF f (.props []) d (advR σ)) fun l σ=>some (.mk 38 ByteArray.empty 0 l.kids,σ)
    else if (hdT σ.ts).kind=2∧Z33 (hdT σ.ts).text≠0 then some (.mk (Z33 (hdT σ.ts).text) ByteArray.empty 0 [],advR σ)
    else some (gT,Z39 3 σ)
   else some (gT,σ)
def Z1x (r:RR) (e:Int×Nat):Prop:=∃ t ts,r=some (t,⟨ts,some e⟩)
theorem Z4k (s:ByteArray) (ts:List Tok) (e:Int×Nat):Z0y s ⟨ts,some e⟩=⟨ts,some e⟩:=rfl
theorem Z58 (s:ByteArray) (ts:List Tok) (e:Int×Nat):Zl s ⟨ts,some e⟩=false:=rfl
theorem Zg8 (ts:List Tok) (e:Int×Nat):Zw ⟨ts,some e⟩=(ByteArray.empty,⟨ts,some e⟩):=rfl
theorem Z8n (f d:Nat) (ts:List Tok) (e:Int×Nat):refF (f + 1) .value d ⟨ts,some e⟩=some (gT,⟨ts,some e⟩):=by simp [refF]
theorem Z8r (f d:Nat) (ts:List Tok) (e:Int×Nat):refF (f + 1) .stmt2 d ⟨ts,some e⟩=some (gT,⟨ts,some e⟩):=by simp [refF]
theorem Z6m (f d:Nat) (acc:List Tree) (ts:List Tok) (e:Int×Nat):refF (f + 1) (.params acc) d ⟨ts,some e⟩=some (.mk 0 ByteArray.empty 0 acc,⟨ts,some e⟩):=by simp [refF,Z4k]
theorem Ze0 (f d:Nat) (acc:List Tree) (ts:List Tok) (e:Int×Nat):refF (f + 1) (.args acc) d ⟨ts,some e⟩=some (.mk 0 ByteArray.empty 0 acc,⟨ts,some e⟩):=by simp [refF,Z4k]
theorem Z79 (f d:Nat) (acc:List Tree) (ts:List Tok) (e:Int×Nat):refF (f + 1) (.props acc) d ⟨ts,some e⟩=some (.mk 0 ByteArray.empty 0 acc,⟨ts,some e⟩):=by simp [refF,Z4k]
theorem Z72 (f d:Nat) (acc:List Tree) (ts:List Tok) (e:Int×Nat):refF (f + 1) (.bracesL acc) d ⟨ts,some e⟩=some (.mk 0 ByteArray.empty 0 acc,⟨ts,some e⟩):=by simp [refF]
theorem Zif (f d:Nat) (acc:List Tree) (ts:List Tok) (e:Int×Nat):refF (f + 1) (.prog acc) d ⟨ts,some e⟩=some (.mk 0 ByteArray.empty 0 acc,⟨ts,some e⟩):=by simp [refF]
theorem Z4l (f d:Nat) (b:Bool) (ts:List Tok) (e:Int×Nat):refF (f + 2) (.braces b) d ⟨ts,some e⟩=some (.mk 6 ByteArray.empty 0 [],⟨ts,some e⟩):=by
 rw [refF,Z4k,Z72]; simp [Z0n,Z4k,Tree.kids]
theorem Z9x (f d lv:Nat) (x:Tree) (ts:List Tok) (e:Int×Nat):refF (f + 1) (.pairsL lv x) d ⟨ts,some e⟩=some (x,⟨ts,some e⟩):=by simp [refF]
theorem Z6z (f d:Nat) (x:Tree) (ts:List Tok) (e:Int×Nat):refF (f + 1) (.singleL x) d ⟨ts,some e⟩=some (x,⟨ts,some e⟩):=by simp [refF,Z58]
theorem Zjs (f d:Nat) (k:Int) (s:ByteArray) (ts:List Tok) (e:Int×Nat):Z1x (refF (f + 3) (.func k s) d ⟨ts,some e⟩) e:=by
 rw [refF,Z4k,Z6m];simp only [Z0n];rw [Z4l];exact ⟨_,_,rfl⟩
def Zlp (t:Tok):Prop:=(t.kind=2→Z37 t.text=0)∧(t.kind=5→Z33 t.text=0)
def Z0c (ts:List Tok):Prop:=∀ t∈ts,Zlp t
theorem Z0c.tail {ts:List Tok} (h:Z0c ts):Z0c ts.tail:=fun t ht=>h t (List.mem_of_mem_tail ht)
theorem Z0c.hd {ts:List Tok} (h:Z0c ts):Zlp (hdT ts):=by
 cases ts with
 | nil=>exact ⟨fun h=>by simp [hdT] at h,fun h=>by simp [hdT] at h⟩
 | cons t l=>exact h t (by simp)
def Agree (p:PR) (q:RR):Prop:=
 match p with
 | none=>True
 | some (.ok (t,ts))=>q=some (t,⟨ts,none⟩)∧Z0c ts
 | some (.error e)=>Z1x q e
theorem Agree.ok {t:Tree} {ts:List Tok} (h:Z0c ts):Agree (okT t ts) (some (t,⟨ts,none⟩)):=⟨rfl,h⟩
theorem Agree.fail {k:Int} {t:Tree} {ts:List Tok}:Agree (Z30 k ts) (some (t,Z39 k ⟨ts,none⟩)):=⟨_,_,rfl⟩
theorem Agree.bind {p:PR} {q:RR} {k:Tree→List Tok→PR} {m:Tree→RS→RR} (h:Agree p q) (hk:∀ t ts,Z0c ts→Agree (k t ts) (m t ⟨ts,none⟩)) (he:∀ t ts e,Z1x (m t ⟨ts,some e⟩) e) :
 Agree (Z0g p k) (Z0n q m):=by
 cases p with
 | none=>trivial
 | some r =>
   cases r with
   | error e=>obtain ⟨t,ts,rfl⟩:=h; exact he t ts e
   | ok x=>obtain ⟨t,ts⟩:=x; obtain ⟨rfl,hg⟩:=h; exact hk t ts hg
theorem Agree.want {s:ByteArray} {ts:List Tok} {k:List Tok→PR} {m:RS→RR} (hg:Z0c ts) (hk:Z0c ts.tail→Agree (k ts.tail) (m ⟨ts.tail,none⟩)) (he:∀ ts e,Z1x (m ⟨ts,some e⟩) e) :
 Agree (Z1e s ts k) (m (Z0y s ⟨ts,none⟩)):=by
 unfold Z1e Z0y;by_cases h:isT s ts=true;·simp only [h,Option.isNone_none,if_true]; exact hk hg.tail
 ·simp only [h,Option.isNone_none,if_true]; exact he _ _
theorem Agree.name {ts:List Tok} {k:ByteArray→List Tok→PR} {m:ByteArray→RS→RR} (hg:Z0c ts) (hk:∀ s,Z0c ts.tail→Agree (k s ts.tail) (m s ⟨ts.tail,none⟩)) (he:∀ s ts e,Z1x (m s ⟨ts,some e⟩) e) :
 Agree (Z3f ts k) (m (Zw ⟨ts,none⟩).1 (Zw ⟨ts,none⟩).2):=by
 unfold Z3f Zw;by_cases h:(hdT ts).kind=1;·simp only [h,Option.isNone_none,if_true]; exact hk _ hg.tail
 ·simp only [h,Option.isNone_none,if_true,if_false]; exact he _ _ _
theorem Agree.ite {c:Prop} [Decidable c] {c':Bool} {p1 p2:PR} {q1 q2:RR} (h:c↔c'=true) (h1:c→Agree p1 q1) (h2:¬ c→Agree p2 q2):Agree (if c then p1 else p2) (if c'=true then q1 else q2):=by
 by_cases hc:c;·rw [Yb hc,Yb (h.1 hc)]; exact h1 hc
 ·rw [Y9 hc,Y9 (fun e=>hc (h.2 e))]; exact h2 hc
theorem Agree.within {d:Nat} {ts:List Tok} {p:PR} {q:RR} {t:Tree} (h:d + 1≤30→Agree p q):Agree (Z1a d ts p) (if 30 < d + 1 then some (t,Z39 4 ⟨ts,none⟩) else q):=by
 unfold Z1a;by_cases hd:30 < d + 1;·rw [Yb hd,Yb hd]; exact Agree.fail
 ·rw [Y9 hd,Y9 hd]; exact h (by omega)
theorem Z16 (s:ByteArray) (ts:List Tok):Zl s ⟨ts,none⟩=isT s ts:=by simp [Zl]
end Go.Proofs.YtmeiggjboakmpaaGreatDoor
