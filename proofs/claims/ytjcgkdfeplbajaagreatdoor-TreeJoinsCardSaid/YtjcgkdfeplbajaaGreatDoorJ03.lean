/- Package tree: what reading computes; it takes tokens, and ends. -/
import Derived.Test.YtjcgkdfeplbajaaGreatDoorJ02
namespace Go.Proofs.YtjcgkdfeplbajaaGreatDoor
open Go Go.RowKit
set_option maxRecDepth 100000
set_option maxHeartbeats 20000000
inductive Tree
 | mk (kind:Int) (text:ByteArray) (n:Int) (kids:List Tree)
def Tree.kind:Tree→Int | .mk k _ _ _=>k
def Tree.text:Tree→ByteArray | .mk _ t _ _=>t
def Tree.n:Tree→Int | .mk _ _ n _=>n
def Tree.kids:Tree→List Tree | .mk _ _ _ l=>l
abbrev PR:=Option (Except (Int×Nat) (Tree×List Tok))
def hdT (ts:List Tok):Tok:=ts.headD ⟨6,ByteArray.empty,0,0⟩
def isT (s:ByteArray) (ts:List Tok):Bool:=(decide ((hdT ts).kind=5) || decide ((hdT ts).kind=2)) && Z1f (hdT ts).text s
def Z1k (e:Int) (ts:List Tok):PR:=some (.error (e,(hdT ts).at'))
def okT (t:Tree) (ts:List Tok):PR:=some (.ok (t,ts))
def Z0i (s:ByteArray) (ts:List Tok) (k:List Tok→PR):PR:=if isT s ts then k ts.tail else Z1k 3 ts
def Z1m (ts:List Tok) (k:ByteArray→List Tok→PR):PR:=if (hdT ts).kind=1 then k (hdT ts).text ts.tail else Z1k 3 ts
def Zz (p:PR) (k:Tree→List Tok→PR):PR:=match p with | none=>none | some (.error e)=>some (.error e) | some (.ok (t,ts))=>k t ts
def Z0u:ByteArray:=⟨#[123]⟩
def Z03:ByteArray:=⟨#[125]⟩
def Z15:ByteArray:=⟨#[40]⟩
def Z16:ByteArray:=⟨#[41]⟩
def Z1x:ByteArray:=⟨#[59]⟩
def Z0n:ByteArray:=⟨#[44]⟩
def Z37:ByteArray:=⟨#[58]⟩
def Z8m:ByteArray:=⟨#[46]⟩
def s_eq:ByteArray:=⟨#[61]⟩
def Z5f:ByteArray:=⟨#[118,97,114]⟩
def Z63:ByteArray:=⟨#[108,101,116]⟩
def Z32:ByteArray:=⟨#[99,111,110,115,116]⟩
def Z0g:ByteArray:=⟨#[102,117,110,99,116,105,111,110]⟩
def s_if:ByteArray:=⟨#[105,102]⟩
def Z2o:ByteArray:=⟨#[101,108,115,101]⟩
def Z2v:ByteArray:=⟨#[119,104,105,108,101]⟩
def Z3t:ByteArray:=⟨#[119,105,116,104]⟩
def Z26:ByteArray:=⟨#[114,101,116,117,114,110]⟩
def Z2t:ByteArray:=⟨#[116,104,114,111,119]⟩
def Z4e:ByteArray:=⟨#[116,114,121]⟩
def Z10:ByteArray:=⟨#[99,97,116,99,104]⟩
def Zs:ByteArray:=⟨#[102,105,110,97,108,108,121]⟩
def Z42:ByteArray:=⟨#[33]⟩
def Z1d:ByteArray:=⟨#[116,121,112,101,111,102]⟩
def Z1g:ByteArray:=⟨#[100,101,108,101,116,101]⟩
def Z2n:ByteArray:=⟨#[116,114,117,101]⟩
def Z1s:ByteArray:=⟨#[102,97,108,115,101]⟩
def Z34:ByteArray:=⟨#[110,117,108,108]⟩
def Z0v:ByteArray:=⟨#[117,110,100,101,102,105,110,101,100]⟩
def s_or:ByteArray:=⟨#[124,124]⟩
def Z5a:ByteArray:=⟨#[38,38]⟩
def Z3k:ByteArray:=⟨#[61,61,61]⟩
def Z45:ByteArray:=⟨#[60]⟩
def Z5t:ByteArray:=⟨#[43]⟩
def Z66:ByteArray:=⟨#[45]⟩
def Z68:ByteArray:=⟨#[42]⟩
def Z0m:ByteArray:=⟨#[117,115,101,32,115,116,114,105,99,116]⟩
def Z33:ByteArray:=⟨#[115,116,114,105,99,116]⟩
def Z1y (l:List Tree):Bool:=
 match l with
 | .mk k _ _ (x :: _) :: _=>decide (k=15) && decide (x.kind=18) && Z1f x.text Z0m
 | _=>false
def Z14 (level:Nat) (ts:List Tok):Int:=
 match level with
 | 0=>if isT s_or ts then 25 else 0
 | 1=>if isT Z5a ts then 26 else 0
 | 2=>if isT Z3k ts then 27 else 0
 | 3=>if isT Z45 ts then 28 else 0
 | 4=>if isT Z5t ts then 29 else if isT Z66 ts then 30 else 0
 | 5=>if isT Z68 ts then 31 else 0
 | _=>0
def Z1l (ts:List Tok):Int:=if isT Z42 ts then 32 else if isT Z1d ts then 33 else if isT Z1g ts then 34 else 0
def Z1n (ts:List Tok):Int:=if isT Z2n ts then 19 else if isT Z1s ts then 20 else if isT Z34 ts then 21 else if isT Z0v ts then 22 else 0
inductive Job
 | stmts (kind:Int) (acc:List Tree)
 | block (body:Bool)
 | func (kind:Int) (text:ByteArray)
 | params (acc:List Tree)
 | around
 | stmt
 | decl (kind:Int) (must:Bool)
 | try_
 | value
 | assign
 | bin (level:Nat)
 | binLoop (level:Nat) (x:Tree)
 | unary
 | postfix_
 | postLoop (x:Tree)
 | args (acc:List Tree)
 | primary
 | object (acc:List Tree)
def endT (n:Tree) (ts:List Tok):PR:=Z0i Z1x ts fun ts=>okT n ts
def Z00 (d:Nat) (ts:List Tok) (p:PR):PR:=if 30 < d + 1 then Z1k 4 ts else p
def Z0:Nat→Job→Nat→List Tok→PR
 | 0,_,_,_=>none
 | f + 1, .stmts kind acc, d, ts =>
   if (if kind=1 then decide ((hdT ts).kind=6) else isT Z03 ts) then okT (.mk kind (if Z1y acc then Z33 else ByteArray.empty) 0 acc) ts
   else Zz (Z00 d ts (Z0 f .stmt (d + 1) ts)) fun x ts=>Z0 f (.stmts kind (acc ++ [x])) d ts
 | f + 1, .block body, d, ts =>
   Z0i Z0u ts fun ts=>Zz (Z0 f (.stmts 6 []) d ts) fun x ts=>Z0i Z03 ts fun ts=>okT (if body then x else .mk 6 ByteArray.empty 0 x.kids) ts
 | f + 1, .func kind text, d, ts =>
   Z0i Z15 ts fun ts=>Zz (Z0 f (.params []) d ts) fun p ts=>Z0i Z16 ts fun ts=>Zz (Z0 f (.block true) d ts) fun b ts=>okT (.mk kind text 0 [p,b]) ts
 | f + 1, .params acc, d, ts =>
   if isT Z16 ts then okT (.mk 40 ByteArray.empty 0 acc) ts
   else (if 0 < acc.length then Z0i Z0n ts else fun k=>k ts) fun ts=>
    if acc.length=8 then Z1k 4 ts else Z1m ts fun s ts=>Z0 f (.params (acc ++ [.mk 23 s 0 []])) d ts
 | f + 1, .around, d, ts =>
   Z0i Z15 ts fun ts=>Zz (Z0 f .value d ts) fun x ts=>Z0i Z16 ts fun ts=>okT x ts
 | f + 1, .stmt, d, ts =>
   if isT Z0u ts then Z0 f (.block false) d ts
   else if isT Z1x ts then okT (.mk 16 ByteArray.empty 0 []) ts.tail
   else if isT Z5f ts then Zz (Z0 f (.decl 2 false) d ts.tail) endT
   else if isT Z63 ts then Zz (Z0 f (.decl 3 false) d ts.tail) endT
   else if isT Z32 ts then Zz (Z0 f (.decl 4 true) d ts.tail) endT
   else if isT Z0g ts then Z1m ts.tail fun s ts=>Z0 f (.func 5 s) d ts
   else if isT s_if ts then
    Zz (Z0 f .around d ts.tail) fun x ts=>Zz (Z00 d ts (Z0 f .stmt (d + 1) ts)) fun y ts=>
     if isT Z2o ts then Zz (Z00 d ts.tail (Z0 f .stmt (d + 1) ts.tail)) fun z ts=>okT (.mk 7 ByteArray.empty 0 [x,y,z]) ts
     else okT (.mk 7 ByteArray.empty 0 [x,y]) ts
   else if isT Z2v ts then
    Zz (Z0 f .around d ts.tail) fun x ts=>Zz (Z00 d ts (Z0 f .stmt (d + 1) ts)) fun y ts=>okT (.mk 8 ByteArray.empty 0 [x,y]) ts
   else if isT Z3t ts then
    Zz (Z0 f .around d ts.tail) fun x ts=>Zz (Z00 d ts (Z0 f .stmt (d + 1) ts)) fun y ts=>okT (.mk 9 ByteArray.empty 0 [x,y]) ts
   else if isT Z26 ts then
    if isT Z1x ts.tail then endT (.mk 10 ByteArray.empty 0 []) ts.tail
    else Zz (Z0 f .value d ts.tail) fun x ts=>endT (.mk 10 ByteArray.empty 0 [x]) ts
   else if isT Z2t ts then Zz (Z0 f .value d ts.tail) fun x ts=>endT (.mk 11 ByteArray.empty 0 [x]) ts
   else if isT Z4e ts then Z0 f .try_ d ts.tail
   else Zz (Z0 f .value d ts) fun x ts=>endT (.mk 15 ByteArray.empty 0 [x]) ts
 | f + 1, .decl kind must, d, ts =>
   Z1m ts fun s ts=>
    if must && !isT s_eq ts then Z1k 3 ts
    else if isT s_eq ts then Zz (Z0 f .value d ts.tail) fun x ts=>okT (.mk kind s 0 [x]) ts
    else okT (.mk kind s 0 []) ts
 | f + 1, .try_, d, ts =>
   Zz (Z0 f (.block false) d ts) fun b ts=>
    (fun (k : List Tree → List Tok → PR) =>
     if isT Z10 ts then Z0i Z15 ts.tail fun ts=>Z1m ts fun s ts=>Z0i Z16 ts fun ts=>Zz (Z0 f (.block false) d ts) fun c ts=>k [b,.mk 13 s 0 [c]] ts
     else k [b] ts) fun l ts=>
    if isT Zs ts then Zz (Z0 f (.block false) d ts.tail) fun c ts=>okT (.mk 12 ByteArray.empty 0 (l ++ [.mk 14 ByteArray.empty 0 [c]])) ts
    else if l.length=1 then Z1k 3 ts else okT (.mk 12 ByteArray.empty 0 l) ts
 | f + 1,.value,d,ts=>Z00 d ts (Z0 f .assign (d + 1) ts)
 | f + 1, .assign, d, ts =>
   Zz (Z0 f (.bin 0) d ts) fun x ts'=>
    if isT s_eq ts' then
     if x.kind=23∨x.kind=36 then Zz (Z0 f .value d ts'.tail) fun y ts=>okT (.mk 24 ByteArray.empty 0 [x,y]) ts
     else some (.error (1,(hdT ts).at'))
    else okT x ts'
 | f + 1, .bin level, d, ts =>
   if 6≤level then Z0 f .unary d ts
   else Zz (Z0 f (.bin (level + 1)) d ts) fun x ts=>Z0 f (.binLoop level x) d ts
 | f + 1, .binLoop level x, d, ts =>
   if Z14 level ts=0 then okT x ts
   else Zz (Z0 f (.bin (level + 1)) d ts.tail) fun y ts'=>Z0 f (.binLoop level (.mk (Z14 level ts) ByteArray.empty 0 [x,y])) d ts'
 | f + 1, .unary, d, ts =>
   if Z1l ts=0 then Z0 f .postfix_ d ts
   else Zz (Z00 d ts.tail (Z0 f .unary (d + 1) ts.tail)) fun x ts'=>okT (.mk (Z1l ts) ByteArray.empty 0 [x]) ts'
 | f + 1,.postfix_,d,ts=>Zz (Z0 f .primary d ts) fun x ts=>Z0 f (.postLoop x) d ts
 | f + 1, .postLoop x, d, ts =>
   if isT Z8m ts then Z1m ts.tail fun s ts=>Z0 f (.postLoop (.mk 36 s 0 [x])) d ts
   else if isT Z15 ts then Zz (Z0 f (.args [x]) d ts.tail) fun n ts=>Z0 f (.postLoop n) d ts
   else okT x ts
 | f + 1, .args acc, d, ts =>
   if isT Z16 ts then okT (.mk 35 ByteArray.empty 0 acc) ts.tail
   else (if 1 < acc.length then Z0i Z0n ts else fun k=>k ts) fun ts=>
    if 8 < acc.length then Z1k 4 ts else Zz (Z0 f .value d ts) fun v ts=>Z0 f (.args (acc ++ [v])) d ts
 | f + 1, .primary, d, ts =>
   if (hdT ts).kind=1 then okT (.mk 23 (hdT ts).text 0 []) ts.tail
   else if (hdT ts).kind=3 then okT (.mk 17 ByteArray.empty (hdT ts).n []) ts.tail
   else if (hdT ts).kind=4 then okT (.mk 18 (hdT ts).text 0 []) ts.tail
   else if Z1n ts≠0 then okT (.mk (Z1n ts) ByteArray.empty 0 []) ts.tail
   else if isT Z15 ts then Z0 f .around d ts
   else if isT Z0g ts then
    if (hdT ts.tail).kind=1 then Z0 f (.func 37 (hdT ts.tail).text) d ts.tail.tail
    else Z0 f (.func 37 ByteArray.empty) d ts.tail
   else if isT Z0u ts then Z0 f (.object []) d ts.tail
   else Z1k 3 ts
 | f + 1, .object acc, d, ts =>
   if isT Z03 ts then okT (.mk 38 ByteArray.empty 0 acc) ts.tail
   else (if 0 < acc.length then Z0i Z0n ts else fun k=>k ts) fun ts=>
    if acc.length=8 then Z1k 4 ts
    else Z1m ts fun s ts=>Z0i Z37 ts fun ts=>Zz (Z0 f .value d ts) fun v ts=>Z0 f (.object (acc ++ [.mk 39 s 0 [v]])) d ts
mutual
def Tree.many:Tree→Nat
 | .mk _ _ _ l=>Zn l + 1
def Zn:List Tree→Nat
 | []=>0
 | t :: l=>t.many + Zn l
end
theorem Zw {s:ByteArray} {ts:List Tok} (h:isT s ts=true):ts.tail.length < ts.length:=by
 cases ts with
 | nil=>simp [isT,hdT] at h
 | cons t l=>simp
theorem Z0e (ts:List Tok):ts.tail.length≤ts.length:=by cases ts <;> simp
theorem Z22 {ts:List Tok} (h:(hdT ts).kind≠6):ts.tail.length < ts.length:=by
 cases ts with
 | nil=>simp [hdT] at h
 | cons t l=>simp
def Leaves (n:Nat) (p:PR):Prop:=∀ t ts,p=some (.ok (t,ts))→ts.length < n
theorem Leaves.fail {n:Nat} {e:Int} {ts:List Tok}:Leaves n (Z1k e ts):=by intro t ts' h; cases h
theorem Leaves.none {n:Nat}:Leaves n none:=by intro t ts' h; cases h
theorem Leaves.err {n:Nat} {e:Int×Nat}:Leaves n (some (.error e)):=by intro t ts' h; cases h
theorem Leaves.ok {n:Nat} {t:Tree} {ts:List Tok} (h:ts.length < n):Leaves n (okT t ts):=by
 intro t' ts' h';simp only [okT,Option.some.injEq,Except.ok.injEq,Prod.mk.injEq] at h';rw [← h'.2]; exact h
theorem Leaves.bind {n m:Nat} {p:PR} {k:Tree→List Tok→PR} (hp:Leaves m p) (hk:∀ t ts,ts.length < m→Leaves n (k t ts)):Leaves n (Zz p k):=by
 cases p with
 | none=>exact Leaves.none
 | some r =>
   cases r with
   | error e=>exact Leaves.err
   | ok x=>obtain ⟨t,ts⟩:=x; exact hk t ts (hp t ts rfl)
theorem Leaves.want {n:Nat} {s:ByteArray} {ts:List Tok} {k:List Tok→PR} (hk:ts.tail.length < ts.length→Leaves n (k ts.tail)):Leaves n (Z0i s ts k):=by
 unfold Z0i;by_cases h:isT s ts=true;·rw [Y5 h]; exact hk (Zw h)
 ·rw [Y3 h]; exact Leaves.fail
theorem Leaves.name {n:Nat} {ts:List Tok} {k:ByteArray→List Tok→PR} (hk:∀ s,ts.tail.length < ts.length→Leaves n (k s ts.tail)):Leaves n (Z1m ts k):=by
 unfold Z1m;by_cases h:(hdT ts).kind=1;·rw [Y5 h]; exact hk _ (Z22 (by omega))
 ·rw [Y3 h]; exact Leaves.fail
theorem Leaves.within {n d:Nat} {ts:List Tok} {p:PR} (h:Leaves n p):Leaves n (Z00 d ts p):=by
 unfold Z00;by_cases h':30 < d + 1;·rw [Y5 h']; exact Leaves.fail
 ·rw [Y3 h']; exact h
theorem Leaves.ite {n:Nat} {c:Prop} [Decidable c] {p q:PR} (hp:c→Leaves n p) (hq:¬ c→Leaves n q):Leaves n (if c then p else q):=by
 by_cases h:c;·rw [Y5 h]; exact hp h
 ·rw [Y3 h]; exact hq h
theorem Leaves.comma {n:Nat} {c:Prop} [Decidable c] {ts:List Tok} {k:List Tok→PR} (hk:∀ ts',ts'.length≤ts.length→Leaves n (k ts')):Leaves n ((if c then Z0i Z0n ts else fun k=>k ts) k):=by
 by_cases h:c;·rw [Y5 h]; exact Leaves.want fun h'=>hk _ (by omega)
 ·rw [Y3 h]; exact hk _ (Y0 _)
def Job.least:Job→Nat
 | .stmts ..=>1
 | .params ..=>1
 | .binLoop ..=>1
 | .postLoop ..=>1
 | _=>0
theorem Z0c:∀ (f:Nat) (job:Job) (d:Nat) (ts:List Tok),Leaves (ts.length + job.least) (Z0 f job d ts):=by
 intro f;induction f with
 | zero=>intro job d ts; unfold Z0; exact Leaves.none
 | succ f ih =>
   intro job d ts;have ih0:∀ {n:Nat} {job:Job} (d:Nat) (ts:List Tok),ts.length + job.least≤n→Leaves n (Z0 f job d ts):=fun d ts h t ts' e=>Y7 (ih _ d ts t ts' e) h;cases job with
   | stmts kind acc =>
     unfold Z0;refine Leaves.ite (fun _=>Leaves.ok (by simp [Job.least])) fun _=>?_;exact Leaves.bind (Leaves.within (ih .stmt _ _)) fun t ts' h=>ih0 _ _ (by simp only [Job.least] at *; omega)
   | block body =>
     unfold Z0;refine Leaves.want fun h=>?_;refine Leaves.bind (ih (.stmts 6 []) _ _) fun t ts' h'=>?_;refine Leaves.want fun h''=>Leaves.ok ?_;simp only [Job.least] at *; omega
   | func kind text =>
     unfold Z0;refine Leaves.want fun h=>Leaves.bind (ih (.params []) _ _) fun t ts' h'=>Leaves.want fun h2=>Leaves.bind (ih (.block true) _ _) fun t ts' h3=>Leaves.ok ?_;simp only [Job.least] at *; omega
   | params acc =>
     unfold Z0;refine Leaves.ite (fun _=>Leaves.ok (by simp [Job.least])) fun _=>?_;refine Leaves.comma fun ts' h=>Leaves.ite (fun _=>Leaves.fail) fun _=>Leaves.name fun s h2=>ih0 _ _ ?_;simp only [Job.least] at *; omega
   | around =>
     unfold Z0;refine Leaves.want fun h=>Leaves.bind (ih .value _ _) fun t ts' h'=>Leaves.want fun h2=>Leaves.ok ?_;simp only [Job.least] at *; omega
   | stmt =>
     unfold Z0;have hend:∀ (n:Tree) (us:List Tok),us.length≤ts.length→Leaves (ts.length + Job.stmt.least) (endT n us):=fun n us h=>Leaves.want fun h2=>Leaves.ok (by simp only [Job.least] at *; omega);have htl:=Z0e ts;refine Leaves.ite (fun h=>ih0 _ _ (by simp [Job.least])) fun _=>?_;refine Leaves.ite (fun h=>Leaves.ok (by have:=Zw h; simp only [Job.least] at *; omega)) fun _=>?_;refine Leaves.ite (fun h=>Leaves.bind (ih (.decl 2 false) _ _) fun t us h2=>hend _ _ (by simp only [Job.least] at *; omega)) fun _=>?_
     refine Leaves.ite (fun h=>Leaves.bind (ih (.decl 3 false) _ _) fun t us h2=>hend _ _ (by simp only [Job.least] at *; omega)) fun _=>?_;refine Leaves.ite (fun h=>Leaves.bind (ih (.decl 4 true) _ _) fun t us h2=>hend _ _ (by simp only [Job.least] at *; omega)) fun _=>?_;refine Leaves.ite (fun h=>Leaves.name fun s h2=>ih0 _ _ (by simp only [Job.least] at *; omega)) fun _=>?_
     refine Leaves.ite (fun h=>Leaves.bind (ih .around _ _) fun t us h2=>Leaves.bind (Leaves.within (ih .stmt _ _)) fun t vs h3=>Leaves.ite (fun h4=>Leaves.bind (Leaves.within (ih .stmt _ _)) fun t xs h5=>Leaves.ok (by have:=Z0e vs; simp only [Job.least] at *; omega)) (fun _=>Leaves.ok (by simp only [Job.least] at *; omega))) fun _=>?_;refine Leaves.ite (fun h=>Leaves.bind (ih .around _ _) fun t us h2=>Leaves.bind (Leaves.within (ih .stmt _ _)) fun t vs h3=>Leaves.ok (by simp only [Job.least] at *; omega)) fun _=>?_
     refine Leaves.ite (fun h=>Leaves.bind (ih .around _ _) fun t us h2=>Leaves.bind (Leaves.within (ih .stmt _ _)) fun t vs h3=>Leaves.ok (by simp only [Job.least] at *; omega)) fun _=>?_;refine Leaves.ite (fun h=>Leaves.ite (fun h1=>hend _ _ htl) (fun _=>Leaves.bind (ih .value _ _) fun t us h2=>hend _ _ (by simp only [Job.least] at *; omega))) fun _=>?_;refine Leaves.ite (fun h=>Leaves.bind (ih .value _ _) fun t us h2=>hend _ _ (by simp only [Job.least] at *; omega)) fun _=>?_;refine Leaves.ite (fun h=>ih0 _ _ (by simp only [Job.least] at *; omega)) fun _=>?_
     exact Leaves.bind (ih .value _ _) fun t us h2=>hend _ _ (by simp only [Job.least] at *; omega)
   | decl kind must =>
     unfold Z0;refine Leaves.name fun s h=>Leaves.ite (fun _=>Leaves.fail) fun _=>Leaves.ite (fun h2=>Leaves.bind (ih .value _ _) fun t us h3=>Leaves.ok ?_) fun _=>Leaves.ok ?_;·have:=Z0e ts.tail; simp only [Job.least] at *; omega
     ·simp only [Job.least] at *; omega
   | try_ =>
     unfold Z0;refine Leaves.bind (ih (.block false) _ _) fun b us h=>?_;have hk:∀ (l:List Tree) (vs:List Tok),vs.length≤us.length→Leaves (ts.length + Job.try_.least) (if isT Zs vs then Zz (Z0 f (.block false) d vs.tail) fun c ts=>okT (.mk 12 ByteArray.empty 0 (l ++ [.mk 14 ByteArray.empty 0 [c]])) ts else if l.length=1 then Z1k 3 vs else okT (.mk 12 ByteArray.empty 0 l) vs):=by
      intro l vs h2;have:=Z0e vs;refine Leaves.ite (fun _=>Leaves.bind (ih (.block false) _ _) fun t xs h3=>Leaves.ok ?_) fun _=>Leaves.ite (fun _=>Leaves.fail) fun _=>Leaves.ok ?_;·simp only [Job.least] at *; omega
      ·simp only [Job.least] at *; omega
     refine Leaves.ite (fun h1=>?_) fun _=>hk _ _ (Y0 _);refine Leaves.want fun h2=>Leaves.name fun s h3=>Leaves.want fun h4=>Leaves.bind (ih (.block false) _ _) fun c vs h5=>hk _ _ ?_;have:=Z0e us; simp only [Job.least] at *; omega
   | value=>unfold Z0; exact Leaves.within (ih0 _ _ (by simp [Job.least]))
   | assign =>
     unfold Z0;refine Leaves.bind (ih (.bin 0) _ _) fun x us h=>Leaves.ite (fun h1=>Leaves.ite (fun _=>Leaves.bind (ih .value _ _) fun y vs h2=>Leaves.ok ?_) fun _=>Leaves.err) fun _=>Leaves.ok ?_;·have:=Z0e us; simp only [Job.least] at *; omega
     ·simp only [Job.least] at *; omega
   | bin level =>
     unfold Z0;refine Leaves.ite (fun _=>ih0 _ _ (by simp [Job.least])) fun _=>Leaves.bind (ih (.bin (level + 1)) _ _) fun x us h=>ih0 _ _ ?_;simp only [Job.least] at *; omega
   | binLoop level x =>
     unfold Z0;refine Leaves.ite (fun _=>Leaves.ok (by simp [Job.least])) fun _=>Leaves.bind (ih (.bin (level + 1)) _ _) fun y us h=>ih0 _ _ ?_;have:=Z0e ts; simp only [Job.least] at *; omega
   | unary =>
     unfold Z0;refine Leaves.ite (fun _=>ih0 _ _ (by simp [Job.least])) fun _=>Leaves.bind (Leaves.within (ih .unary _ _)) fun y us h=>Leaves.ok ?_;have:=Z0e ts; simp only [Job.least] at *; omega
   | postfix_ =>
     unfold Z0;refine Leaves.bind (ih .primary _ _) fun y us h=>ih0 _ _ ?_;simp only [Job.least] at *; omega
   | postLoop x =>
     unfold Z0;have:=Z0e ts;refine Leaves.ite (fun _=>Leaves.name fun s h=>ih0 _ _ (by simp only [Job.least] at *; omega)) fun _=>Leaves.ite (fun _=>Leaves.bind (ih (.args [x]) _ _) fun y us h=>ih0 _ _ (by simp only [Job.least] at *; omega)) fun _=>Leaves.ok (by simp [Job.least])
   | args acc =>
     unfold Z0;refine Leaves.ite (fun h=>Leaves.ok (by have:=Zw h; simp only [Job.least] at *; omega)) fun _=>Leaves.comma fun us h=>Leaves.ite (fun _=>Leaves.fail) fun _=>Leaves.bind (ih .value _ _) fun y vs h2=>ih0 _ _ (by simp only [Job.least] at *; omega)
   | primary =>
     unfold Z0;have:=Z0e ts;have:=Z0e ts.tail;refine Leaves.ite (fun h=>Leaves.ok (by have:=Z22 (ts:=ts) (by omega); simp only [Job.least] at *; omega)) fun _=>?_;refine Leaves.ite (fun h=>Leaves.ok (by have:=Z22 (ts:=ts) (by omega); simp only [Job.least] at *; omega)) fun _=>?_;refine Leaves.ite (fun h=>Leaves.ok (by have:=Z22 (ts:=ts) (by omega); simp only [Job.least] at *; omega)) fun _=>?_;refine Leaves.ite (fun h=>Leaves.ok ?_) fun _=>?_
     ·have:ts.tail.length < ts.length:=by
       unfold Z1n at h;by_cases h1:isT Z2n ts=true;·exact Zw h1
       ·by_cases h2 : isT Z1s ts = true;·exact Zw h2
        ·by_cases h3 : isT Z34 ts = true;·exact Zw h3
         ·by_cases h4 : isT Z0v ts = true;·exact Zw h4
          ·simp [h1,h2,h3,h4] at h
      simp only [Job.least] at *; omega
     refine Leaves.ite (fun _=>ih0 _ _ (by simp [Job.least])) fun _=>?_;refine Leaves.ite (fun _=>Leaves.ite (fun _=>ih0 _ _ (by simp only [Job.least] at *; omega)) fun _=>ih0 _ _ (by simp only [Job.least] at *; omega)) fun _=>?_;exact Leaves.ite (fun _=>ih0 _ _ (by simp only [Job.least] at *; omega)) fun _=>Leaves.fail
   | object acc =>
     unfold Z0;refine Leaves.ite (fun h=>Leaves.ok (by have:=Zw h; simp only [Job.least] at *; omega)) fun _=>Leaves.comma fun us h=>Leaves.ite (fun _=>Leaves.fail) fun _=>Leaves.name fun s h1=>Leaves.want fun h2=>Leaves.bind (ih .value _ _) fun y vs h2=>ih0 _ _ (by simp only [Job.least] at *; omega)
def Job.rank:Job→Nat
 | .stmts ..=>30
 | .block _=>5
 | .func ..=>1
 | .params _=>1
 | .around=>1
 | .stmt=>20
 | .decl ..=>1
 | .try_=>6
 | .value=>19
 | .assign=>18
 | .bin level=>10 + (6 - level)
 | .binLoop ..=>31
 | .unary=>9
 | .postfix_=>8
 | .postLoop _=>31
 | .args _=>31
 | .primary=>7
 | .object _=>31
def Zh (p:PR):Prop:=p≠none
theorem Zh.fail {e:Int} {ts:List Tok}:Zh (Z1k e ts):=by simp [Zh,Z1k]
theorem Zh.ok {t:Tree} {ts:List Tok}:Zh (okT t ts):=by simp [Zh,okT]
theorem Zh.bind {p:PR} {k:Tree→List Tok→PR} {n:Nat} (hp:Zh p) (hl:Leaves n p) (hk:∀ t ts,ts.length < n→Zh (k t ts)):Zh (Zz p k):=by
 cases p with
 | none=>exact absurd rfl hp
 | some r =>
   cases r with
   | error e=>simp [Zh,Zz]
   | ok x=>obtain ⟨t,ts⟩:=x; exact hk t ts (hl t ts rfl)
theorem Zh.want {s:ByteArray} {ts:List Tok} {k:List Tok→PR} (hk:ts.tail.length < ts.length→Zh (k ts.tail)):Zh (Z0i s ts k):=by
 unfold Z0i;by_cases h:isT s ts=true;·rw [Y5 h]; exact hk (Zw h)
 ·rw [Y3 h]; exact Zh.fail
theorem Zh.name {ts:List Tok} {k:ByteArray→List Tok→PR} (hk:∀ s,ts.tail.length < ts.length→Zh (k s ts.tail)):Zh (Z1m ts k):=by
 unfold Z1m;by_cases h:(hdT ts).kind=1;·rw [Y5 h]; exact hk _ (Z22 (by omega))
 ·rw [Y3 h]; exact Zh.fail
theorem Zh.within {d:Nat} {ts:List Tok} {p:PR} (h:Zh p):Zh (Z00 d ts p):=by
 unfold Z00;by_cases h':30 < d + 1;·rw [Y5 h']; exact Zh.fail
 ·rw [Y3 h']; exact h
theorem Zh.ite {c:Prop} [Decidable c] {p q:PR} (hp:c→Zh p) (hq:¬ c→Zh q):Zh (if c then p else q):=by
 by_cases h:c;·rw [Y5 h]; exact hp h
 ·rw [Y3 h]; exact hq h
theorem Zh.comma {c:Prop} [Decidable c] {ts:List Tok} {k:List Tok→PR} (hk:∀ ts',ts'.length≤ts.length→Zh (k ts')):Zh ((if c then Z0i Z0n ts else fun k=>k ts) k):=by
 by_cases h:c;·rw [Y5 h]; exact Zh.want fun h'=>hk _ (by omega)
 ·rw [Y3 h]; exact hk _ (Y0 _)
theorem Z5m {ts:List Tok} (h:¬ Z1l ts=0):ts.tail.length < ts.length:=by
 unfold Z1l at h;by_cases h1:isT Z42 ts=true;·exact Zw h1
 ·by_cases h2 : isT Z1d ts = true;·exact Zw h2
  ·by_cases h3 : isT Z1g ts = true;·exact Zw h3
   ·simp [h1,h2,h3] at h
theorem Z4g {level:Nat} {ts:List Tok} (h:¬ Z14 level ts=0):ts.tail.length < ts.length:=by
 have key:∀ {s:ByteArray} {x y:Int},¬ (if isT s ts then x else y)=0→¬ y=0∨ts.tail.length < ts.length:=by
  intro s x y h;by_cases h1:isT s ts=true;·exact .inr (Zw h1)
  ·rw [Y3 h1] at h; exact .inl h
 unfold Z14 at h;split at h
 all_goals first
  | exact absurd rfl h
  | (rcases key h with h | h; (exact absurd rfl h); exact h)
  | (rcases key h with h | h; (rcases key h with h | h; (exact absurd rfl h); exact h); exact h)
theorem Z9v:∀ (f:Nat) (job:Job) (d:Nat) (ts:List Tok),40 * ts.length + job.rank < f→Zh (Z0 f job d ts):=by
 intro f;induction f with
 | zero=>intro job d ts h; omega
 | succ f ih =>
   intro job d ts hf;have L:=Z0c f;have htl:=Z0e ts;cases job with
   | stmts kind acc =>
     unfold Z0;refine Zh.ite (fun _=>Zh.ok) fun _=>Zh.bind (n:=ts.length) (Zh.within (ih _ _ _ (by simp only [Job.rank] at *; omega))) (Leaves.within (L .stmt _ _)) fun t us h=>ih _ _ _ (by simp only [Job.rank] at *; omega)
   | block body =>
     unfold Z0;refine Zh.want fun h=>Zh.bind (ih _ _ _ (by simp only [Job.rank] at *; omega)) (L _ _ _) fun t us h=>Zh.want fun h2=>Zh.ok
   | func kind text =>
     unfold Z0;refine Zh.want fun h=>Zh.bind (ih _ _ _ (by simp only [Job.rank] at *; omega)) (L (.params []) _ _) fun t us h=>Zh.want fun h2=>Zh.bind (ih _ _ _ (by simp only [Job.rank,Job.least] at *; omega)) (L _ _ _) fun t us h=>Zh.ok
   | params acc =>
     unfold Z0;refine Zh.ite (fun _=>Zh.ok) fun _=>Zh.comma fun us h=>Zh.ite (fun _=>Zh.fail) fun _=>Zh.name fun s h2=>ih _ _ _ (by simp only [Job.rank] at *; omega)
   | around =>
     unfold Z0;refine Zh.want fun h=>Zh.bind (ih _ _ _ (by simp only [Job.rank] at *; omega)) (L _ _ _) fun t us h=>Zh.want fun h2=>Zh.ok
   | stmt =>
     unfold Z0;have hend:∀ (n:Tree) (us:List Tok),Zh (endT n us):=fun n us=>Zh.want fun h2=>Zh.ok;refine Zh.ite (fun h=>ih _ _ _ (by simp only [Job.rank] at *; omega)) fun _=>?_;refine Zh.ite (fun h=>Zh.ok) fun _=>?_;refine Zh.ite (fun h=>Zh.bind (ih _ _ _ (by simp only [Job.rank] at *; omega)) (L _ _ _) fun t us h2=>hend _ _) fun _=>?_;refine Zh.ite (fun h=>Zh.bind (ih _ _ _ (by simp only [Job.rank] at *; omega)) (L _ _ _) fun t us h2=>hend _ _) fun _=>?_
     refine Zh.ite (fun h=>Zh.bind (ih _ _ _ (by simp only [Job.rank] at *; omega)) (L _ _ _) fun t us h2=>hend _ _) fun _=>?_;refine Zh.ite (fun h=>Zh.name fun s h2=>ih _ _ _ (by simp only [Job.rank] at *; omega)) fun _=>?_;refine Zh.ite (fun h=>?_) fun _=>?_
     ·have:=Zw h;refine Zh.bind (ih _ _ _ (by simp only [Job.rank] at *; omega)) (L .around _ _) fun t us h2=>?_;refine Zh.bind (Zh.within (ih _ _ _ (by simp only [Job.rank,Job.least] at *; omega))) (Leaves.within (L .stmt _ _)) fun t vs h3=>?_;have:=Z0e vs;exact Zh.ite (fun h4=>Zh.bind (Zh.within (ih _ _ _ (by simp only [Job.rank,Job.least] at *; omega))) (Leaves.within (L .stmt _ _)) fun t xs h5=>Zh.ok) fun _=>Zh.ok
     refine Zh.ite (fun h=>?_) fun _=>?_
     ·have:=Zw h;refine Zh.bind (ih _ _ _ (by simp only [Job.rank] at *; omega)) (L .around _ _) fun t us h2=>?_;exact Zh.bind (Zh.within (ih _ _ _ (by simp only [Job.rank,Job.least] at *; omega))) (Leaves.within (L .stmt _ _)) fun t vs h3=>Zh.ok
     refine Zh.ite (fun h=>?_) fun _=>?_
     ·have:=Zw h;refine Zh.bind (ih _ _ _ (by simp only [Job.rank] at *; omega)) (L .around _ _) fun t us h2=>?_;exact Zh.bind (Zh.within (ih _ _ _ (by simp only [Job.rank,Job.least] at *; omega))) (Leaves.within (L .stmt _ _)) fun t vs h3=>Zh.ok
     refine Zh.ite (fun h=>Zh.ite (fun h1=>hend _ _) fun _=>Zh.bind (ih _ _ _ (by simp only [Job.rank] at *; omega)) (L _ _ _) fun t us h2=>hend _ _) fun _=>?_;refine Zh.ite (fun h=>Zh.bind (ih _ _ _ (by simp only [Job.rank] at *; omega)) (L _ _ _) fun t us h2=>hend _ _) fun _=>?_;refine Zh.ite (fun h=>ih _ _ _ (by simp only [Job.rank] at *; omega)) fun _=>?_;exact Zh.bind (ih _ _ _ (by simp only [Job.rank] at *; omega)) (L _ _ _) fun t us h2=>hend _ _
   | decl kind must =>
     unfold Z0;refine Zh.name fun s h=>Zh.ite (fun _=>Zh.fail) fun _=>Zh.ite (fun h2=>Zh.bind (ih _ _ _ ?_) (L _ _ _) fun t us h3=>Zh.ok) fun _=>Zh.ok;have:=Z0e ts.tail; simp only [Job.rank] at *; omega
   | try_ =>
     unfold Z0;refine Zh.bind (ih _ _ _ (by simp only [Job.rank] at *; omega)) (L (.block false) _ _) fun b us h=>?_;have hk:∀ (l:List Tree) (vs:List Tok),vs.length≤us.length→Zh (if isT Zs vs then Zz (Z0 f (.block false) d vs.tail) fun c ts=>okT (.mk 12 ByteArray.empty 0 (l ++ [.mk 14 ByteArray.empty 0 [c]])) ts else if l.length=1 then Z1k 3 vs else okT (.mk 12 ByteArray.empty 0 l) vs):=by
      intro l vs h2;have:=Z0e vs;exact Zh.ite (fun _=>Zh.bind (ih _ _ _ (by simp only [Job.rank,Job.least] at *; omega)) (L _ _ _) fun t xs h3=>Zh.ok) fun _=>Zh.ite (fun _=>Zh.fail) fun _=>Zh.ok
     refine Zh.ite (fun h1=>?_) fun _=>hk _ _ (Y0 _);have:=Z0e us;refine Zh.want fun h2=>Zh.name fun s h3=>Zh.want fun h4=>Zh.bind (ih _ _ _ (by simp only [Job.rank,Job.least] at *; omega)) (L (.block false) _ _) fun c vs h5=>hk _ _ ?_;simp only [Job.least] at *; omega
   | value=>unfold Z0; exact Zh.within (ih _ _ _ (by simp only [Job.rank] at *; omega))
   | assign =>
     unfold Z0;refine Zh.bind (ih _ _ _ (by simp only [Job.rank] at *; omega)) (L (.bin 0) _ _) fun x us h=>Zh.ite (fun h1=>Zh.ite (fun _=>Zh.bind (ih _ _ _ ?_) (L _ _ _) fun y vs h2=>Zh.ok) fun _=>by simp [Zh]) fun _=>Zh.ok;have:=Z0e us; simp only [Job.rank,Job.least] at *; omega
   | bin level =>
     unfold Z0;refine Zh.ite (fun h=>ih _ _ _ (by simp only [Job.rank] at *; omega)) fun h=>Zh.bind (ih _ _ _ (by simp only [Job.rank] at *; omega)) (L (.bin (level + 1)) _ _) fun x us h=>ih _ _ _ (by simp only [Job.rank,Job.least] at *; omega)
   | binLoop level x =>
     unfold Z0;refine Zh.ite (fun _=>Zh.ok) fun h0=>Zh.bind (ih _ _ _ ?_) (L (.bin (level + 1)) _ _) fun y us h=>ih _ _ _ ?_;·have:=Z4g h0; simp only [Job.rank] at *; omega
     ·have:=Z4g h0; simp only [Job.rank,Job.least] at *; omega
   | unary =>
     unfold Z0;refine Zh.ite (fun _=>ih _ _ _ (by simp only [Job.rank] at *; omega)) fun h0=>Zh.bind (Zh.within (ih _ _ _ ?_)) (Leaves.within (L _ _ _)) fun y us h=>Zh.ok;have:=Z5m h0; simp only [Job.rank] at *; omega
   | postfix_ =>
     unfold Z0;exact Zh.bind (ih _ _ _ (by simp only [Job.rank] at *; omega)) (L .primary _ _) fun y us h=>ih _ _ _ (by simp only [Job.rank,Job.least] at *; omega)
   | postLoop x =>
     unfold Z0;refine Zh.ite (fun h=>Zh.name fun s h2=>ih _ _ _ (by simp only [Job.rank] at *; omega)) fun _=>Zh.ite (fun h=>?_) fun _=>Zh.ok;have:=Zw h;exact Zh.bind (ih _ _ _ (by simp only [Job.rank] at *; omega)) (L (.args [x]) _ _) fun y us h=>ih _ _ _ (by simp only [Job.rank,Job.least] at *; omega)
   | args acc =>
     unfold Z0;exact Zh.ite (fun h=>Zh.ok) fun _=>Zh.comma fun us h=>Zh.ite (fun _=>Zh.fail) fun _=>Zh.bind (ih _ _ _ (by simp only [Job.rank] at *; omega)) (L .value _ _) fun y vs h2=>ih _ _ _ (by simp only [Job.rank,Job.least] at *; omega)
   | primary =>
     unfold Z0;have:=Z0e ts.tail;refine Zh.ite (fun _=>Zh.ok) fun _=>Zh.ite (fun _=>Zh.ok) fun _=>Zh.ite (fun _=>Zh.ok) fun _=>Zh.ite (fun _=>Zh.ok) fun _=>?_;refine Zh.ite (fun _=>ih _ _ _ (by simp only [Job.rank] at *; omega)) fun _=>?_;refine Zh.ite (fun _=>Zh.ite (fun _=>ih _ _ _ (by simp only [Job.rank] at *; omega)) fun _=>ih _ _ _ (by simp only [Job.rank] at *; omega)) fun _=>?_;exact Zh.ite (fun h=>ih _ _ _ (by have:=Zw h; simp only [Job.rank] at *; omega)) fun _=>Zh.fail
   | object acc =>
     unfold Z0;exact Zh.ite (fun h=>Zh.ok) fun _=>Zh.comma fun us h=>Zh.ite (fun _=>Zh.fail) fun _=>Zh.name fun s h1=>Zh.want fun h2=>Zh.bind (ih _ _ _ (by simp only [Job.rank] at *; omega)) (L .value _ _) fun y vs h2=>ih _ _ _ (by simp only [Job.rank,Job.least] at *; omega)
def Z0h (text:ByteArray):Except (Int×Int) Tree:=
 if 3000 < text.size then .error (4,-1)
 else match Z3q text with
  | .error (e,p)=>.error (e,p)
  | .ok ts => match Z0 (40 * ts.length + 31) (.stmts 1 []) 0 ts with
    | none=>.error (0,-2)
    | some (.error (e,p))=>.error (e,p)
    | some (.ok (t,_))=>if 1500 < t.many then .error (4,-1) else .ok t
end Go.Proofs.YtjcgkdfeplbajaaGreatDoor
namespace Go.Proofs.YtjcgkdfeplbajaaGreatDoor
open Go Go.RowKit
set_option maxRecDepth 100000
set_option maxHeartbeats 20000000
set_option linter.unusedVariables false
def Bnd (n:Nat) (p:PR):Prop:=∀ t ts,p=some (.ok (t,ts))→t.many + 2 * ts.length≤n
theorem Bnd.fail {n:Nat} {e:Int} {ts:List Tok}:Bnd n (Z1k e ts):=by intro t ts' h; cases h
theorem Bnd.none {n:Nat}:Bnd n none:=by intro t ts' h; cases h
theorem Bnd.err {n:Nat} {e:Int×Nat}:Bnd n (some (.error e)):=by intro t ts' h; cases h
theorem Bnd.ok {n:Nat} {t:Tree} {ts:List Tok} (h:t.many + 2 * ts.length≤n):Bnd n (okT t ts):=by
 intro t' ts' h';simp only [okT,Option.some.injEq,Except.ok.injEq,Prod.mk.injEq] at h';rw [← h'.1,← h'.2]; exact h
theorem Bnd.bind {n m:Nat} {p:PR} {k:Tree→List Tok→PR} (hp:Bnd m p) (hk:∀ t ts,t.many + 2 * ts.length≤m→Bnd n (k t ts)):Bnd n (Zz p k):=by
 cases p with
 | none=>exact Bnd.none
 | some r =>
   cases r with
   | error e=>exact Bnd.err
   | ok x=>obtain ⟨t,ts⟩:=x; exact hk t ts (hp t ts rfl)
theorem Bnd.want {n:Nat} {s:ByteArray} {ts:List Tok} {k:List Tok→PR} (hk:ts.tail.length < ts.length→Bnd n (k ts.tail)):Bnd n (Z0i s ts k):=by
 unfold Z0i;by_cases h:isT s ts=true;·rw [Y5 h]; exact hk (Zw h)
 ·rw [Y3 h]; exact Bnd.fail
theorem Bnd.name {n:Nat} {ts:List Tok} {k:ByteArray→List Tok→PR} (hk:∀ s,ts.tail.length < ts.length→Bnd n (k s ts.tail)):Bnd n (Z1m ts k):=by
 unfold Z1m;by_cases h:(hdT ts).kind=1;·rw [Y5 h]; exact hk _ (Z22 (by omega))
 ·rw [Y3 h]; exact Bnd.fail
theorem Bnd.within {n d:Nat} {ts:List Tok} {p:PR} (h:Bnd n p):Bnd n (Z00 d ts p):=by
 unfold Z00;by_cases h':30 < d + 1;·rw [Y5 h']; exact Bnd.fail
 ·rw [Y3 h']; exact h
theorem Bnd.ite {n:Nat} {c:Prop} [Decidable c] {p q:PR} (hp:c→Bnd n p) (hq:¬ c→Bnd n q):Bnd n (if c then p else q):=by
 by_cases h:c;·rw [Y5 h]; exact hp h
 ·rw [Y3 h]; exact hq h
theorem Bnd.comma {n:Nat} {c:Prop} [Decidable c] {ts:List Tok} {k:List Tok→PR} (hk:∀ ts',ts'.length≤ts.length→Bnd n (k ts')):Bnd n ((if c then Z0i Z0n ts else fun k=>k ts) k):=by
 by_cases h:c;·rw [Y5 h]; exact Bnd.want fun h'=>hk _ (by omega)
 ·rw [Y3 h]; exact hk _ (Y0 _)
theorem Bnd.end' {n:Nat} {t:Tree} {ts:List Tok} (h:t.many + 2 * ts.length≤n + 2):Bnd n (endT t ts):=Bnd.want fun h'=>Bnd.ok (by omega)
def Job.base:Job→Nat
 | .stmts _ acc=>Zn acc + 1
 | .params acc=>Zn acc + 1
 | .try_=>1
 | .binLoop _ x=>x.many
 | .postLoop x=>x.many
 | .args acc=>Zn acc + 1
 | .object acc=>Zn acc + 1
 | _=>0
theorem Z3z (l m:List Tree):Zn (l ++ m)=Zn l + Zn m:=by
 induction l with
 | nil=>simp [Zn]
 | cons x l ih=>simp only [List.cons_append,Zn,ih]; omega
theorem Z0q (k:Int) (s:ByteArray) (n:Int) (l:List Tree):(Tree.mk k s n l).many=Zn l + 1:=by simp [Tree.many]
theorem Z1a (x:Tree):Zn [x]=x.many:=by simp [Zn]
theorem Z30 (x y:Tree):Zn [x,y]=x.many + y.many:=by simp [Zn]
theorem Z8s (x y z:Tree):Zn [x,y,z]=x.many + y.many + z.many:=by simp [Zn]; omega
theorem Z1q:Zn []=0:=by simp [Zn]
theorem Zb5 (x:Tree):x.many=Zn x.kids + 1:=by cases x; simp [Tree.many,Tree.kids]
theorem Za7:∀ (f:Nat) (job:Job) (d:Nat) (ts:List Tok),Bnd (job.base + 2 * ts.length) (Z0 f job d ts):=by
 intro f;induction f with
 | zero=>intro job d ts; exact Bnd.none
 | succ f ih =>
   intro job d ts;have htl:=Z0e ts;have ih':∀ (job:Job) (d:Nat) (us:List Tok) {n:Nat},job.base + 2 * us.length≤n→Bnd n (Z0 f job d us):=fun job d us n h t vs hp=>Y4 (ih job d us t vs hp) h;cases job with
   | stmts kind acc =>
     rw [Z0];refine Bnd.ite (fun _=>Bnd.ok ?_) fun _=>Bnd.bind (Bnd.within (ih .stmt _ _)) fun t us h=>ih' _ _ _ ?_;·rw [Z0q]; simp only [Job.base]; omega
     ·simp only [Job.base,Z3z,Z1a] at *; omega
   | block body =>
     rw [Z0];refine Bnd.want fun h1=>Bnd.bind (ih (.stmts 6 []) _ _) fun t us h=>Bnd.want fun h2=>Bnd.ok ?_;simp only [Job.base,Z1q] at *;cases body;·simp only [Bool.false_eq_true,if_false]; rw [Z0q]; rw [Zb5] at h; omega
     ·simp only [if_true]; omega
   | func kind text =>
     rw [Z0];refine Bnd.want fun h1=>Bnd.bind (ih (.params []) _ _) fun t us h=>Bnd.want fun h2=>Bnd.bind (ih (.block true) _ _) fun t vs h3=>Bnd.ok ?_;simp only [Job.base,Z1q,Z0q,Z30] at *; omega
   | params acc =>
     rw [Z0];refine Bnd.ite (fun _=>Bnd.ok ?_) fun _=>Bnd.comma fun us h=>Bnd.ite (fun _=>Bnd.fail) fun _=>Bnd.name fun s h2=>ih' _ _ _ ?_;·rw [Z0q]; simp only [Job.base]; omega
     ·simp only [Job.base,Z3z,Z1a,Z0q,Z1q] at *; omega
   | around =>
     rw [Z0];refine Bnd.want fun h1=>Bnd.bind (ih .value _ _) fun t us h=>Bnd.want fun h2=>Bnd.ok ?_;simp only [Job.base] at *; omega
   | stmt =>
     rw [Z0];refine Bnd.ite (fun h=>ih' _ _ _ (by simp only [Job.base]; omega)) fun _=>?_;refine Bnd.ite (fun h=>Bnd.ok (by have:=Zw h; simp only [Job.base,Z0q,Z1q]; omega)) fun _=>?_;refine Bnd.ite (fun h=>Bnd.bind (ih _ _ _) fun t us h2=>Bnd.end' (by simp only [Job.base] at *; omega)) fun _=>?_;refine Bnd.ite (fun h=>Bnd.bind (ih _ _ _) fun t us h2=>Bnd.end' (by simp only [Job.base] at *; omega)) fun _=>?_;refine Bnd.ite (fun h=>Bnd.bind (ih _ _ _) fun t us h2=>Bnd.end' (by simp only [Job.base] at *; omega)) fun _=>?_
     refine Bnd.ite (fun h=>Bnd.name fun s h2=>ih' _ _ _ (by simp only [Job.base]; omega)) fun _=>?_;refine Bnd.ite (fun h=>?_) fun _=>?_
     ·have:=Zw h;refine Bnd.bind (ih .around _ _) fun t us h2=>Bnd.bind (Bnd.within (ih .stmt _ _)) fun t vs h3=>?_;have:=Z0e vs;exact Bnd.ite (fun h4=>Bnd.bind (Bnd.within (ih .stmt _ _)) fun t xs h5=>Bnd.ok (by simp only [Job.base,Z0q,Z8s] at *; omega)) fun _=>Bnd.ok (by simp only [Job.base,Z0q,Z30] at *; omega)
     refine Bnd.ite (fun h=>?_) fun _=>?_
     ·have:=Zw h;exact Bnd.bind (ih .around _ _) fun t us h2=>Bnd.bind (Bnd.within (ih .stmt _ _)) fun t vs h3=>Bnd.ok (by simp only [Job.base,Z0q,Z30] at *; omega)
     refine Bnd.ite (fun h=>?_) fun _=>?_
     ·have:=Zw h;exact Bnd.bind (ih .around _ _) fun t us h2=>Bnd.bind (Bnd.within (ih .stmt _ _)) fun t vs h3=>Bnd.ok (by simp only [Job.base,Z0q,Z30] at *; omega)
     refine Bnd.ite (fun h=>?_) fun _=>?_
     ·have:=Zw h;exact Bnd.ite (fun h1=>Bnd.end' (by simp only [Job.base,Z0q,Z1q] at *; omega)) fun _=>Bnd.bind (ih .value _ _) fun t us h2=>Bnd.end' (by simp only [Job.base,Z0q,Z1a] at *; omega)
     refine Bnd.ite (fun h=>?_) fun _=>?_
     ·have:=Zw h;exact Bnd.bind (ih .value _ _) fun t us h2=>Bnd.end' (by simp only [Job.base,Z0q,Z1a] at *; omega)
     refine Bnd.ite (fun h=>ih' _ _ _ (by have:=Zw h; simp only [Job.base]; omega)) fun _=>?_;exact Bnd.bind (ih .value _ _) fun t us h2=>Bnd.end' (by simp only [Job.base,Z0q,Z1a] at *; omega)
   | decl kind must =>
     rw [Z0];refine Bnd.name fun s h=>Bnd.ite (fun _=>Bnd.fail) fun _=>Bnd.ite (fun h2=>Bnd.bind (ih .value _ _) fun t us h3=>Bnd.ok ?_) fun _=>Bnd.ok ?_;·have:=Z0e ts.tail; simp only [Job.base,Z0q,Z1a] at *; omega
     ·simp only [Job.base,Z0q,Z1q] at *; omega
   | try_ =>
     rw [Z0];refine Bnd.bind (ih (.block false) _ _) fun b us h=>?_;have hk:∀ (l:List Tree) (vs:List Tok),Zn l + 2 * vs.length≤2 * ts.length→Bnd (1 + 2 * ts.length) (if isT Zs vs then Zz (Z0 f (.block false) d vs.tail) fun c ts=>okT (.mk 12 ByteArray.empty 0 (l ++ [.mk 14 ByteArray.empty 0 [c]])) ts else if l.length=1 then Z1k 3 vs else okT (.mk 12 ByteArray.empty 0 l) vs):=by
      intro l vs h2;refine Bnd.ite (fun h3=>Bnd.bind (ih (.block false) _ _) fun t xs h4=>Bnd.ok ?_) fun _=>Bnd.ite (fun _=>Bnd.fail) fun _=>Bnd.ok ?_;·have:=Zw h3; simp only [Job.base,Z0q,Z3z,Z1a] at *; omega
      ·rw [Z0q]; omega
     refine Bnd.ite (fun h1=>?_) fun _=>hk _ _ (by simp only [Job.base,Z1a] at *; omega);have:=Zw h1;refine Bnd.want fun h2=>Bnd.name fun s h3=>Bnd.want fun h4=>Bnd.bind (ih (.block false) _ _) fun c vs h5=>hk _ _ ?_;simp only [Job.base,Z0q,Z1a,Z30] at *; omega
   | value=>rw [Z0]; exact Bnd.within (ih' _ _ _ (by simp only [Job.base]; omega))
   | assign =>
     rw [Z0];refine Bnd.bind (ih (.bin 0) _ _) fun x us h=>Bnd.ite (fun h1=>Bnd.ite (fun _=>Bnd.bind (ih .value _ _) fun y vs h2=>Bnd.ok ?_) fun _=>Bnd.err) fun _=>Bnd.ok ?_;·have:=Zw h1; simp only [Job.base,Z0q,Z30] at *; omega
     ·simp only [Job.base] at *; omega
   | bin level =>
     rw [Z0];refine Bnd.ite (fun h=>ih' _ _ _ (by simp only [Job.base]; omega)) fun h=>Bnd.bind (ih (.bin (level + 1)) _ _) fun x us h=>ih' _ _ _ (by simp only [Job.base] at *; omega)
   | binLoop level x =>
     rw [Z0];refine Bnd.ite (fun _=>Bnd.ok (by simp only [Job.base]; omega)) fun h0=>Bnd.bind (ih (.bin (level + 1)) _ _) fun y us h=>ih' _ _ _ ?_;have:=Z4g h0; simp only [Job.base,Z0q,Z30] at *; omega
   | unary =>
     rw [Z0];refine Bnd.ite (fun _=>ih' _ _ _ (by simp only [Job.base]; omega)) fun h0=>Bnd.bind (Bnd.within (ih .unary _ _)) fun y us h=>Bnd.ok ?_;have:=Z5m h0; simp only [Job.base,Z0q,Z1a] at *; omega
   | postfix_ =>
     rw [Z0];exact Bnd.bind (ih .primary _ _) fun y us h=>ih' _ _ _ (by simp only [Job.base] at *; omega)
   | postLoop x =>
     rw [Z0];refine Bnd.ite (fun h=>Bnd.name fun s h2=>ih' _ _ _ ?_) fun _=>Bnd.ite (fun h=>?_) fun _=>Bnd.ok (by simp only [Job.base]; omega);·have:=Zw h; simp only [Job.base,Z0q,Z1a] at *; omega
     ·have:=Zw h;exact Bnd.bind (ih (.args [x]) _ _) fun y us h=>ih' _ _ _ (by simp only [Job.base,Z1a] at *; omega)
   | args acc =>
     rw [Z0];refine Bnd.ite (fun h=>Bnd.ok ?_) fun _=>Bnd.comma fun us h=>Bnd.ite (fun _=>Bnd.fail) fun _=>Bnd.bind (ih .value _ _) fun y vs h2=>ih' _ _ _ ?_;·rw [Z0q]; simp only [Job.base]; omega
     ·simp only [Job.base,Z3z,Z1a] at *; omega
   | primary =>
     rw [Z0];have:=Z0e ts.tail;refine Bnd.ite (fun h=>Bnd.ok ?_) fun _=>Bnd.ite (fun h=>Bnd.ok ?_) fun _=>Bnd.ite (fun h=>Bnd.ok ?_) fun _=>Bnd.ite (fun h=>Bnd.ok ?_) fun _=>?_;·have:=Z22 (ts:=ts) (by omega); simp only [Job.base,Z0q,Z1q] at *; omega
     ·have:=Z22 (ts:=ts) (by omega); simp only [Job.base,Z0q,Z1q] at *; omega
     ·have:=Z22 (ts:=ts) (by omega); simp only [Job.base,Z0q,Z1q] at *; omega
     ·have:ts.tail.length < ts.length:=by
       unfold Z1n at h;by_cases h1:isT Z2n ts=true;·exact Zw h1
       ·by_cases h2 : isT Z1s ts = true;·exact Zw h2
        ·by_cases h3 : isT Z34 ts = true;·exact Zw h3
         ·by_cases h4 : isT Z0v ts = true;·exact Zw h4
          ·simp [h1,h2,h3,h4] at h
      simp only [Job.base,Z0q,Z1q] at *; omega
     refine Bnd.ite (fun _=>ih' _ _ _ (by simp only [Job.base]; omega)) fun _=>?_;refine Bnd.ite (fun _=>Bnd.ite (fun _=>ih' _ _ _ (by simp only [Job.base]; omega)) fun _=>ih' _ _ _ (by simp only [Job.base]; omega)) fun _=>?_;exact Bnd.ite (fun h=>ih' _ _ _ (by have:=Zw h; simp only [Job.base,Z1q]; omega)) fun _=>Bnd.fail
   | object acc =>
     rw [Z0];refine Bnd.ite (fun h=>Bnd.ok ?_) fun _=>Bnd.comma fun us h=>Bnd.ite (fun _=>Bnd.fail) fun _=>Bnd.name fun s h1=>Bnd.want fun h2=>Bnd.bind (ih .value _ _) fun y vs h3=>ih' _ _ _ ?_;·rw [Z0q]; simp only [Job.base]; omega
     ·simp only [Job.base,Z3z,Z1a,Z0q] at *; omega
end Go.Proofs.YtjcgkdfeplbajaaGreatDoor
namespace Go.Proofs.YtjcgkdfeplbajaaGreatDoor
open Go Go.RowKit
set_option maxRecDepth 100000
set_option maxHeartbeats 20000000
structure RS where
 ts:List Tok
 f:Option (Int×Nat)
def Zdo (e:Int) (σ:RS):RS:=if σ.f.isNone then ⟨σ.ts,some (e,(hdT σ.ts).at')⟩ else σ
def advR (σ:RS):RS:=⟨σ.ts.tail,σ.f⟩
def Zfl (s:ByteArray) (σ:RS):RS:=if σ.f.isNone then (if isT s σ.ts then advR σ else Zdo 3 σ) else σ
def Zbo (σ:RS):ByteArray×RS:=if σ.f.isNone then (if (hdT σ.ts).kind=1 then ((hdT σ.ts).text,advR σ) else (ByteArray.empty,Zdo 3 σ)) else (ByteArray.empty,σ)
abbrev RR:=Option (Tree×RS)
def Zfr (p:RR) (k:Tree→RS→RR):RR:=match p with | none=>none | some (t,σ)=>k t σ
def Z6z (s:ByteArray):Int:=if Z1f s s_or then 25 else if Z1f s Z5a then 26 else if Z1f s Z3k then 27 else if Z1f s Z45 then 28 else if Z1f s Z5t then 29 else if Z1f s Z66 then 30 else if Z1f s Z68 then 31 else 0
def Zce (s:ByteArray):Int:=if Z1f s Z2n then 19 else if Z1f s Z1s then 20 else if Z1f s Z34 then 21 else if Z1f s Z0v then 22 else 0
def Zdt (r:RR) (e:Int×Nat):Prop:=∃ t ts,r=some (t,⟨ts,some e⟩)
def Zf2 (t:Tok):Prop:=(t.kind=2→Z6z t.text=0)∧(t.kind=5→Zce t.text=0)
def Z51 (ts:List Tok):Prop:=∀ t∈ts,Zf2 t
theorem Z51.tail {ts:List Tok} (h:Z51 ts):Z51 ts.tail:=fun t ht=>h t (List.mem_of_mem_tail ht)
theorem Z51.hd {ts:List Tok} (h:Z51 ts):Zf2 (hdT ts):=by
 cases ts with
 | nil=>exact ⟨fun h=>by simp [hdT] at h,fun h=>by simp [hdT] at h⟩
 | cons t l=>exact h t (by simp)
def Agree (p:PR) (q:RR):Prop:=
 match p with
 | none=>True
 | some (.ok (t,ts))=>q=some (t,⟨ts,none⟩)∧Z51 ts
 | some (.error e)=>Zdt q e
theorem Agree.ok {t:Tree} {ts:List Tok} (h:Z51 ts):Agree (okT t ts) (some (t,⟨ts,none⟩)):=⟨rfl,h⟩
theorem Agree.fail {k:Int} {t:Tree} {ts:List Tok}:Agree (Z1k k ts) (some (t,Zdo k ⟨ts,none⟩)):=⟨_,_,rfl⟩
theorem Agree.bind {p:PR} {q:RR} {k:Tree→List Tok→PR} {m:Tree→RS→RR} (h:Agree p q) (hk:∀ t ts,Z51 ts→Agree (k t ts) (m t ⟨ts,none⟩)) (he:∀ t ts e,Zdt (m t ⟨ts,some e⟩) e) :
 Agree (Zz p k) (Zfr q m):=by
 cases p with
 | none=>trivial
 | some r =>
   cases r with
   | error e=>obtain ⟨t,ts,rfl⟩:=h; exact he t ts e
   | ok x=>obtain ⟨t,ts⟩:=x; obtain ⟨rfl,hg⟩:=h; exact hk t ts hg
theorem Agree.want {s:ByteArray} {ts:List Tok} {k:List Tok→PR} {m:RS→RR} (hg:Z51 ts) (hk:Z51 ts.tail→Agree (k ts.tail) (m ⟨ts.tail,none⟩)) (he:∀ ts e,Zdt (m ⟨ts,some e⟩) e) :
 Agree (Z0i s ts k) (m (Zfl s ⟨ts,none⟩)):=by
 unfold Z0i Zfl;by_cases h:isT s ts=true;·simp only [h,Option.isNone_none,if_true]; exact hk hg.tail
 ·simp only [h,Option.isNone_none,if_true]; exact he _ _
theorem Agree.name {ts:List Tok} {k:ByteArray→List Tok→PR} {m:ByteArray→RS→RR} (hg:Z51 ts) (hk:∀ s,Z51 ts.tail→Agree (k s ts.tail) (m s ⟨ts.tail,none⟩)) (he:∀ s ts e,Zdt (m s ⟨ts,some e⟩) e) :
 Agree (Z1m ts k) (m (Zbo ⟨ts,none⟩).1 (Zbo ⟨ts,none⟩).2):=by
 unfold Z1m Zbo;by_cases h:(hdT ts).kind=1;·simp only [h,Option.isNone_none,if_true]; exact hk _ hg.tail
 ·simp only [h,Option.isNone_none,if_true,if_false]; exact he _ _ _
theorem Agree.ite {c:Prop} [Decidable c] {c':Bool} {p1 p2:PR} {q1 q2:RR} (h:c↔c'=true) (h1:c→Agree p1 q1) (h2:¬ c→Agree p2 q2):Agree (if c then p1 else p2) (if c'=true then q1 else q2):=by
 by_cases hc:c;·rw [Y5 hc,Y5 (h.1 hc)]; exact h1 hc
 ·rw [Y3 hc,Y3 (fun e=>hc (h.2 e))]; exact h2 hc
theorem Agree.within {d:Nat} {ts:List Tok} {p:PR} {q:RR} {t:Tree} (h:d + 1≤30→Agree p q):Agree (Z00 d ts p) (if 30 < d + 1 then some (t,Zdo 4 ⟨ts,none⟩) else q):=by
 unfold Z00;by_cases hd:30 < d + 1;·rw [Y5 hd,Y5 hd]; exact Agree.fail
 ·rw [Y3 hd,Y3 hd]; exact h (by omega)
end Go.Proofs.YtjcgkdfeplbajaaGreatDoor
namespace Go.Proofs.YtjcgkdfeplbajaaGreatDoor
open Go Go.RowKit
set_option maxRecDepth 100000
set_option maxHeartbeats 20000000
set_option linter.unusedVariables false
theorem Z6f {text:ByteArray} {j k:Nat} {t:Tok} (h:Z0w text j=.ok (t,k)):t.kind≠6∧(t.kind=2→Z29 t.text=true)∧(t.kind=5→t.text=text.extract j (j + Z02 text j)∧Z0p (Z9 text j)=false):=by
 unfold Z0w at h;simp only at h;split at h
 ·rename_i hl;split at h
  ·rename_i hw;simp only [Except.ok.injEq,Prod.mk.injEq] at h;obtain ⟨rfl,_⟩:=h;exact ⟨by simp,fun _=>hw,(fun h=>by simp at h)⟩
  ·split at h;·cases h
   ·simp only [Except.ok.injEq,Prod.mk.injEq] at h;obtain ⟨rfl,_⟩:=h;exact ⟨by simp,(fun h=>by simp at h),(fun h=>by simp at h)⟩
 ·rename_i hl;split at h
  ·split at h;·cases h
   ·split at h;·cases h
    ·simp only [Except.ok.injEq,Prod.mk.injEq] at h;obtain ⟨rfl,_⟩:=h;exact ⟨by simp,(fun h=>by simp at h),(fun h=>by simp at h)⟩
  ·split at h
   ·split at h;·cases h
    ·split at h;·cases h
     ·simp only [Except.ok.injEq,Prod.mk.injEq] at h;obtain ⟨rfl,_⟩:=h;exact ⟨by simp,(fun h=>by simp at h),(fun h=>by simp at h)⟩
   ·split at h;·cases h
    ·simp only [Except.ok.injEq,Prod.mk.injEq] at h;obtain ⟨rfl,_⟩:=h;exact ⟨by simp,(fun h=>by simp at h),fun _=>⟨rfl,by simpa using hl⟩⟩
theorem Zcg {s:ByteArray} (h:Z29 s=true):Z6z s=0:=by
 refine Decidable.byContradiction fun hs=>?_;have key:s=s_or∨s=Z5a∨s=Z3k∨s=Z45∨s=Z5t∨s=Z66∨s=Z68:=by
  unfold Z6z Z1f at hs;simp only [decide_eq_true_eq] at hs;by_cases h1:s=s_or;·exact .inl h1
  by_cases h2:s=Z5a;·exact .inr (.inl h2)
  by_cases h3:s=Z3k;·exact .inr (.inr (.inl h3))
  by_cases h4:s=Z45;·exact .inr (.inr (.inr (.inl h4)))
  by_cases h5:s=Z5t;·exact .inr (.inr (.inr (.inr (.inl h5))))
  by_cases h6:s=Z66;·exact .inr (.inr (.inr (.inr (.inr (.inl h6)))))
  by_cases h7:s=Z68;·exact .inr (.inr (.inr (.inr (.inr (.inr h7)))))
  simp [h1,h2,h3,h4,h5,h6,h7] at hs
 have no:∀ x,Z29 x=false→s=x→False:=fun x h1 h2=>by rw [h2,h1] at h; cases h
 rcases key with e | e | e | e | e | e | e;all_goals exact no _ (by kernel_rfl) e
theorem Z7x {s:ByteArray} (h:Zce s≠0):Z0p (Z9 s 0)=true∧0 < s.size:=by
 unfold Zce at h;by_cases h1:Z1f s Z2n=true
 ·have : s = Z2n := by simpa [Z1f] using h1
  subst this; exact ⟨by kernel_rfl,by decide⟩
 by_cases h2:Z1f s Z1s=true
 ·have : s = Z1s := by simpa [Z1f] using h2
  subst this; exact ⟨by kernel_rfl,by decide⟩
 by_cases h3:Z1f s Z34=true
 ·have : s = Z34 := by simpa [Z1f] using h3
  subst this; exact ⟨by kernel_rfl,by decide⟩
 by_cases h4:Z1f s Z0v=true
 ·have : s = Z0v := by simpa [Z1f] using h4
  subst this; exact ⟨by kernel_rfl,by decide⟩
 simp [h1,h2,h3,h4] at h
theorem Za6 {text:ByteArray} {j k:Nat} {t:Tok} (hj:j < text.size) (h:Z0w text j=.ok (t,k)):Zf2 t:=by
 obtain ⟨_,h2,h5⟩:=Z6f h;refine ⟨fun hk=>Zcg (h2 hk),fun hk=>?_⟩;obtain ⟨ht,hl⟩:=h5 hk;refine Decidable.byContradiction fun hc=>?_;obtain ⟨hb,hs⟩:=Z7x hc;have hsz:0 < Z02 text j:=by
  unfold Z02;split;·omega
  ·split;·omega
   ·split <;> omega
 have hp:Z9 t.text 0=Z9 text j:=by
  rw [ht];have hle:(text.extract j (j + Z02 text j)).size≤Z02 text j:=by rw [ByteArray.size_extract]; omega
  by_cases hk:j + Z02 text j≤text.size;·rw [Zo text (by omega) hk]; rfl
  ·have e:text.extract j (j + Z02 text j)=text.extract j text.size:=by
    apply ByteArray.ext;simp only [ByteArray.data_extract];apply Array.ext
    ·simp only [Array.size_extract];have:text.size=text.data.size:=rfl;omega
    ·intro i h1 h2; simp only [Array.getElem_extract]
   rw [e,Zo text (by omega) (Y0 _)]; rfl
 rw [hp,hl] at hb;cases hb
theorem Z5e {text:ByteArray}:∀ (r:List Tok) (i:Nat),i≤text.size→Z4a text i r→(∃ l e,r=l ++ [e]∧e.kind=6∧∀ t∈l,t.kind≠6)∧r.length + i≤text.size + 1∧Z51 r:=by
 intro r;induction r with
 | nil=>intro i _ h; exact h.elim
 | cons t r ih =>
   intro i hi h;cases r with
   | nil =>
     obtain ⟨h1,h2⟩:=h;refine ⟨⟨[],t,rfl,by rw [h2],fun t ht=>by cases ht⟩,by simp; omega,fun x hx=>?_⟩;simp only [List.mem_singleton] at hx;subst hx;rw [h2];exact ⟨fun h=>by simp at h,fun h=>by simp at h⟩
   | cons u r =>
     obtain ⟨k,h1,h2,h3⟩:=h;obtain ⟨c1,c2,_⟩:=Z1e text h1 h2;obtain ⟨s1,_,_,_⟩:=Z0b Z05 text (text.size - i) i (Y0 _) hi;obtain ⟨⟨l,e,h4,h5,h6⟩,h7,h8⟩:=ih k c2 h3;refine ⟨⟨t :: l,e,by rw [h4]; rfl,h5,fun x hx=>?_⟩,?_,fun x hx=>?_⟩
     ·rcases List.mem_cons.1 hx with rfl | hx;·exact (Z6f h2).1
      ·exact h6 x hx
     ·simp only [List.length_cons] at h7 ⊢; omega
     ·rcases List.mem_cons.1 hx with rfl | hx;·exact Za6 h1 h2
      ·exact h8 x hx
end Go.Proofs.YtjcgkdfeplbajaaGreatDoor
