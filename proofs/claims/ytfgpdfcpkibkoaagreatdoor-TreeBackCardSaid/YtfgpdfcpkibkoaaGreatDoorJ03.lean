/- Package tree: what reading computes; it takes tokens, and ends. -/
import Derived.Test.YtfgpdfcpkibkoaaGreatDoorJ02
namespace Go.Proofs.YtfgpdfcpkibkoaaGreatDoor
open Go Go.RowKit
set_option maxRecDepth 100000
set_option maxHeartbeats 20000000
inductive Tree
 | mk (kind:Int) (text:ByteArray) (n:Int) (kids:List Tree)
def Tree.kind:Tree→Int | .mk k _ _ _=>k
def Tree.text:Tree→ByteArray | .mk _ t _ _=>t
def Tree.n:Tree→Int | .mk _ _ n _=>n
def Tree.kids:Tree→List Tree | .mk _ _ _ l=>l
abbrev PR:=Option (Except (Int×Nat) (Tree×List Tok))
def hdT (ts:List Tok):Tok:=ts.headD ⟨6,ByteArray.empty,0,0⟩
def isT (s:ByteArray) (ts:List Tok):Bool:=(decide ((hdT ts).kind=5) || decide ((hdT ts).kind=2)) && Z0h (hdT ts).text s
def Z1v (e:Int) (ts:List Tok):PR:=some (.error (e,(hdT ts).at'))
def okT (t:Tree) (ts:List Tok):PR:=some (.ok (t,ts))
def Z0s (s:ByteArray) (ts:List Tok) (k:List Tok→PR):PR:=if isT s ts then k ts.tail else Z1v 3 ts
def Z1w (ts:List Tok) (k:ByteArray→List Tok→PR):PR:=if (hdT ts).kind=1 then k (hdT ts).text ts.tail else Z1v 3 ts
def Z02 (p:PR) (k:Tree→List Tok→PR):PR:=match p with | none=>none | some (.error e)=>some (.error e) | some (.ok (t,ts))=>k t ts
def Z0u:ByteArray:=⟨#[123]⟩
def Zw:ByteArray:=⟨#[125]⟩
def Z0z:ByteArray:=⟨#[40]⟩
def Z0y:ByteArray:=⟨#[41]⟩
def Z1l:ByteArray:=⟨#[59]⟩
def Z0p:ByteArray:=⟨#[44]⟩
def Z36:ByteArray:=⟨#[58]⟩
def Z6w:ByteArray:=⟨#[46]⟩
def s_eq:ByteArray:=⟨#[61]⟩
def Z5y:ByteArray:=⟨#[118,97,114]⟩
def Z5u:ByteArray:=⟨#[108,101,116]⟩
def Z2j:ByteArray:=⟨#[99,111,110,115,116]⟩
def Z0c:ByteArray:=⟨#[102,117,110,99,116,105,111,110]⟩
def s_if:ByteArray:=⟨#[105,102]⟩
def Z1z:ByteArray:=⟨#[101,108,115,101]⟩
def Z2h:ByteArray:=⟨#[119,104,105,108,101]⟩
def Z3s:ByteArray:=⟨#[119,105,116,104]⟩
def Z1s:ByteArray:=⟨#[114,101,116,117,114,110]⟩
def Z2g:ByteArray:=⟨#[116,104,114,111,119]⟩
def Z4p:ByteArray:=⟨#[116,114,121]⟩
def Z1i:ByteArray:=⟨#[99,97,116,99,104]⟩
def Zt:ByteArray:=⟨#[102,105,110,97,108,108,121]⟩
def Z4a:ByteArray:=⟨#[33]⟩
def Z14:ByteArray:=⟨#[116,121,112,101,111,102]⟩
def Z18:ByteArray:=⟨#[100,101,108,101,116,101]⟩
def Z2n:ByteArray:=⟨#[116,114,117,101]⟩
def Z1u:ByteArray:=⟨#[102,97,108,115,101]⟩
def Z33:ByteArray:=⟨#[110,117,108,108]⟩
def Z0w:ByteArray:=⟨#[117,110,100,101,102,105,110,101,100]⟩
def s_or:ByteArray:=⟨#[124,124]⟩
def Z43:ByteArray:=⟨#[38,38]⟩
def Z2c:ByteArray:=⟨#[61,61,61]⟩
def Z3d:ByteArray:=⟨#[60]⟩
def Z51:ByteArray:=⟨#[43]⟩
def Z58:ByteArray:=⟨#[45]⟩
def Z5h:ByteArray:=⟨#[42]⟩
def Z0m:ByteArray:=⟨#[117,115,101,32,115,116,114,105,99,116]⟩
def Z4c:ByteArray:=⟨#[115,116,114,105,99,116]⟩
def Z2f (l:List Tree):Bool:=
 match l with
 | .mk k _ _ (x :: _) :: _=>decide (k=15) && decide (x.kind=18) && Z0h x.text Z0m
 | _=>false
def Z0x (level:Nat) (ts:List Tok):Int:=
 match level with
 | 0=>if isT s_or ts then 25 else 0
 | 1=>if isT Z43 ts then 26 else 0
 | 2=>if isT Z2c ts then 27 else 0
 | 3=>if isT Z3d ts then 28 else 0
 | 4=>if isT Z51 ts then 29 else if isT Z58 ts then 30 else 0
 | 5=>if isT Z5h ts then 31 else 0
 | _=>0
def Z19 (ts:List Tok):Int:=if isT Z4a ts then 32 else if isT Z14 ts then 33 else if isT Z18 ts then 34 else 0
def Z1r (ts:List Tok):Int:=if isT Z2n ts then 19 else if isT Z1u ts then 20 else if isT Z33 ts then 21 else if isT Z0w ts then 22 else 0
inductive Job
 | stmts (kind:Int) (acc:List Tree)
 | block (body:Bool)
 | func (kind:Int) (text:ByteArray)
 | params (acc:List Tree)
 | around
 | stmt
 | decl (kind:Int) (must:Bool)
 | try_
 | value
 | assign
 | bin (level:Nat)
 | binLoop (level:Nat) (x:Tree)
 | unary
 | postfix_
 | postLoop (x:Tree)
 | args (acc:List Tree)
 | primary
 | object (acc:List Tree)
def endT (n:Tree) (ts:List Tok):PR:=Z0s Z1l ts fun ts=>okT n ts
def Z0i (d:Nat) (ts:List Tok) (p:PR):PR:=if 30 < d + 1 then Z1v 4 ts else p
def Z0:Nat→Job→Nat→List Tok→PR
 | 0,_,_,_=>none
 | f + 1, .stmts kind acc, d, ts =>
   if (if kind=1 then decide ((hdT ts).kind=6) else isT Zw ts) then okT (.mk kind (if Z2f acc then Z4c else ByteArray.empty) 0 acc) ts
   else Z02 (Z0i d ts (Z0 f .stmt (d + 1) ts)) fun x ts=>Z0 f (.stmts kind (acc ++ [x])) d ts
 | f + 1, .block body, d, ts =>
   Z0s Z0u ts fun ts=>Z02 (Z0 f (.stmts 6 []) d ts) fun x ts=>Z0s Zw ts fun ts=>okT (if body then x else .mk 6 ByteArray.empty 0 x.kids) ts
 | f + 1, .func kind text, d, ts =>
   Z0s Z0z ts fun ts=>Z02 (Z0 f (.params []) d ts) fun p ts=>Z0s Z0y ts fun ts=>Z02 (Z0 f (.block true) d ts) fun b ts=>okT (.mk kind text 0 [p,b]) ts
 | f + 1, .params acc, d, ts =>
   if isT Z0y ts then okT (.mk 40 ByteArray.empty 0 acc) ts
   else (if 0 < acc.length then Z0s Z0p ts else fun k=>k ts) fun ts=>
    if acc.length=8 then Z1v 4 ts else Z1w ts fun s ts=>Z0 f (.params (acc ++ [.mk 23 s 0 []])) d ts
 | f + 1, .around, d, ts =>
   Z0s Z0z ts fun ts=>Z02 (Z0 f .value d ts) fun x ts=>Z0s Z0y ts fun ts=>okT x ts
 | f + 1, .stmt, d, ts =>
   if isT Z0u ts then Z0 f (.block false) d ts
   else if isT Z1l ts then okT (.mk 16 ByteArray.empty 0 []) ts.tail
   else if isT Z5y ts then Z02 (Z0 f (.decl 2 false) d ts.tail) endT
   else if isT Z5u ts then Z02 (Z0 f (.decl 3 false) d ts.tail) endT
   else if isT Z2j ts then Z02 (Z0 f (.decl 4 true) d ts.tail) endT
   else if isT Z0c ts then Z1w ts.tail fun s ts=>Z0 f (.func 5 s) d ts
   else if isT s_if ts then
    Z02 (Z0 f .around d ts.tail) fun x ts=>Z02 (Z0i d ts (Z0 f .stmt (d + 1) ts)) fun y ts=>
     if isT Z1z ts then Z02 (Z0i d ts.tail (Z0 f .stmt (d + 1) ts.tail)) fun z ts=>okT (.mk 7 ByteArray.empty 0 [x,y,z]) ts
     else okT (.mk 7 ByteArray.empty 0 [x,y]) ts
   else if isT Z2h ts then
    Z02 (Z0 f .around d ts.tail) fun x ts=>Z02 (Z0i d ts (Z0 f .stmt (d + 1) ts)) fun y ts=>okT (.mk 8 ByteArray.empty 0 [x,y]) ts
   else if isT Z3s ts then
    Z02 (Z0 f .around d ts.tail) fun x ts=>Z02 (Z0i d ts (Z0 f .stmt (d + 1) ts)) fun y ts=>okT (.mk 9 ByteArray.empty 0 [x,y]) ts
   else if isT Z1s ts then
    if isT Z1l ts.tail then endT (.mk 10 ByteArray.empty 0 []) ts.tail
    else Z02 (Z0 f .value d ts.tail) fun x ts=>endT (.mk 10 ByteArray.empty 0 [x]) ts
   else if isT Z2g ts then Z02 (Z0 f .value d ts.tail) fun x ts=>endT (.mk 11 ByteArray.empty 0 [x]) ts
   else if isT Z4p ts then Z0 f .try_ d ts.tail
   else Z02 (Z0 f .value d ts) fun x ts=>endT (.mk 15 ByteArray.empty 0 [x]) ts
 | f + 1, .decl kind must, d, ts =>
   Z1w ts fun s ts=>
    if must && !isT s_eq ts then Z1v 3 ts
    else if isT s_eq ts then Z02 (Z0 f .value d ts.tail) fun x ts=>okT (.mk kind s 0 [x]) ts
    else okT (.mk kind s 0 []) ts
 | f + 1, .try_, d, ts =>
   Z02 (Z0 f (.block false) d ts) fun b ts=>
    (fun (k : List Tree → List Tok → PR) =>
     if isT Z1i ts then Z0s Z0z ts.tail fun ts=>Z1w ts fun s ts=>Z0s Z0y ts fun ts=>Z02 (Z0 f (.block false) d ts) fun c ts=>k [b,.mk 13 s 0 [c]] ts
     else k [b] ts) fun l ts=>
    if isT Zt ts then Z02 (Z0 f (.block false) d ts.tail) fun c ts=>okT (.mk 12 ByteArray.empty 0 (l ++ [.mk 14 ByteArray.empty 0 [c]])) ts
    else if l.length=1 then Z1v 3 ts else okT (.mk 12 ByteArray.empty 0 l) ts
 | f + 1,.value,d,ts=>Z0i d ts (Z0 f .assign (d + 1) ts)
 | f + 1, .assign, d, ts =>
   Z02 (Z0 f (.bin 0) d ts) fun x ts'=>
    if isT s_eq ts' then
     if x.kind=23∨x.kind=36 then Z02 (Z0 f .value d ts'.tail) fun y ts=>okT (.mk 24 ByteArray.empty 0 [x,y]) ts
     else some (.error (1,(hdT ts).at'))
    else okT x ts'
 | f + 1, .bin level, d, ts =>
   if 6≤level then Z0 f .unary d ts
   else Z02 (Z0 f (.bin (level + 1)) d ts) fun x ts=>Z0 f (.binLoop level x) d ts
 | f + 1, .binLoop level x, d, ts =>
   if Z0x level ts=0 then okT x ts
   else Z02 (Z0 f (.bin (level + 1)) d ts.tail) fun y ts'=>Z0 f (.binLoop level (.mk (Z0x level ts) ByteArray.empty 0 [x,y])) d ts'
 | f + 1, .unary, d, ts =>
   if Z19 ts=0 then Z0 f .postfix_ d ts
   else Z02 (Z0i d ts.tail (Z0 f .unary (d + 1) ts.tail)) fun x ts'=>okT (.mk (Z19 ts) ByteArray.empty 0 [x]) ts'
 | f + 1,.postfix_,d,ts=>Z02 (Z0 f .primary d ts) fun x ts=>Z0 f (.postLoop x) d ts
 | f + 1, .postLoop x, d, ts =>
   if isT Z6w ts then Z1w ts.tail fun s ts=>Z0 f (.postLoop (.mk 36 s 0 [x])) d ts
   else if isT Z0z ts then Z02 (Z0 f (.args [x]) d ts.tail) fun n ts=>Z0 f (.postLoop n) d ts
   else okT x ts
 | f + 1, .args acc, d, ts =>
   if isT Z0y ts then okT (.mk 35 ByteArray.empty 0 acc) ts.tail
   else (if 1 < acc.length then Z0s Z0p ts else fun k=>k ts) fun ts=>
    if 8 < acc.length then Z1v 4 ts else Z02 (Z0 f .value d ts) fun v ts=>Z0 f (.args (acc ++ [v])) d ts
 | f + 1, .primary, d, ts =>
   if (hdT ts).kind=1 then okT (.mk 23 (hdT ts).text 0 []) ts.tail
   else if (hdT ts).kind=3 then okT (.mk 17 ByteArray.empty (hdT ts).n []) ts.tail
   else if (hdT ts).kind=4 then okT (.mk 18 (hdT ts).text 0 []) ts.tail
   else if Z1r ts≠0 then okT (.mk (Z1r ts) ByteArray.empty 0 []) ts.tail
   else if isT Z0z ts then Z0 f .around d ts
   else if isT Z0c ts then
    if (hdT ts.tail).kind=1 then Z0 f (.func 37 (hdT ts.tail).text) d ts.tail.tail
    else Z0 f (.func 37 ByteArray.empty) d ts.tail
   else if isT Z0u ts then Z0 f (.object []) d ts.tail
   else Z1v 3 ts
 | f + 1, .object acc, d, ts =>
   if isT Zw ts then okT (.mk 38 ByteArray.empty 0 acc) ts.tail
   else (if 0 < acc.length then Z0s Z0p ts else fun k=>k ts) fun ts=>
    if acc.length=8 then Z1v 4 ts
    else Z1w ts fun s ts=>Z0s Z36 ts fun ts=>Z02 (Z0 f .value d ts) fun v ts=>Z0 f (.object (acc ++ [.mk 39 s 0 [v]])) d ts
mutual
def Tree.many:Tree→Nat
 | .mk _ _ _ l=>Zq l + 1
def Zq:List Tree→Nat
 | []=>0
 | t :: l=>t.many + Zq l
end
theorem Zx {s:ByteArray} {ts:List Tok} (h:isT s ts=true):ts.tail.length < ts.length:=by
 cases ts with
 | nil=>simp [isT,hdT] at h
 | cons t l=>simp
theorem Z0g (ts:List Tok):ts.tail.length≤ts.length:=by cases ts <;> simp
theorem Z1y {ts:List Tok} (h:(hdT ts).kind≠6):ts.tail.length < ts.length:=by
 cases ts with
 | nil=>simp [hdT] at h
 | cons t l=>simp
def Leaves (n:Nat) (p:PR):Prop:=∀ t ts,p=some (.ok (t,ts))→ts.length < n
theorem Leaves.fail {n:Nat} {e:Int} {ts:List Tok}:Leaves n (Z1v e ts):=by intro t ts' h; cases h
theorem Leaves.none {n:Nat}:Leaves n none:=by intro t ts' h; cases h
theorem Leaves.err {n:Nat} {e:Int×Nat}:Leaves n (some (.error e)):=by intro t ts' h; cases h
theorem Leaves.ok {n:Nat} {t:Tree} {ts:List Tok} (h:ts.length < n):Leaves n (okT t ts):=by
 intro t' ts' h';simp only [okT,Option.some.injEq,Except.ok.injEq,Prod.mk.injEq] at h';rw [← h'.2]; exact h
theorem Leaves.bind {n m:Nat} {p:PR} {k:Tree→List Tok→PR} (hp:Leaves m p) (hk:∀ t ts,ts.length < m→Leaves n (k t ts)):Leaves n (Z02 p k):=by
 cases p with
 | none=>exact Leaves.none
 | some r =>
   cases r with
   | error e=>exact Leaves.err
   | ok x=>obtain ⟨t,ts⟩:=x; exact hk t ts (hp t ts rfl)
theorem Leaves.want {n:Nat} {s:ByteArray} {ts:List Tok} {k:List Tok→PR} (hk:ts.tail.length < ts.length→Leaves n (k ts.tail)):Leaves n (Z0s s ts k):=by
 unfold Z0s;by_cases h:isT s ts=true;·rw [Y5 h]; exact hk (Zx h)
 ·rw [Y3 h]; exact Leaves.fail
theorem Leaves.name {n:Nat} {ts:List Tok} {k:ByteArray→List Tok→PR} (hk:∀ s,ts.tail.length < ts.length→Leaves n (k s ts.tail)):Leaves n (Z1w ts k):=by
 unfold Z1w;by_cases h:(hdT ts).kind=1;·rw [Y5 h]; exact hk _ (Z1y (by omega))
 ·rw [Y3 h]; exact Leaves.fail
theorem Leaves.within {n d:Nat} {ts:List Tok} {p:PR} (h:Leaves n p):Leaves n (Z0i d ts p):=by
 unfold Z0i;by_cases h':30 < d + 1;·rw [Y5 h']; exact Leaves.fail
 ·rw [Y3 h']; exact h
theorem Leaves.ite {n:Nat} {c:Prop} [Decidable c] {p q:PR} (hp:c→Leaves n p) (hq:¬ c→Leaves n q):Leaves n (if c then p else q):=by
 by_cases h:c;·rw [Y5 h]; exact hp h
 ·rw [Y3 h]; exact hq h
theorem Leaves.comma {n:Nat} {c:Prop} [Decidable c] {ts:List Tok} {k:List Tok→PR} (hk:∀ ts',ts'.length≤ts.length→Leaves n (k ts')):Leaves n ((if c then Z0s Z0p ts else fun k=>k ts) k):=by
 by_cases h:c;·rw [Y5 h]; exact Leaves.want fun h'=>hk _ (by omega)
 ·rw [Y3 h]; exact hk _ (Y0 _)
def Job.least:Job→Nat
 | .stmts ..=>1
 | .params ..=>1
 | .binLoop ..=>1
 | .postLoop ..=>1
 | _=>0
theorem Z16:∀ (f:Nat) (job:Job) (d:Nat) (ts:List Tok),Leaves (ts.length + job.least) (Z0 f job d ts):=by
 intro f;induction f with
 | zero=>intro job d ts; unfold Z0; exact Leaves.none
 | succ f ih =>
   intro job d ts;have ih0:∀ {n:Nat} {job:Job} (d:Nat) (ts:List Tok),ts.length + job.least≤n→Leaves n (Z0 f job d ts):=fun d ts h t ts' e=>Y7 (ih _ d ts t ts' e) h;cases job with
   | stmts kind acc =>
     unfold Z0;refine Leaves.ite (fun _=>Leaves.ok (by simp [Job.least])) fun _=>?_;exact Leaves.bind (Leaves.within (ih .stmt _ _)) fun t ts' h=>ih0 _ _ (by simp only [Job.least] at *; omega)
   | block body =>
     unfold Z0;refine Leaves.want fun h=>?_;refine Leaves.bind (ih (.stmts 6 []) _ _) fun t ts' h'=>?_;refine Leaves.want fun h''=>Leaves.ok ?_;simp only [Job.least] at *; omega
   | func kind text =>
     unfold Z0;refine Leaves.want fun h=>Leaves.bind (ih (.params []) _ _) fun t ts' h'=>Leaves.want fun h2=>Leaves.bind (ih (.block true) _ _) fun t ts' h3=>Leaves.ok ?_;simp only [Job.least] at *; omega
   | params acc =>
     unfold Z0;refine Leaves.ite (fun _=>Leaves.ok (by simp [Job.least])) fun _=>?_;refine Leaves.comma fun ts' h=>Leaves.ite (fun _=>Leaves.fail) fun _=>Leaves.name fun s h2=>ih0 _ _ ?_;simp only [Job.least] at *; omega
   | around =>
     unfold Z0;refine Leaves.want fun h=>Leaves.bind (ih .value _ _) fun t ts' h'=>Leaves.want fun h2=>Leaves.ok ?_;simp only [Job.least] at *; omega
   | stmt =>
     unfold Z0;have hend:∀ (n:Tree) (us:List Tok),us.length≤ts.length→Leaves (ts.length + Job.stmt.least) (endT n us):=fun n us h=>Leaves.want fun h2=>Leaves.ok (by simp only [Job.least] at *; omega);have htl:=Z0g ts;refine Leaves.ite (fun h=>ih0 _ _ (by simp [Job.least])) fun _=>?_;refine Leaves.ite (fun h=>Leaves.ok (by have:=Zx h; simp only [Job.least] at *; omega)) fun _=>?_;refine Leaves.ite (fun h=>Leaves.bind (ih (.decl 2 false) _ _) fun t us h2=>hend _ _ (by simp only [Job.least] at *; omega)) fun _=>?_
     refine Leaves.ite (fun h=>Leaves.bind (ih (.decl 3 false) _ _) fun t us h2=>hend _ _ (by simp only [Job.least] at *; omega)) fun _=>?_;refine Leaves.ite (fun h=>Leaves.bind (ih (.decl 4 true) _ _) fun t us h2=>hend _ _ (by simp only [Job.least] at *; omega)) fun _=>?_;refine Leaves.ite (fun h=>Leaves.name fun s h2=>ih0 _ _ (by simp only [Job.least] at *; omega)) fun _=>?_
     refine Leaves.ite (fun h=>Leaves.bind (ih .around _ _) fun t us h2=>Leaves.bind (Leaves.within (ih .stmt _ _)) fun t vs h3=>Leaves.ite (fun h4=>Leaves.bind (Leaves.within (ih .stmt _ _)) fun t xs h5=>Leaves.ok (by have:=Z0g vs; simp only [Job.least] at *; omega)) (fun _=>Leaves.ok (by simp only [Job.least] at *; omega))) fun _=>?_;refine Leaves.ite (fun h=>Leaves.bind (ih .around _ _) fun t us h2=>Leaves.bind (Leaves.within (ih .stmt _ _)) fun t vs h3=>Leaves.ok (by simp only [Job.least] at *; omega)) fun _=>?_
     refine Leaves.ite (fun h=>Leaves.bind (ih .around _ _) fun t us h2=>Leaves.bind (Leaves.within (ih .stmt _ _)) fun t vs h3=>Leaves.ok (by simp only [Job.least] at *; omega)) fun _=>?_;refine Leaves.ite (fun h=>Leaves.ite (fun h1=>hend _ _ htl) (fun _=>Leaves.bind (ih .value _ _) fun t us h2=>hend _ _ (by simp only [Job.least] at *; omega))) fun _=>?_;refine Leaves.ite (fun h=>Leaves.bind (ih .value _ _) fun t us h2=>hend _ _ (by simp only [Job.least] at *; omega)) fun _=>?_;refine Leaves.ite (fun h=>ih0 _ _ (by simp only [Job.least] at *; omega)) fun _=>?_
     exact Leaves.bind (ih .value _ _) fun t us h2=>hend _ _ (by simp only [Job.least] at *; omega)
   | decl kind must =>
     unfold Z0;refine Leaves.name fun s h=>Leaves.ite (fun _=>Leaves.fail) fun _=>Leaves.ite (fun h2=>Leaves.bind (ih .value _ _) fun t us h3=>Leaves.ok ?_) fun _=>Leaves.ok ?_;·have:=Z0g ts.tail; simp only [Job.least] at *; omega
     ·simp only [Job.least] at *; omega
   | try_ =>
     unfold Z0;refine Leaves.bind (ih (.block false) _ _) fun b us h=>?_;have hk:∀ (l:List Tree) (vs:List Tok),vs.length≤us.length→Leaves (ts.length + Job.try_.least) (if isT Zt vs then Z02 (Z0 f (.block false) d vs.tail) fun c ts=>okT (.mk 12 ByteArray.empty 0 (l ++ [.mk 14 ByteArray.empty 0 [c]])) ts else if l.length=1 then Z1v 3 vs else okT (.mk 12 ByteArray.empty 0 l) vs):=by
      intro l vs h2;have:=Z0g vs;refine Leaves.ite (fun _=>Leaves.bind (ih (.block false) _ _) fun t xs h3=>Leaves.ok ?_) fun _=>Leaves.ite (fun _=>Leaves.fail) fun _=>Leaves.ok ?_;·simp only [Job.least] at *; omega
      ·simp only [Job.least] at *; omega
     refine Leaves.ite (fun h1=>?_) fun _=>hk _ _ (Y0 _);refine Leaves.want fun h2=>Leaves.name fun s h3=>Leaves.want fun h4=>Leaves.bind (ih (.block false) _ _) fun c vs h5=>hk _ _ ?_;have:=Z0g us; simp only [Job.least] at *; omega
   | value=>unfold Z0; exact Leaves.within (ih0 _ _ (by simp [Job.least]))
   | assign =>
     unfold Z0;refine Leaves.bind (ih (.bin 0) _ _) fun x us h=>Leaves.ite (fun h1=>Leaves.ite (fun _=>Leaves.bind (ih .value _ _) fun y vs h2=>Leaves.ok ?_) fun _=>Leaves.err) fun _=>Leaves.ok ?_;·have:=Z0g us; simp only [Job.least] at *; omega
     ·simp only [Job.least] at *; omega
   | bin level =>
     unfold Z0;refine Leaves.ite (fun _=>ih0 _ _ (by simp [Job.least])) fun _=>Leaves.bind (ih (.bin (level + 1)) _ _) fun x us h=>ih0 _ _ ?_;simp only [Job.least] at *; omega
   | binLoop level x =>
     unfold Z0;refine Leaves.ite (fun _=>Leaves.ok (by simp [Job.least])) fun _=>Leaves.bind (ih (.bin (level + 1)) _ _) fun y us h=>ih0 _ _ ?_;have:=Z0g ts; simp only [Job.least] at *; omega
   | unary =>
     unfold Z0;refine Leaves.ite (fun _=>ih0 _ _ (by simp [Job.least])) fun _=>Leaves.bind (Leaves.within (ih .unary _ _)) fun y us h=>Leaves.ok ?_;have:=Z0g ts; simp only [Job.least] at *; omega
   | postfix_ =>
     unfold Z0;refine Leaves.bind (ih .primary _ _) fun y us h=>ih0 _ _ ?_;simp only [Job.least] at *; omega
   | postLoop x =>
     unfold Z0;have:=Z0g ts;refine Leaves.ite (fun _=>Leaves.name fun s h=>ih0 _ _ (by simp only [Job.least] at *; omega)) fun _=>Leaves.ite (fun _=>Leaves.bind (ih (.args [x]) _ _) fun y us h=>ih0 _ _ (by simp only [Job.least] at *; omega)) fun _=>Leaves.ok (by simp [Job.least])
   | args acc =>
     unfold Z0;refine Leaves.ite (fun h=>Leaves.ok (by have:=Zx h; simp only [Job.least] at *; omega)) fun _=>Leaves.comma fun us h=>Leaves.ite (fun _=>Leaves.fail) fun _=>Leaves.bind (ih .value _ _) fun y vs h2=>ih0 _ _ (by simp only [Job.least] at *; omega)
   | primary =>
     unfold Z0;have:=Z0g ts;have:=Z0g ts.tail;refine Leaves.ite (fun h=>Leaves.ok (by have:=Z1y (ts:=ts) (by omega); simp only [Job.least] at *; omega)) fun _=>?_;refine Leaves.ite (fun h=>Leaves.ok (by have:=Z1y (ts:=ts) (by omega); simp only [Job.least] at *; omega)) fun _=>?_;refine Leaves.ite (fun h=>Leaves.ok (by have:=Z1y (ts:=ts) (by omega); simp only [Job.least] at *; omega)) fun _=>?_;refine Leaves.ite (fun h=>Leaves.ok ?_) fun _=>?_
     ·have:ts.tail.length < ts.length:=by
       unfold Z1r at h;by_cases h1:isT Z2n ts=true;·exact Zx h1
       ·by_cases h2 : isT Z1u ts = true;·exact Zx h2
        ·by_cases h3 : isT Z33 ts = true;·exact Zx h3
         ·by_cases h4 : isT Z0w ts = true;·exact Zx h4
          ·simp [h1,h2,h3,h4] at h
      simp only [Job.least] at *; omega
     refine Leaves.ite (fun _=>ih0 _ _ (by simp [Job.least])) fun _=>?_;refine Leaves.ite (fun _=>Leaves.ite (fun _=>ih0 _ _ (by simp only [Job.least] at *; omega)) fun _=>ih0 _ _ (by simp only [Job.least] at *; omega)) fun _=>?_;exact Leaves.ite (fun _=>ih0 _ _ (by simp only [Job.least] at *; omega)) fun _=>Leaves.fail
   | object acc =>
     unfold Z0;refine Leaves.ite (fun h=>Leaves.ok (by have:=Zx h; simp only [Job.least] at *; omega)) fun _=>Leaves.comma fun us h=>Leaves.ite (fun _=>Leaves.fail) fun _=>Leaves.name fun s h1=>Leaves.want fun h2=>Leaves.bind (ih .value _ _) fun y vs h2=>ih0 _ _ (by simp only [Job.least] at *; omega)
def Job.rank:Job→Nat
 | .stmts ..=>30
 | .block _=>5
 | .func ..=>1
 | .params _=>1
 | .around=>1
 | .stmt=>20
 | .decl ..=>1
 | .try_=>6
 | .value=>19
 | .assign=>18
 | .bin level=>10 + (6 - level)
 | .binLoop ..=>31
 | .unary=>9
 | .postfix_=>8
 | .postLoop _=>31
 | .args _=>31
 | .primary=>7
 | .object _=>31
def Zg (p:PR):Prop:=p≠none
theorem Zg.fail {e:Int} {ts:List Tok}:Zg (Z1v e ts):=by simp [Zg,Z1v]
theorem Zg.ok {t:Tree} {ts:List Tok}:Zg (okT t ts):=by simp [Zg,okT]
theorem Zg.bind {p:PR} {k:Tree→List Tok→PR} {n:Nat} (hp:Zg p) (hl:Leaves n p) (hk:∀ t ts,ts.length < n→Zg (k t ts)):Zg (Z02 p k):=by
 cases p with
 | none=>exact absurd rfl hp
 | some r =>
   cases r with
   | error e=>simp [Zg,Z02]
   | ok x=>obtain ⟨t,ts⟩:=x; exact hk t ts (hl t ts rfl)
theorem Zg.want {s:ByteArray} {ts:List Tok} {k:List Tok→PR} (hk:ts.tail.length < ts.length→Zg (k ts.tail)):Zg (Z0s s ts k):=by
 unfold Z0s;by_cases h:isT s ts=true;·rw [Y5 h]; exact hk (Zx h)
 ·rw [Y3 h]; exact Zg.fail
theorem Zg.name {ts:List Tok} {k:ByteArray→List Tok→PR} (hk:∀ s,ts.tail.length < ts.length→Zg (k s ts.tail)):Zg (Z1w ts k):=by
 unfold Z1w;by_cases h:(hdT ts).kind=1;·rw [Y5 h]; exact hk _ (Z1y (by omega))
 ·rw [Y3 h]; exact Zg.fail
theorem Zg.within {d:Nat} {ts:List Tok} {p:PR} (h:Zg p):Zg (Z0i d ts p):=by
 unfold Z0i;by_cases h':30 < d + 1;·rw [Y5 h']; exact Zg.fail
 ·rw [Y3 h']; exact h
theorem Zg.ite {c:Prop} [Decidable c] {p q:PR} (hp:c→Zg p) (hq:¬ c→Zg q):Zg (if c then p else q):=by
 by_cases h:c;·rw [Y5 h]; exact hp h
 ·rw [Y3 h]; exact hq h
theorem Zg.comma {c:Prop} [Decidable c] {ts:List Tok} {k:List Tok→PR} (hk:∀ ts',ts'.length≤ts.length→Zg (k ts')):Zg ((if c then Z0s Z0p ts else fun k=>k ts) k):=by
 by_cases h:c;·rw [Y5 h]; exact Zg.want fun h'=>hk _ (by omega)
 ·rw [Y3 h]; exact hk _ (Y0 _)
theorem Z6n {ts:List Tok} (h:¬ Z19 ts=0):ts.tail.length < ts.length:=by
 unfold Z19 at h;by_cases h1:isT Z4a ts=true;·exact Zx h1
 ·by_cases h2 : isT Z14 ts = true;·exact Zx h2
  ·by_cases h3 : isT Z18 ts = true;·exact Zx h3
   ·simp [h1,h2,h3] at h
theorem Z4g {level:Nat} {ts:List Tok} (h:¬ Z0x level ts=0):ts.tail.length < ts.length:=by
 have key:∀ {s:ByteArray} {x y:Int},¬ (if isT s ts then x else y)=0→¬ y=0∨ts.tail.length < ts.length:=by
  intro s x y h;by_cases h1:isT s ts=true;·exact .inr (Zx h1)
  ·rw [Y3 h1] at h; exact .inl h
 unfold Z0x at h;split at h
 all_goals first
  | exact absurd rfl h
  | (rcases key h with h | h; (exact absurd rfl h); exact h)
  | (rcases key h with h | h; (rcases key h with h | h; (exact absurd rfl h); exact h); exact h)
theorem Z79:∀ (f:Nat) (job:Job) (d:Nat) (ts:List Tok),40 * ts.length + job.rank < f→Zg (Z0 f job d ts):=by
 intro f;induction f with
 | zero=>intro job d ts h; omega
 | succ f ih =>
   intro job d ts hf;have L:=Z16 f;have htl:=Z0g ts;cases job with
   | stmts kind acc =>
     unfold Z0;refine Zg.ite (fun _=>Zg.ok) fun _=>Zg.bind (n:=ts.length) (Zg.within (ih _ _ _ (by simp only [Job.rank] at *; omega))) (Leaves.within (L .stmt _ _)) fun t us h=>ih _ _ _ (by simp only [Job.rank] at *; omega)
   | block body =>
     unfold Z0;refine Zg.want fun h=>Zg.bind (ih _ _ _ (by simp only [Job.rank] at *; omega)) (L _ _ _) fun t us h=>Zg.want fun h2=>Zg.ok
   | func kind text =>
     unfold Z0;refine Zg.want fun h=>Zg.bind (ih _ _ _ (by simp only [Job.rank] at *; omega)) (L (.params []) _ _) fun t us h=>Zg.want fun h2=>Zg.bind (ih _ _ _ (by simp only [Job.rank,Job.least] at *; omega)) (L _ _ _) fun t us h=>Zg.ok
   | params acc =>
     unfold Z0;refine Zg.ite (fun _=>Zg.ok) fun _=>Zg.comma fun us h=>Zg.ite (fun _=>Zg.fail) fun _=>Zg.name fun s h2=>ih _ _ _ (by simp only [Job.rank] at *; omega)
   | around =>
     unfold Z0;refine Zg.want fun h=>Zg.bind (ih _ _ _ (by simp only [Job.rank] at *; omega)) (L _ _ _) fun t us h=>Zg.want fun h2=>Zg.ok
   | stmt =>
     unfold Z0;have hend:∀ (n:Tree) (us:List Tok),Zg (endT n us):=fun n us=>Zg.want fun h2=>Zg.ok;refine Zg.ite (fun h=>ih _ _ _ (by simp only [Job.rank] at *; omega)) fun _=>?_;refine Zg.ite (fun h=>Zg.ok) fun _=>?_;refine Zg.ite (fun h=>Zg.bind (ih _ _ _ (by simp only [Job.rank] at *; omega)) (L _ _ _) fun t us h2=>hend _ _) fun _=>?_;refine Zg.ite (fun h=>Zg.bind (ih _ _ _ (by simp only [Job.rank] at *; omega)) (L _ _ _) fun t us h2=>hend _ _) fun _=>?_
     refine Zg.ite (fun h=>Zg.bind (ih _ _ _ (by simp only [Job.rank] at *; omega)) (L _ _ _) fun t us h2=>hend _ _) fun _=>?_;refine Zg.ite (fun h=>Zg.name fun s h2=>ih _ _ _ (by simp only [Job.rank] at *; omega)) fun _=>?_;refine Zg.ite (fun h=>?_) fun _=>?_
     ·have:=Zx h;refine Zg.bind (ih _ _ _ (by simp only [Job.rank] at *; omega)) (L .around _ _) fun t us h2=>?_;refine Zg.bind (Zg.within (ih _ _ _ (by simp only [Job.rank,Job.least] at *; omega))) (Leaves.within (L .stmt _ _)) fun t vs h3=>?_;have:=Z0g vs;exact Zg.ite (fun h4=>Zg.bind (Zg.within (ih _ _ _ (by simp only [Job.rank,Job.least] at *; omega))) (Leaves.within (L .stmt _ _)) fun t xs h5=>Zg.ok) fun _=>Zg.ok
     refine Zg.ite (fun h=>?_) fun _=>?_
     ·have:=Zx h;refine Zg.bind (ih _ _ _ (by simp only [Job.rank] at *; omega)) (L .around _ _) fun t us h2=>?_;exact Zg.bind (Zg.within (ih _ _ _ (by simp only [Job.rank,Job.least] at *; omega))) (Leaves.within (L .stmt _ _)) fun t vs h3=>Zg.ok
     refine Zg.ite (fun h=>?_) fun _=>?_
     ·have:=Zx h;refine Zg.bind (ih _ _ _ (by simp only [Job.rank] at *; omega)) (L .around _ _) fun t us h2=>?_;exact Zg.bind (Zg.within (ih _ _ _ (by simp only [Job.rank,Job.least] at *; omega))) (Leaves.within (L .stmt _ _)) fun t vs h3=>Zg.ok
     refine Zg.ite (fun h=>Zg.ite (fun h1=>hend _ _) fun _=>Zg.bind (ih _ _ _ (by simp only [Job.rank] at *; omega)) (L _ _ _) fun t us h2=>hend _ _) fun _=>?_;refine Zg.ite (fun h=>Zg.bind (ih _ _ _ (by simp only [Job.rank] at *; omega)) (L _ _ _) fun t us h2=>hend _ _) fun _=>?_;refine Zg.ite (fun h=>ih _ _ _ (by simp only [Job.rank] at *; omega)) fun _=>?_;exact Zg.bind (ih _ _ _ (by simp only [Job.rank] at *; omega)) (L _ _ _) fun t us h2=>hend _ _
   | decl kind must =>
     unfold Z0;refine Zg.name fun s h=>Zg.ite (fun _=>Zg.fail) fun _=>Zg.ite (fun h2=>Zg.bind (ih _ _ _ ?_) (L _ _ _) fun t us h3=>Zg.ok) fun _=>Zg.ok;have:=Z0g ts.tail; simp only [Job.rank] at *; omega
   | try_ =>
     unfold Z0;refine Zg.bind (ih _ _ _ (by simp only [Job.rank] at *; omega)) (L (.block false) _ _) fun b us h=>?_;have hk:∀ (l:List Tree) (vs:List Tok),vs.length≤us.length→Zg (if isT Zt vs then Z02 (Z0 f (.block false) d vs.tail) fun c ts=>okT (.mk 12 ByteArray.empty 0 (l ++ [.mk 14 ByteArray.empty 0 [c]])) ts else if l.length=1 then Z1v 3 vs else okT (.mk 12 ByteArray.empty 0 l) vs):=by
      intro l vs h2;have:=Z0g vs;exact Zg.ite (fun _=>Zg.bind (ih _ _ _ (by simp only [Job.rank,Job.least] at *; omega)) (L _ _ _) fun t xs h3=>Zg.ok) fun _=>Zg.ite (fun _=>Zg.fail) fun _=>Zg.ok
     refine Zg.ite (fun h1=>?_) fun _=>hk _ _ (Y0 _);have:=Z0g us;refine Zg.want fun h2=>Zg.name fun s h3=>Zg.want fun h4=>Zg.bind (ih _ _ _ (by simp only [Job.rank,Job.least] at *; omega)) (L (.block false) _ _) fun c vs h5=>hk _ _ ?_;simp only [Job.least] at *; omega
   | value=>unfold Z0; exact Zg.within (ih _ _ _ (by simp only [Job.rank] at *; omega))
   | assign =>
     unfold Z0;refine Zg.bind (ih _ _ _ (by simp only [Job.rank] at *; omega)) (L (.bin 0) _ _) fun x us h=>Zg.ite (fun h1=>Zg.ite (fun _=>Zg.bind (ih _ _ _ ?_) (L _ _ _) fun y vs h2=>Zg.ok) fun _=>by simp [Zg]) fun _=>Zg.ok;have:=Z0g us; simp only [Job.rank,Job.least] at *; omega
   | bin level =>
     unfold Z0;refine Zg.ite (fun h=>ih _ _ _ (by simp only [Job.rank] at *; omega)) fun h=>Zg.bind (ih _ _ _ (by simp only [Job.rank] at *; omega)) (L (.bin (level + 1)) _ _) fun x us h=>ih _ _ _ (by simp only [Job.rank,Job.least] at *; omega)
   | binLoop level x =>
     unfold Z0;refine Zg.ite (fun _=>Zg.ok) fun h0=>Zg.bind (ih _ _ _ ?_) (L (.bin (level + 1)) _ _) fun y us h=>ih _ _ _ ?_;·have:=Z4g h0; simp only [Job.rank] at *; omega
     ·have:=Z4g h0; simp only [Job.rank,Job.least] at *; omega
   | unary =>
     unfold Z0;refine Zg.ite (fun _=>ih _ _ _ (by simp only [Job.rank] at *; omega)) fun h0=>Zg.bind (Zg.within (ih _ _ _ ?_)) (Leaves.within (L _ _ _)) fun y us h=>Zg.ok;have:=Z6n h0; simp only [Job.rank] at *; omega
   | postfix_ =>
     unfold Z0;exact Zg.bind (ih _ _ _ (by simp only [Job.rank] at *; omega)) (L .primary _ _) fun y us h=>ih _ _ _ (by simp only [Job.rank,Job.least] at *; omega)
   | postLoop x =>
     unfold Z0;refine Zg.ite (fun h=>Zg.name fun s h2=>ih _ _ _ (by simp only [Job.rank] at *; omega)) fun _=>Zg.ite (fun h=>?_) fun _=>Zg.ok;have:=Zx h;exact Zg.bind (ih _ _ _ (by simp only [Job.rank] at *; omega)) (L (.args [x]) _ _) fun y us h=>ih _ _ _ (by simp only [Job.rank,Job.least] at *; omega)
   | args acc =>
     unfold Z0;exact Zg.ite (fun h=>Zg.ok) fun _=>Zg.comma fun us h=>Zg.ite (fun _=>Zg.fail) fun _=>Zg.bind (ih _ _ _ (by simp only [Job.rank] at *; omega)) (L .value _ _) fun y vs h2=>ih _ _ _ (by simp only [Job.rank,Job.least] at *; omega)
   | primary =>
     unfold Z0;have:=Z0g ts.tail;refine Zg.ite (fun _=>Zg.ok) fun _=>Zg.ite (fun _=>Zg.ok) fun _=>Zg.ite (fun _=>Zg.ok) fun _=>Zg.ite (fun _=>Zg.ok) fun _=>?_;refine Zg.ite (fun _=>ih _ _ _ (by simp only [Job.rank] at *; omega)) fun _=>?_;refine Zg.ite (fun _=>Zg.ite (fun _=>ih _ _ _ (by simp only [Job.rank] at *; omega)) fun _=>ih _ _ _ (by simp only [Job.rank] at *; omega)) fun _=>?_;exact Zg.ite (fun h=>ih _ _ _ (by have:=Zx h; simp only [Job.rank] at *; omega)) fun _=>Zg.fail
   | object acc =>
     unfold Z0;exact Zg.ite (fun h=>Zg.ok) fun _=>Zg.comma fun us h=>Zg.ite (fun _=>Zg.fail) fun _=>Zg.name fun s h1=>Zg.want fun h2=>Zg.bind (ih _ _ _ (by simp only [Job.rank] at *; omega)) (L .value _ _) fun y vs h2=>ih _ _ _ (by simp only [Job.rank,Job.least] at *; omega)
def Z12 (text:ByteArray):Except (Int×Int) Tree:=
 if 3000 < text.size then .error (4,-1)
 else match Z4y text with
  | .error (e,p)=>.error (e,p)
  | .ok ts => match Z0 (40 * ts.length + 31) (.stmts 1 []) 0 ts with
    | none=>.error (0,-2)
    | some (.error (e,p))=>.error (e,p)
    | some (.ok (t,_))=>if 1500 < t.many then .error (4,-1) else .ok t
end Go.Proofs.YtfgpdfcpkibkoaaGreatDoor
namespace Go.Proofs.YtfgpdfcpkibkoaaGreatDoor
open Go Go.RowKit
set_option maxRecDepth 100000
set_option maxHeartbeats 20000000
set_option linter.unusedVariables false
def Bnd (n:Nat) (p:PR):Prop:=∀ t ts,p=some (.ok (t,ts))→t.many + 2 * ts.length≤n
theorem Bnd.fail {n:Nat} {e:Int} {ts:List Tok}:Bnd n (Z1v e ts):=by intro t ts' h; cases h
theorem Bnd.none {n:Nat}:Bnd n none:=by intro t ts' h; cases h
theorem Bnd.err {n:Nat} {e:Int×Nat}:Bnd n (some (.error e)):=by intro t ts' h; cases h
theorem Bnd.ok {n:Nat} {t:Tree} {ts:List Tok} (h:t.many + 2 * ts.length≤n):Bnd n (okT t ts):=by
 intro t' ts' h';simp only [okT,Option.some.injEq,Except.ok.injEq,Prod.mk.injEq] at h';rw [← h'.1,← h'.2]; exact h
theorem Bnd.bind {n m:Nat} {p:PR} {k:Tree→List Tok→PR} (hp:Bnd m p) (hk:∀ t ts,t.many + 2 * ts.length≤m→Bnd n (k t ts)):Bnd n (Z02 p k):=by
 cases p with
 | none=>exact Bnd.none
 | some r =>
   cases r with
   | error e=>exact Bnd.err
   | ok x=>obtain ⟨t,ts⟩:=x; exact hk t ts (hp t ts rfl)
theorem Bnd.want {n:Nat} {s:ByteArray} {ts:List Tok} {k:List Tok→PR} (hk:ts.tail.length < ts.length→Bnd n (k ts.tail)):Bnd n (Z0s s ts k):=by
 unfold Z0s;by_cases h:isT s ts=true;·rw [Y5 h]; exact hk (Zx h)
 ·rw [Y3 h]; exact Bnd.fail
theorem Bnd.name {n:Nat} {ts:List Tok} {k:ByteArray→List Tok→PR} (hk:∀ s,ts.tail.length < ts.length→Bnd n (k s ts.tail)):Bnd n (Z1w ts k):=by
 unfold Z1w;by_cases h:(hdT ts).kind=1;·rw [Y5 h]; exact hk _ (Z1y (by omega))
 ·rw [Y3 h]; exact Bnd.fail
theorem Bnd.within {n d:Nat} {ts:List Tok} {p:PR} (h:Bnd n p):Bnd n (Z0i d ts p):=by
 unfold Z0i;by_cases h':30 < d + 1;·rw [Y5 h']; exact Bnd.fail
 ·rw [Y3 h']; exact h
theorem Bnd.ite {n:Nat} {c:Prop} [Decidable c] {p q:PR} (hp:c→Bnd n p) (hq:¬ c→Bnd n q):Bnd n (if c then p else q):=by
 by_cases h:c;·rw [Y5 h]; exact hp h
 ·rw [Y3 h]; exact hq h
theorem Bnd.comma {n:Nat} {c:Prop} [Decidable c] {ts:List Tok} {k:List Tok→PR} (hk:∀ ts',ts'.length≤ts.length→Bnd n (k ts')):Bnd n ((if c then Z0s Z0p ts else fun k=>k ts) k):=by
 by_cases h:c;·rw [Y5 h]; exact Bnd.want fun h'=>hk _ (by omega)
 ·rw [Y3 h]; exact hk _ (Y0 _)
theorem Bnd.end' {n:Nat} {t:Tree} {ts:List Tok} (h:t.many + 2 * ts.length≤n + 2):Bnd n (endT t ts):=Bnd.want fun h'=>Bnd.ok (by omega)
def Job.base:Job→Nat
 | .stmts _ acc=>Zq acc + 1
 | .params acc=>Zq acc + 1
 | .try_=>1
 | .binLoop _ x=>x.many
 | .postLoop x=>x.many
 | .args acc=>Zq acc + 1
 | .object acc=>Zq acc + 1
 | _=>0
theorem Z3x (l m:List Tree):Zq (l ++ m)=Zq l + Zq m:=by
 induction l with
 | nil=>simp [Zq]
 | cons x l ih=>simp only [List.cons_append,Zq,ih]; omega
theorem Z0o (k:Int) (s:ByteArray) (n:Int) (l:List Tree):(Tree.mk k s n l).many=Zq l + 1:=by simp [Tree.many]
theorem Z1b (x:Tree):Zq [x]=x.many:=by simp [Zq]
theorem Z30 (x y:Tree):Zq [x,y]=x.many + y.many:=by simp [Zq]
theorem Z9s (x y z:Tree):Zq [x,y,z]=x.many + y.many + z.many:=by simp [Zq]; omega
theorem Z1k:Zq []=0:=by simp [Zq]
theorem Zd3 (x:Tree):x.many=Zq x.kids + 1:=by cases x; simp [Tree.many,Tree.kids]
theorem Zaz:∀ (f:Nat) (job:Job) (d:Nat) (ts:List Tok),Bnd (job.base + 2 * ts.length) (Z0 f job d ts):=by
 intro f;induction f with
 | zero=>intro job d ts; exact Bnd.none
 | succ f ih =>
   intro job d ts;have htl:=Z0g ts;have ih':∀ (job:Job) (d:Nat) (us:List Tok) {n:Nat},job.base + 2 * us.length≤n→Bnd n (Z0 f job d us):=fun job d us n h t vs hp=>Y4 (ih job d us t vs hp) h;cases job with
   | stmts kind acc =>
     rw [Z0];refine Bnd.ite (fun _=>Bnd.ok ?_) fun _=>Bnd.bind (Bnd.within (ih .stmt _ _)) fun t us h=>ih' _ _ _ ?_;·rw [Z0o]; simp only [Job.base]; omega
     ·simp only [Job.base,Z3x,Z1b] at *; omega
   | block body =>
     rw [Z0];refine Bnd.want fun h1=>Bnd.bind (ih (.stmts 6 []) _ _) fun t us h=>Bnd.want fun h2=>Bnd.ok ?_;simp only [Job.base,Z1k] at *;cases body;·simp only [Bool.false_eq_true,if_false]; rw [Z0o]; rw [Zd3] at h; omega
     ·simp only [if_true]; omega
   | func kind text =>
     rw [Z0];refine Bnd.want fun h1=>Bnd.bind (ih (.params []) _ _) fun t us h=>Bnd.want fun h2=>Bnd.bind (ih (.block true) _ _) fun t vs h3=>Bnd.ok ?_;simp only [Job.base,Z1k,Z0o,Z30] at *; omega
   | params acc =>
     rw [Z0];refine Bnd.ite (fun _=>Bnd.ok ?_) fun _=>Bnd.comma fun us h=>Bnd.ite (fun _=>Bnd.fail) fun _=>Bnd.name fun s h2=>ih' _ _ _ ?_;·rw [Z0o]; simp only [Job.base]; omega
     ·simp only [Job.base,Z3x,Z1b,Z0o,Z1k] at *; omega
   | around =>
     rw [Z0];refine Bnd.want fun h1=>Bnd.bind (ih .value _ _) fun t us h=>Bnd.want fun h2=>Bnd.ok ?_;simp only [Job.base] at *; omega
   | stmt =>
     rw [Z0];refine Bnd.ite (fun h=>ih' _ _ _ (by simp only [Job.base]; omega)) fun _=>?_;refine Bnd.ite (fun h=>Bnd.ok (by have:=Zx h; simp only [Job.base,Z0o,Z1k]; omega)) fun _=>?_;refine Bnd.ite (fun h=>Bnd.bind (ih _ _ _) fun t us h2=>Bnd.end' (by simp only [Job.base] at *; omega)) fun _=>?_;refine Bnd.ite (fun h=>Bnd.bind (ih _ _ _) fun t us h2=>Bnd.end' (by simp only [Job.base] at *; omega)) fun _=>?_;refine Bnd.ite (fun h=>Bnd.bind (ih _ _ _) fun t us h2=>Bnd.end' (by simp only [Job.base] at *; omega)) fun _=>?_
     refine Bnd.ite (fun h=>Bnd.name fun s h2=>ih' _ _ _ (by simp only [Job.base]; omega)) fun _=>?_;refine Bnd.ite (fun h=>?_) fun _=>?_
     ·have:=Zx h;refine Bnd.bind (ih .around _ _) fun t us h2=>Bnd.bind (Bnd.within (ih .stmt _ _)) fun t vs h3=>?_;have:=Z0g vs;exact Bnd.ite (fun h4=>Bnd.bind (Bnd.within (ih .stmt _ _)) fun t xs h5=>Bnd.ok (by simp only [Job.base,Z0o,Z9s] at *; omega)) fun _=>Bnd.ok (by simp only [Job.base,Z0o,Z30] at *; omega)
     refine Bnd.ite (fun h=>?_) fun _=>?_
     ·have:=Zx h;exact Bnd.bind (ih .around _ _) fun t us h2=>Bnd.bind (Bnd.within (ih .stmt _ _)) fun t vs h3=>Bnd.ok (by simp only [Job.base,Z0o,Z30] at *; omega)
     refine Bnd.ite (fun h=>?_) fun _=>?_
     ·have:=Zx h;exact Bnd.bind (ih .around _ _) fun t us h2=>Bnd.bind (Bnd.within (ih .stmt _ _)) fun t vs h3=>Bnd.ok (by simp only [Job.base,Z0o,Z30] at *; omega)
     refine Bnd.ite (fun h=>?_) fun _=>?_
     ·have:=Zx h;exact Bnd.ite (fun h1=>Bnd.end' (by simp only [Job.base,Z0o,Z1k] at *; omega)) fun _=>Bnd.bind (ih .value _ _) fun t us h2=>Bnd.end' (by simp only [Job.base,Z0o,Z1b] at *; omega)
     refine Bnd.ite (fun h=>?_) fun _=>?_
     ·have:=Zx h;exact Bnd.bind (ih .value _ _) fun t us h2=>Bnd.end' (by simp only [Job.base,Z0o,Z1b] at *; omega)
     refine Bnd.ite (fun h=>ih' _ _ _ (by have:=Zx h; simp only [Job.base]; omega)) fun _=>?_;exact Bnd.bind (ih .value _ _) fun t us h2=>Bnd.end' (by simp only [Job.base,Z0o,Z1b] at *; omega)
   | decl kind must =>
     rw [Z0];refine Bnd.name fun s h=>Bnd.ite (fun _=>Bnd.fail) fun _=>Bnd.ite (fun h2=>Bnd.bind (ih .value _ _) fun t us h3=>Bnd.ok ?_) fun _=>Bnd.ok ?_;·have:=Z0g ts.tail; simp only [Job.base,Z0o,Z1b] at *; omega
     ·simp only [Job.base,Z0o,Z1k] at *; omega
   | try_ =>
     rw [Z0];refine Bnd.bind (ih (.block false) _ _) fun b us h=>?_;have hk:∀ (l:List Tree) (vs:List Tok),Zq l + 2 * vs.length≤2 * ts.length→Bnd (1 + 2 * ts.length) (if isT Zt vs then Z02 (Z0 f (.block false) d vs.tail) fun c ts=>okT (.mk 12 ByteArray.empty 0 (l ++ [.mk 14 ByteArray.empty 0 [c]])) ts else if l.length=1 then Z1v 3 vs else okT (.mk 12 ByteArray.empty 0 l) vs):=by
      intro l vs h2;refine Bnd.ite (fun h3=>Bnd.bind (ih (.block false) _ _) fun t xs h4=>Bnd.ok ?_) fun _=>Bnd.ite (fun _=>Bnd.fail) fun _=>Bnd.ok ?_;·have:=Zx h3; simp only [Job.base,Z0o,Z3x,Z1b] at *; omega
      ·rw [Z0o]; omega
     refine Bnd.ite (fun h1=>?_) fun _=>hk _ _ (by simp only [Job.base,Z1b] at *; omega);have:=Zx h1;refine Bnd.want fun h2=>Bnd.name fun s h3=>Bnd.want fun h4=>Bnd.bind (ih (.block false) _ _) fun c vs h5=>hk _ _ ?_;simp only [Job.base,Z0o,Z1b,Z30] at *; omega
   | value=>rw [Z0]; exact Bnd.within (ih' _ _ _ (by simp only [Job.base]; omega))
   | assign =>
     rw [Z0];refine Bnd.bind (ih (.bin 0) _ _) fun x us h=>Bnd.ite (fun h1=>Bnd.ite (fun _=>Bnd.bind (ih .value _ _) fun y vs h2=>Bnd.ok ?_) fun _=>Bnd.err) fun _=>Bnd.ok ?_;·have:=Zx h1; simp only [Job.base,Z0o,Z30] at *; omega
     ·simp only [Job.base] at *; omega
   | bin level =>
     rw [Z0];refine Bnd.ite (fun h=>ih' _ _ _ (by simp only [Job.base]; omega)) fun h=>Bnd.bind (ih (.bin (level + 1)) _ _) fun x us h=>ih' _ _ _ (by simp only [Job.base] at *; omega)
   | binLoop level x =>
     rw [Z0];refine Bnd.ite (fun _=>Bnd.ok (by simp only [Job.base]; omega)) fun h0=>Bnd.bind (ih (.bin (level + 1)) _ _) fun y us h=>ih' _ _ _ ?_;have:=Z4g h0; simp only [Job.base,Z0o,Z30] at *; omega
   | unary =>
     rw [Z0];refine Bnd.ite (fun _=>ih' _ _ _ (by simp only [Job.base]; omega)) fun h0=>Bnd.bind (Bnd.within (ih .unary _ _)) fun y us h=>Bnd.ok ?_;have:=Z6n h0; simp only [Job.base,Z0o,Z1b] at *; omega
   | postfix_ =>
     rw [Z0];exact Bnd.bind (ih .primary _ _) fun y us h=>ih' _ _ _ (by simp only [Job.base] at *; omega)
   | postLoop x =>
     rw [Z0];refine Bnd.ite (fun h=>Bnd.name fun s h2=>ih' _ _ _ ?_) fun _=>Bnd.ite (fun h=>?_) fun _=>Bnd.ok (by simp only [Job.base]; omega);·have:=Zx h; simp only [Job.base,Z0o,Z1b] at *; omega
     ·have:=Zx h;exact Bnd.bind (ih (.args [x]) _ _) fun y us h=>ih' _ _ _ (by simp only [Job.base,Z1b] at *; omega)
   | args acc =>
     rw [Z0];refine Bnd.ite (fun h=>Bnd.ok ?_) fun _=>Bnd.comma fun us h=>Bnd.ite (fun _=>Bnd.fail) fun _=>Bnd.bind (ih .value _ _) fun y vs h2=>ih' _ _ _ ?_;·rw [Z0o]; simp only [Job.base]; omega
     ·simp only [Job.base,Z3x,Z1b] at *; omega
   | primary =>
     rw [Z0];have:=Z0g ts.tail;refine Bnd.ite (fun h=>Bnd.ok ?_) fun _=>Bnd.ite (fun h=>Bnd.ok ?_) fun _=>Bnd.ite (fun h=>Bnd.ok ?_) fun _=>Bnd.ite (fun h=>Bnd.ok ?_) fun _=>?_;·have:=Z1y (ts:=ts) (by omega); simp only [Job.base,Z0o,Z1k] at *; omega
     ·have:=Z1y (ts:=ts) (by omega); simp only [Job.base,Z0o,Z1k] at *; omega
     ·have:=Z1y (ts:=ts) (by omega); simp only [Job.base,Z0o,Z1k] at *; omega
     ·have:ts.tail.length < ts.length:=by
       unfold Z1r at h;by_cases h1:isT Z2n ts=true;·exact Zx h1
       ·by_cases h2 : isT Z1u ts = true;·exact Zx h2
        ·by_cases h3 : isT Z33 ts = true;·exact Zx h3
         ·by_cases h4 : isT Z0w ts = true;·exact Zx h4
          ·simp [h1,h2,h3,h4] at h
      simp only [Job.base,Z0o,Z1k] at *; omega
     refine Bnd.ite (fun _=>ih' _ _ _ (by simp only [Job.base]; omega)) fun _=>?_;refine Bnd.ite (fun _=>Bnd.ite (fun _=>ih' _ _ _ (by simp only [Job.base]; omega)) fun _=>ih' _ _ _ (by simp only [Job.base]; omega)) fun _=>?_;exact Bnd.ite (fun h=>ih' _ _ _ (by have:=Zx h; simp only [Job.base,Z1k]; omega)) fun _=>Bnd.fail
   | object acc =>
     rw [Z0];refine Bnd.ite (fun h=>Bnd.ok ?_) fun _=>Bnd.comma fun us h=>Bnd.ite (fun _=>Bnd.fail) fun _=>Bnd.name fun s h1=>Bnd.want fun h2=>Bnd.bind (ih .value _ _) fun y vs h3=>ih' _ _ _ ?_;·rw [Z0o]; simp only [Job.base]; omega
     ·simp only [Job.base,Z3x,Z1b,Z0o] at *; omega
end Go.Proofs.YtfgpdfcpkibkoaaGreatDoor
namespace Go.Proofs.YtfgpdfcpkibkoaaGreatDoor
open Go Go.RowKit
set_option maxRecDepth 100000
set_option maxHeartbeats 20000000
structure RS where
 ts:List Tok
 f:Option (Int×Nat)
def Zfi (e:Int) (σ:RS):RS:=if σ.f.isNone then ⟨σ.ts,some (e,(hdT σ.ts).at')⟩ else σ
def advR (σ:RS):RS:=⟨σ.ts.tail,σ.f⟩
def Zi0 (s:ByteArray) (σ:RS):RS:=if σ.f.isNone then (if isT s σ.ts then advR σ else Zfi 3 σ) else σ
def Zdk (σ:RS):ByteArray×RS:=if σ.f.isNone then (if (hdT σ.ts).kind=1 then ((hdT σ.ts).text,advR σ) else (ByteArray.empty,Zfi 3 σ)) else (ByteArray.empty,σ)
abbrev RR:=Option (Tree×RS)
def Zik (p:RR) (k:Tree→RS→RR):RR:=match p with | none=>none | some (t,σ)=>k t σ
def Z80 (s:ByteArray):Int:=if Z0h s s_or then 25 else if Z0h s Z43 then 26 else if Z0h s Z2c then 27 else if Z0h s Z3d then 28 else if Z0h s Z51 then 29 else if Z0h s Z58 then 30 else if Z0h s Z5h then 31 else 0
def Zcj (s:ByteArray):Int:=if Z0h s Z2n then 19 else if Z0h s Z1u then 20 else if Z0h s Z33 then 21 else if Z0h s Z0w then 22 else 0
def Zed (r:RR) (e:Int×Nat):Prop:=∃ t ts,r=some (t,⟨ts,some e⟩)
def Zhc (t:Tok):Prop:=(t.kind=2→Z80 t.text=0)∧(t.kind=5→Zcj t.text=0)
def Z5j (ts:List Tok):Prop:=∀ t∈ts,Zhc t
theorem Z5j.tail {ts:List Tok} (h:Z5j ts):Z5j ts.tail:=fun t ht=>h t (List.mem_of_mem_tail ht)
theorem Z5j.hd {ts:List Tok} (h:Z5j ts):Zhc (hdT ts):=by
 cases ts with
 | nil=>exact ⟨fun h=>by simp [hdT] at h,fun h=>by simp [hdT] at h⟩
 | cons t l=>exact h t (by simp)
def Agree (p:PR) (q:RR):Prop:=
 match p with
 | none=>True
 | some (.ok (t,ts))=>q=some (t,⟨ts,none⟩)∧Z5j ts
 | some (.error e)=>Zed q e
theorem Agree.ok {t:Tree} {ts:List Tok} (h:Z5j ts):Agree (okT t ts) (some (t,⟨ts,none⟩)):=⟨rfl,h⟩
theorem Agree.fail {k:Int} {t:Tree} {ts:List Tok}:Agree (Z1v k ts) (some (t,Zfi k ⟨ts,none⟩)):=⟨_,_,rfl⟩
theorem Agree.bind {p:PR} {q:RR} {k:Tree→List Tok→PR} {m:Tree→RS→RR} (h:Agree p q) (hk:∀ t ts,Z5j ts→Agree (k t ts) (m t ⟨ts,none⟩)) (he:∀ t ts e,Zed (m t ⟨ts,some e⟩) e) :
 Agree (Z02 p k) (Zik q m):=by
 cases p with
 | none=>trivial
 | some r =>
   cases r with
   | error e=>obtain ⟨t,ts,rfl⟩:=h; exact he t ts e
   | ok x=>obtain ⟨t,ts⟩:=x; obtain ⟨rfl,hg⟩:=h; exact hk t ts hg
theorem Agree.want {s:ByteArray} {ts:List Tok} {k:List Tok→PR} {m:RS→RR} (hg:Z5j ts) (hk:Z5j ts.tail→Agree (k ts.tail) (m ⟨ts.tail,none⟩)) (he:∀ ts e,Zed (m ⟨ts,some e⟩) e) :
 Agree (Z0s s ts k) (m (Zi0 s ⟨ts,none⟩)):=by
 unfold Z0s Zi0;by_cases h:isT s ts=true;·simp only [h,Option.isNone_none,if_true]; exact hk hg.tail
 ·simp only [h,Option.isNone_none,if_true]; exact he _ _
theorem Agree.name {ts:List Tok} {k:ByteArray→List Tok→PR} {m:ByteArray→RS→RR} (hg:Z5j ts) (hk:∀ s,Z5j ts.tail→Agree (k s ts.tail) (m s ⟨ts.tail,none⟩)) (he:∀ s ts e,Zed (m s ⟨ts,some e⟩) e) :
 Agree (Z1w ts k) (m (Zdk ⟨ts,none⟩).1 (Zdk ⟨ts,none⟩).2):=by
 unfold Z1w Zdk;by_cases h:(hdT ts).kind=1;·simp only [h,Option.isNone_none,if_true]; exact hk _ hg.tail
 ·simp only [h,Option.isNone_none,if_true,if_false]; exact he _ _ _
theorem Agree.ite {c:Prop} [Decidable c] {c':Bool} {p1 p2:PR} {q1 q2:RR} (h:c↔c'=true) (h1:c→Agree p1 q1) (h2:¬ c→Agree p2 q2):Agree (if c then p1 else p2) (if c'=true then q1 else q2):=by
 by_cases hc:c;·rw [Y5 hc,Y5 (h.1 hc)]; exact h1 hc
 ·rw [Y3 hc,Y3 (fun e=>hc (h.2 e))]; exact h2 hc
theorem Agree.within {d:Nat} {ts:List Tok} {p:PR} {q:RR} {t:Tree} (h:d + 1≤30→Agree p q):Agree (Z0i d ts p) (if 30 < d + 1 then some (t,Zfi 4 ⟨ts,none⟩) else q):=by
 unfold Z0i;by_cases hd:30 < d + 1;·rw [Y5 hd,Y5 hd]; exact Agree.fail
 ·rw [Y3 hd,Y3 hd]; exact h (by omega)
end Go.Proofs.YtfgpdfcpkibkoaaGreatDoor
namespace Go.Proofs.YtfgpdfcpkibkoaaGreatDoor
open Go Go.RowKit
set_option maxRecDepth 100000
set_option maxHeartbeats 20000000
set_option linter.unusedVariables false
theorem Z7c {text:ByteArray} {j k:Nat} {t:Tok} (h:Z0k text j=.ok (t,k)):t.kind≠6∧(t.kind=2→Z27 t.text=true)∧(t.kind=5→t.text=text.extract j (j + Z00 text j)∧Z0e (Z6 text j)=false):=by
 unfold Z0k at h;simp only at h;split at h
 ·rename_i hl;split at h
  ·rename_i hw;simp only [Except.ok.injEq,Prod.mk.injEq] at h;obtain ⟨rfl,_⟩:=h;exact ⟨by simp,fun _=>hw,(fun h=>by simp at h)⟩
  ·split at h;·cases h
   ·simp only [Except.ok.injEq,Prod.mk.injEq] at h;obtain ⟨rfl,_⟩:=h;exact ⟨by simp,(fun h=>by simp at h),(fun h=>by simp at h)⟩
 ·rename_i hl;split at h
  ·split at h;·cases h
   ·split at h;·cases h
    ·simp only [Except.ok.injEq,Prod.mk.injEq] at h;obtain ⟨rfl,_⟩:=h;exact ⟨by simp,(fun h=>by simp at h),(fun h=>by simp at h)⟩
  ·split at h
   ·split at h;·cases h
    ·split at h;·cases h
     ·simp only [Except.ok.injEq,Prod.mk.injEq] at h;obtain ⟨rfl,_⟩:=h;exact ⟨by simp,(fun h=>by simp at h),(fun h=>by simp at h)⟩
   ·split at h;·cases h
    ·simp only [Except.ok.injEq,Prod.mk.injEq] at h;obtain ⟨rfl,_⟩:=h;exact ⟨by simp,(fun h=>by simp at h),fun _=>⟨rfl,by simpa using hl⟩⟩
theorem Zdf {s:ByteArray} (h:Z27 s=true):Z80 s=0:=by
 refine Decidable.byContradiction fun hs=>?_;have key:s=s_or∨s=Z43∨s=Z2c∨s=Z3d∨s=Z51∨s=Z58∨s=Z5h:=by
  unfold Z80 Z0h at hs;simp only [decide_eq_true_eq] at hs;by_cases h1:s=s_or;·exact .inl h1
  by_cases h2:s=Z43;·exact .inr (.inl h2)
  by_cases h3:s=Z2c;·exact .inr (.inr (.inl h3))
  by_cases h4:s=Z3d;·exact .inr (.inr (.inr (.inl h4)))
  by_cases h5:s=Z51;·exact .inr (.inr (.inr (.inr (.inl h5))))
  by_cases h6:s=Z58;·exact .inr (.inr (.inr (.inr (.inr (.inl h6)))))
  by_cases h7:s=Z5h;·exact .inr (.inr (.inr (.inr (.inr (.inr h7)))))
  simp [h1,h2,h3,h4,h5,h6,h7] at hs
 have no:∀ x,Z27 x=false→s=x→False:=fun x h1 h2=>by rw [h2,h1] at h; cases h
 rcases key with e | e | e | e | e | e | e;all_goals exact no _ (by kernel_rfl) e
theorem Z91 {s:ByteArray} (h:Zcj s≠0):Z0e (Z6 s 0)=true∧0 < s.size:=by
 unfold Zcj at h;by_cases h1:Z0h s Z2n=true
 ·have : s = Z2n := by simpa [Z0h] using h1
  subst this; exact ⟨by kernel_rfl,by decide⟩
 by_cases h2:Z0h s Z1u=true
 ·have : s = Z1u := by simpa [Z0h] using h2
  subst this; exact ⟨by kernel_rfl,by decide⟩
 by_cases h3:Z0h s Z33=true
 ·have : s = Z33 := by simpa [Z0h] using h3
  subst this; exact ⟨by kernel_rfl,by decide⟩
 by_cases h4:Z0h s Z0w=true
 ·have : s = Z0w := by simpa [Z0h] using h4
  subst this; exact ⟨by kernel_rfl,by decide⟩
 simp [h1,h2,h3,h4] at h
theorem Zb4 {text:ByteArray} {j k:Nat} {t:Tok} (hj:j < text.size) (h:Z0k text j=.ok (t,k)):Zhc t:=by
 obtain ⟨_,h2,h5⟩:=Z7c h;refine ⟨fun hk=>Zdf (h2 hk),fun hk=>?_⟩;obtain ⟨ht,hl⟩:=h5 hk;refine Decidable.byContradiction fun hc=>?_;obtain ⟨hb,hs⟩:=Z91 hc;have hsz:0 < Z00 text j:=by
  unfold Z00;split;·omega
  ·split;·omega
   ·split <;> omega
 have hp:Z6 t.text 0=Z6 text j:=by
  rw [ht];have hle:(text.extract j (j + Z00 text j)).size≤Z00 text j:=by rw [ByteArray.size_extract]; omega
  by_cases hk:j + Z00 text j≤text.size;·rw [Zo text (by omega) hk]; rfl
  ·have e:text.extract j (j + Z00 text j)=text.extract j text.size:=by
    apply ByteArray.ext;simp only [ByteArray.data_extract];apply Array.ext
    ·simp only [Array.size_extract];have:text.size=text.data.size:=rfl;omega
    ·intro i h1 h2; simp only [Array.getElem_extract]
   rw [e,Zo text (by omega) (Y0 _)]; rfl
 rw [hp,hl] at hb;cases hb
theorem Z9f {text:ByteArray}:∀ (r:List Tok) (i:Nat),i≤text.size→Z5x text i r→(∃ l e,r=l ++ [e]∧e.kind=6∧∀ t∈l,t.kind≠6)∧r.length + i≤text.size + 1∧Z5j r:=by
 intro r;induction r with
 | nil=>intro i _ h; exact h.elim
 | cons t r ih =>
   intro i hi h;cases r with
   | nil =>
     obtain ⟨h1,h2⟩:=h;refine ⟨⟨[],t,rfl,by rw [h2],fun t ht=>by cases ht⟩,by simp; omega,fun x hx=>?_⟩;simp only [List.mem_singleton] at hx;subst hx;rw [h2];exact ⟨fun h=>by simp at h,fun h=>by simp at h⟩
   | cons u r =>
     obtain ⟨k,h1,h2,h3⟩:=h;obtain ⟨c1,c2,_⟩:=Z1f text h1 h2;obtain ⟨s1,_,_,_⟩:=Z0d Z07 text (text.size - i) i (Y0 _) hi;obtain ⟨⟨l,e,h4,h5,h6⟩,h7,h8⟩:=ih k c2 h3;refine ⟨⟨t :: l,e,by rw [h4]; rfl,h5,fun x hx=>?_⟩,?_,fun x hx=>?_⟩
     ·rcases List.mem_cons.1 hx with rfl | hx;·exact (Z7c h2).1
      ·exact h6 x hx
     ·simp only [List.length_cons] at h7 ⊢; omega
     ·rcases List.mem_cons.1 hx with rfl | hx;·exact Zb4 h1 h2
      ·exact h8 x hx
end Go.Proofs.YtfgpdfcpkibkoaaGreatDoor
