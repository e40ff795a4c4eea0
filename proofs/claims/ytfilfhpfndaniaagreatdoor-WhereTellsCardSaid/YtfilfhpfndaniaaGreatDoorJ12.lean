/- Package tree: a program has no more nodes than twice its tokens. -/
import Derived.Test.YtfilfhpfndaniaaGreatDoorJ11
namespace Go.Proofs.YtfilfhpfndaniaaGreatDoor
open Go Go.RowKit
set_option maxRecDepth 100000
set_option maxHeartbeats 20000000
set_option linter.unusedVariables false
def Bnd (n:Nat) (p:PR):Prop:=∀ t ts,p=some (.ok (t,ts))→t.many + 2 * ts.length≤n
theorem Bnd.fail {n:Nat} {e:Int} {ts:List Tok}:Bnd n (Z2v e ts):=by intro t ts' h; cases h
theorem Bnd.none {n:Nat}:Bnd n none:=by intro t ts' h; cases h
theorem Bnd.err {n:Nat} {e:Int×Nat}:Bnd n (some (.error e)):=by intro t ts' h; cases h
theorem Bnd.ok {n:Nat} {t:Tree} {ts:List Tok} (h:t.many + 2 * ts.length≤n):Bnd n (okT t ts):=by
 intro t' ts' h';simp only [okT,Option.some.injEq,Except.ok.injEq,Prod.mk.injEq] at h';rw [← h'.1,← h'.2]; exact h
theorem Bnd.bind {n m:Nat} {p:PR} {k:Tree→List Tok→PR} (hp:Bnd m p) (hk:∀ t ts,t.many + 2 * ts.length≤m→Bnd n (k t ts)):Bnd n (Z01 p k):=by
 cases p with
 | none=>exact Bnd.none
 | some r =>
   cases r with
   | error e=>exact Bnd.err
   | ok x=>obtain ⟨t,ts⟩:=x; exact hk t ts (hp t ts rfl)
theorem Bnd.want {n:Nat} {s:ByteArray} {ts:List Tok} {k:List Tok→PR} (hk:ts.tail.length < ts.length→Bnd n (k ts.tail)):Bnd n (Z10 s ts k):=by
 unfold Z10;by_cases h:isT s ts=true;·rw [Yb h]; exact hk (Z06 h)
 ·rw [Y9 h]; exact Bnd.fail
theorem Bnd.name {n:Nat} {ts:List Tok} {k:ByteArray→List Tok→PR} (hk:∀ s,ts.tail.length < ts.length→Bnd n (k s ts.tail)):Bnd n (Z3n ts k):=by
 unfold Z3n;by_cases h:(hdT ts).kind=1;·rw [Yb h]; exact hk _ (Z3w (by omega))
 ·rw [Y9 h]; exact Bnd.fail
theorem Bnd.within {n d:Nat} {ts:List Tok} {p:PR} (h:Bnd n p):Bnd n (Z0v d ts p):=by
 unfold Z0v;by_cases h':30 < d + 1;·rw [Yb h']; exact Bnd.fail
 ·rw [Y9 h']; exact h
theorem Bnd.ite {n:Nat} {c:Prop} [Decidable c] {p q:PR} (hp:c→Bnd n p) (hq:¬ c→Bnd n q):Bnd n (if c then p else q):=by
 by_cases h:c;·rw [Yb h]; exact hp h
 ·rw [Y9 h]; exact hq h
theorem Bnd.comma {n:Nat} {c:Prop} [Decidable c] {ts:List Tok} {k:List Tok→PR} (hk:∀ ts',ts'.length≤ts.length→Bnd n (k ts')):Bnd n ((if c then Z10 Z0z ts else fun k=>k ts) k):=by
 by_cases h:c;·rw [Yb h]; exact Bnd.want fun h'=>hk _ (by omega)
 ·rw [Y9 h]; exact hk _ (Y5 _)
theorem Bnd.end' {n:Nat} {t:Tree} {ts:List Tok} (h:t.many + 2 * ts.length≤n + 2):Bnd n (endT t ts):=Bnd.want fun h'=>Bnd.ok (by omega)
def Job.base:Job→Nat
 | .stmts _ acc=>Z4d acc + 1
 | .params acc=>Z4d acc + 1
 | .try_=>1
 | .binLoop _ x=>x.many
 | .postLoop x=>x.many
 | .args acc=>Z4d acc + 1
 | .object acc=>Z4d acc + 1
 | _=>0
theorem Z68 (l m:List Tree):Z4d (l ++ m)=Z4d l + Z4d m:=by
 induction l with
 | nil=>simp [Z4d]
 | cons x l ih=>simp only [List.cons_append,Z4d,ih]; omega
theorem Z18 (k:Int) (s:ByteArray) (n:Int) (l:List Tree):(Tree.mk k s n l).many=Z4d l + 1:=by simp [Tree.many]
theorem Z2e (x:Tree):Z4d [x]=x.many:=by simp [Z4d]
theorem Z4v (x y:Tree):Z4d [x,y]=x.many + y.many:=by simp [Z4d]
theorem Zd8 (x y z:Tree):Z4d [x,y,z]=x.many + y.many + z.many:=by simp [Z4d]; omega
theorem Z34:Z4d []=0:=by simp [Z4d]
theorem Zgd (x:Tree):x.many=Z4d x.kids + 1:=by cases x; simp [Tree.many,Tree.kids]
theorem Zay:∀ (f:Nat) (job:Job) (d:Nat) (ts:List Tok),Bnd (job.base + 2 * ts.length) (Z0 f job d ts):=by
 intro f;induction f with
 | zero=>intro job d ts; exact Bnd.none
 | succ f ih =>
   intro job d ts;have htl:=Z0u ts;have ih':∀ (job:Job) (d:Nat) (us:List Tok) {n:Nat},job.base + 2 * us.length≤n→Bnd n (Z0 f job d us):=fun job d us n h t vs hp=>Ya (ih job d us t vs hp) h;cases job with
   | stmts kind acc =>
     rw [Z0];refine Bnd.ite (fun _=>Bnd.ok ?_) fun _=>Bnd.bind (Bnd.within (ih .stmt _ _)) fun t us h=>ih' _ _ _ ?_;·rw [Z18]; simp only [Job.base]; omega
     ·simp only [Job.base,Z68,Z2e] at *; omega
   | block body =>
     rw [Z0];refine Bnd.want fun h1=>Bnd.bind (ih (.stmts 6 []) _ _) fun t us h=>Bnd.want fun h2=>Bnd.ok ?_;simp only [Job.base,Z34] at *;cases body;·simp only [Bool.false_eq_true,if_false]; rw [Z18]; rw [Zgd] at h; omega
     ·simp only [if_true]; omega
   | func kind text =>
     rw [Z0];refine Bnd.want fun h1=>Bnd.bind (ih (.params []) _ _) fun t us h=>Bnd.want fun h2=>Bnd.bind (ih (.block true) _ _) fun t vs h3=>Bnd.ok ?_;simp only [Job.base,Z34,Z18,Z4v] at *; omega
   | params acc =>
     rw [Z0];refine Bnd.ite (fun _=>Bnd.ok ?_) fun _=>Bnd.comma fun us h=>Bnd.ite (fun _=>Bnd.fail) fun _=>Bnd.name fun s h2=>ih' _ _ _ ?_;·rw [Z18]; simp only [Job.base]; omega
     ·simp only [Job.base,Z68,Z2e,Z18,Z34] at *; omega
   | around =>
     rw [Z0];refine Bnd.want fun h1=>Bnd.bind (ih .value _ _) fun t us h=>Bnd.want fun h2=>Bnd.ok ?_;simp only [Job.base] at *; omega
   | stmt =>
     rw [Z0];refine Bnd.ite (fun h=>ih' _ _ _ (by simp only [Job.base]; omega)) fun _=>?_;refine Bnd.ite (fun h=>Bnd.ok (by have:=Z06 h; simp only [Job.base,Z18,Z34]; omega)) fun _=>?_;refine Bnd.ite (fun h=>Bnd.bind (ih _ _ _) fun t us h2=>Bnd.end' (by simp only [Job.base] at *; omega)) fun _=>?_;refine Bnd.ite (fun h=>Bnd.bind (ih _ _ _) fun t us h2=>Bnd.end' (by simp only [Job.base] at *; omega)) fun _=>?_;refine Bnd.ite (fun h=>Bnd.bind (ih _ _ _) fun t us h2=>Bnd.end' (by simp only [Job.base] at *; omega)) fun _=>?_
     refine Bnd.ite (fun h=>Bnd.name fun s h2=>ih' _ _ _ (by simp only [Job.base]; omega)) fun _=>?_;refine Bnd.ite (fun h=>?_) fun _=>?_
     ·have:=Z06 h;refine Bnd.bind (ih .around _ _) fun t us h2=>Bnd.bind (Bnd.within (ih .stmt _ _)) fun t vs h3=>?_;have:=Z0u vs;exact Bnd.ite (fun h4=>Bnd.bind (Bnd.within (ih .stmt _ _)) fun t xs h5=>Bnd.ok (by simp only [Job.base,Z18,Zd8] at *; omega)) fun _=>Bnd.ok (by simp only [Job.base,Z18,Z4v] at *; omega)
     refine Bnd.ite (fun h=>?_) fun _=>?_
     ·have:=Z06 h;exact Bnd.bind (ih .around _ _) fun t us h2=>Bnd.bind (Bnd.within (ih .stmt _ _)) fun t vs h3=>Bnd.ok (by simp only [Job.base,Z18,Z4v] at *; omega)
     refine Bnd.ite (fun h=>?_) fun _=>?_
     ·have:=Z06 h;exact Bnd.bind (ih .around _ _) fun t us h2=>Bnd.bind (Bnd.within (ih .stmt _ _)) fun t vs h3=>Bnd.ok (by simp only [Job.base,Z18,Z4v] at *; omega)
     refine Bnd.ite (fun h=>?_) fun _=>?_
     ·have:=Z06 h;exact Bnd.ite (fun h1=>Bnd.end' (by simp only [Job.base,Z18,Z34] at *; omega)) fun _=>Bnd.bind (ih .value _ _) fun t us h2=>Bnd.end' (by simp only [Job.base,Z18,Z2e] at *; omega)
     refine Bnd.ite (fun h=>?_) fun _=>?_
     ·have:=Z06 h;exact Bnd.bind (ih .value _ _) fun t us h2=>Bnd.end' (by simp only [Job.base,Z18,Z2e] at *; omega)
     refine Bnd.ite (fun h=>ih' _ _ _ (by have:=Z06 h; simp only [Job.base]; omega)) fun _=>?_;exact Bnd.bind (ih .value _ _) fun t us h2=>Bnd.end' (by simp only [Job.base,Z18,Z2e] at *; omega)
   | decl kind must =>
     rw [Z0];refine Bnd.name fun s h=>Bnd.ite (fun _=>Bnd.fail) fun _=>Bnd.ite (fun h2=>Bnd.bind (ih .value _ _) fun t us h3=>Bnd.ok ?_) fun _=>Bnd.ok ?_;·have:=Z0u ts.tail; simp only [Job.base,Z18,Z2e] at *; omega
     ·simp only [Job.base,Z18,Z34] at *; omega
   | try_ =>
     rw [Z0];refine Bnd.bind (ih (.block false) _ _) fun b us h=>?_;have hk:∀ (l:List Tree) (vs:List Tok),Z4d l + 2 * vs.length≤2 * ts.length→Bnd (1 + 2 * ts.length) (if isT Z03 vs then Z01 (Z0 f (.block false) d vs.tail) fun c ts=>okT (.mk 12 ByteArray.empty 0 (l ++ [.mk 14 ByteArray.empty 0 [c]])) ts else if l.length=1 then Z2v 3 vs else okT (.mk 12 ByteArray.empty 0 l) vs):=by
      intro l vs h2;refine Bnd.ite (fun h3=>Bnd.bind (ih (.block false) _ _) fun t xs h4=>Bnd.ok ?_) fun _=>Bnd.ite (fun _=>Bnd.fail) fun _=>Bnd.ok ?_;·have:=Z06 h3; simp only [Job.base,Z18,Z68,Z2e] at *; omega
      ·rw [Z18]; omega
     refine Bnd.ite (fun h1=>?_) fun _=>hk _ _ (by simp only [Job.base,Z2e] at *; omega);have:=Z06 h1;refine Bnd.want fun h2=>Bnd.name fun s h3=>Bnd.want fun h4=>Bnd.bind (ih (.block false) _ _) fun c vs h5=>hk _ _ ?_;simp only [Job.base,Z18,Z2e,Z4v] at *; omega
   | value=>rw [Z0]; exact Bnd.within (ih' _ _ _ (by simp only [Job.base]; omega))
   | assign =>
     rw [Z0];refine Bnd.bind (ih (.bin 0) _ _) fun x us h=>Bnd.ite (fun h1=>Bnd.ite (fun _=>Bnd.bind (ih .value _ _) fun y vs h2=>Bnd.ok ?_) fun _=>Bnd.err) fun _=>Bnd.ok ?_;·have:=Z06 h1; simp only [Job.base,Z18,Z4v] at *; omega
     ·simp only [Job.base] at *; omega
   | bin level =>
     rw [Z0];refine Bnd.ite (fun h=>ih' _ _ _ (by simp only [Job.base]; omega)) fun h=>Bnd.bind (ih (.bin (level + 1)) _ _) fun x us h=>ih' _ _ _ (by simp only [Job.base] at *; omega)
   | binLoop level x =>
     rw [Z0];refine Bnd.ite (fun _=>Bnd.ok (by simp only [Job.base]; omega)) fun h0=>Bnd.bind (ih (.bin (level + 1)) _ _) fun y us h=>ih' _ _ _ ?_;have:=Z70 h0; simp only [Job.base,Z18,Z4v] at *; omega
   | unary =>
     rw [Z0];refine Bnd.ite (fun _=>ih' _ _ _ (by simp only [Job.base]; omega)) fun h0=>Bnd.bind (Bnd.within (ih .unary _ _)) fun y us h=>Bnd.ok ?_;have:=Z92 h0; simp only [Job.base,Z18,Z2e] at *; omega
   | postfix_ =>
     rw [Z0];exact Bnd.bind (ih .primary _ _) fun y us h=>ih' _ _ _ (by simp only [Job.base] at *; omega)
   | postLoop x =>
     rw [Z0];refine Bnd.ite (fun h=>Bnd.name fun s h2=>ih' _ _ _ ?_) fun _=>Bnd.ite (fun h=>?_) fun _=>Bnd.ok (by simp only [Job.base]; omega);·have:=Z06 h; simp only [Job.base,Z18,Z2e] at *; omega
     ·have:=Z06 h;exact Bnd.bind (ih (.args [x]) _ _) fun y us h=>ih' _ _ _ (by simp only [Job.base,Z2e] at *; omega)
   | args acc =>
     rw [Z0];refine Bnd.ite (fun h=>Bnd.ok ?_) fun _=>Bnd.comma fun us h=>Bnd.ite (fun _=>Bnd.fail) fun _=>Bnd.bind (ih .value _ _) fun y vs h2=>ih' _ _ _ ?_;·rw [Z18]; simp only [Job.base]; omega
     ·simp only [Job.base,Z68,Z2e] at *; omega
   | primary =>
     rw [Z0];have:=Z0u ts.tail;refine Bnd.ite (fun h=>Bnd.ok ?_) fun _=>Bnd.ite (fun h=>Bnd.ok ?_) fun _=>Bnd.ite (fun h=>Bnd.ok ?_) fun _=>Bnd.ite (fun h=>Bnd.ok ?_) fun _=>?_;·have:=Z3w (ts:=ts) (by omega); simp only [Job.base,Z18,Z34] at *; omega
     ·have:=Z3w (ts:=ts) (by omega); simp only [Job.base,Z18,Z34] at *; omega
     ·have:=Z3w (ts:=ts) (by omega); simp only [Job.base,Z18,Z34] at *; omega
     ·have:ts.tail.length < ts.length:=by
       unfold Z38 at h;by_cases h1:isT Z4z ts=true;·exact Z06 h1
       ·by_cases h2 : isT Z3z ts = true;·exact Z06 h2
        ·by_cases h3 : isT Z5r ts = true;·exact Z06 h3
         ·by_cases h4 : isT Z1o ts = true;·exact Z06 h4
          ·simp [h1,h2,h3,h4] at h
      simp only [Job.base,Z18,Z34] at *; omega
     refine Bnd.ite (fun _=>ih' _ _ _ (by simp only [Job.base]; omega)) fun _=>?_;refine Bnd.ite (fun _=>Bnd.ite (fun _=>ih' _ _ _ (by simp only [Job.base]; omega)) fun _=>ih' _ _ _ (by simp only [Job.base]; omega)) fun _=>?_;exact Bnd.ite (fun h=>ih' _ _ _ (by have:=Z06 h; simp only [Job.base,Z34]; omega)) fun _=>Bnd.fail
   | object acc =>
     rw [Z0];refine Bnd.ite (fun h=>Bnd.ok ?_) fun _=>Bnd.comma fun us h=>Bnd.ite (fun _=>Bnd.fail) fun _=>Bnd.name fun s h1=>Bnd.want fun h2=>Bnd.bind (ih .value _ _) fun y vs h3=>ih' _ _ _ ?_;·rw [Z18]; simp only [Job.base]; omega
     ·simp only [Job.base,Z68,Z2e,Z18] at *; omega
structure Ar (k:Int) (n:Nat):Prop where
 call:k=35→n≠0
 two:k=9∨k=8∨k=24∨k=5∨k=37→n=2
 if':k=7→n=2∨n=3
 one:k=13∨k=34→n=1
theorem Ar.any {k:Int} {n:Nat} (h:k≠35∧k≠9∧k≠8∧k≠24∧k≠5∧k≠37∧k≠7∧k≠13∧k≠34):Ar k n:=⟨by omega,by omega,by omega,by omega⟩
mutual
def WT:Tree→Prop
 | .mk k _ _ l=>Ar k l.length∧WTL l
def WTL:List Tree→Prop
 | []=>True
 | t :: l=>WT t∧WTL l
end
theorem Z9c {l m:List Tree} (h:WTL l) (g:WTL m):WTL (l ++ m):=by
 induction l with
 | nil=>exact g
 | cons x l ih=>exact ⟨h.1,ih h.2⟩
theorem WT.kids {t:Tree} (h:WT t):WTL t.kids:=by cases t; exact h.2
theorem WT.leaf {k:Int} {s:ByteArray} {n:Int} (h:k≠35∧k≠9∧k≠8∧k≠24∧k≠5∧k≠37∧k≠7∧k≠13∧k≠34):WT (.mk k s n []):=⟨Ar.any h,trivial⟩
def Sh (p:PR):Prop:=∀ t ts,p=some (.ok (t,ts))→WT t
theorem Sh.fail {e:Int} {ts:List Tok}:Sh (Z2v e ts):=by intro t ts' h; cases h
theorem Sh.none:Sh none:=by intro t ts' h; cases h
theorem Sh.err {e:Int×Nat}:Sh (some (.error e)):=by intro t ts' h; cases h
theorem Sh.ok {t:Tree} {ts:List Tok} (h:WT t):Sh (okT t ts):=by
 intro t' ts' h';simp only [okT,Option.some.injEq,Except.ok.injEq,Prod.mk.injEq] at h';rw [← h'.1]; exact h
theorem Sh.bind {p:PR} {k:Tree→List Tok→PR} (hp:Sh p) (hk:∀ t ts,WT t→Sh (k t ts)):Sh (Z01 p k):=by
 cases p with
 | none=>exact Sh.none
 | some r =>
   cases r with
   | error e=>exact Sh.err
   | ok x=>obtain ⟨t,ts⟩:=x; exact hk t ts (hp t ts rfl)
theorem Sh.want {s:ByteArray} {ts:List Tok} {k:List Tok→PR} (hk:Sh (k ts.tail)):Sh (Z10 s ts k):=by
 unfold Z10;by_cases h:isT s ts=true;·rw [Yb h]; exact hk
 ·rw [Y9 h]; exact Sh.fail
theorem Sh.name {ts:List Tok} {k:ByteArray→List Tok→PR} (hk:∀ s,Sh (k s ts.tail)):Sh (Z3n ts k):=by
 unfold Z3n;by_cases h:(hdT ts).kind=1;·rw [Yb h]; exact hk _
 ·rw [Y9 h]; exact Sh.fail
theorem Sh.within {d:Nat} {ts:List Tok} {p:PR} (h:Sh p):Sh (Z0v d ts p):=by
 unfold Z0v;by_cases h':30 < d + 1;·rw [Yb h']; exact Sh.fail
 ·rw [Y9 h']; exact h
theorem Sh.ite {c:Prop} [Decidable c] {p q:PR} (hp:c→Sh p) (hq:¬ c→Sh q):Sh (if c then p else q):=by
 by_cases h:c;·rw [Yb h]; exact hp h
 ·rw [Y9 h]; exact hq h
theorem Sh.comma {c:Prop} [Decidable c] {ts:List Tok} {k:List Tok→PR} (hk:∀ ts',Sh (k ts')):Sh ((if c then Z10 Z0z ts else fun k=>k ts) k):=by
 by_cases h:c;·rw [Yb h]; exact Sh.want (hk _)
 ·rw [Y9 h]; exact hk _
theorem Sh.end' {t:Tree} {ts:List Tok} (h:WT t):Sh (endT t ts):=Sh.want (Sh.ok h)
def Job.good:Job→Prop
 | .stmts kind acc=>(kind=1∨kind=6)∧WTL acc
 | .func kind _=>kind=5∨kind=37
 | .params acc=>WTL acc
 | .decl kind _=>kind=2∨kind=3∨kind=4
 | .binLoop _ x=>WT x
 | .postLoop x=>WT x
 | .args acc=>WTL acc∧acc≠[]
 | .object acc=>WTL acc
 | _=>True
theorem Zii (lv:Nat) (ts:List Tok):Z1r lv ts=0∨(25≤Z1r lv ts∧Z1r lv ts≤31):=by
 unfold Z1r;split <;> (try split) <;> (try split) <;> omega
theorem Zif (ts:List Tok):Z2w ts=0∨(32≤Z2w ts∧Z2w ts≤34):=by
 unfold Z2w;split <;> (try split) <;> (try split) <;> omega
theorem Zik (ts:List Tok):Z38 ts=0∨(19≤Z38 ts∧Z38 ts≤22):=by
 unfold Z38;split <;> (try split) <;> (try split) <;> (try split) <;> omega
theorem Zaq {k:Int} {s:ByteArray} {n:Int} {x y:Tree} (hx:WT x) (hy:WT y) (h:k≠13∧k≠34):WT (.mk k s n [x,y]):=
 ⟨⟨fun _=>by simp,fun _=>rfl,fun _=>.inl rfl,fun h'=>by omega⟩,hx,hy,trivial⟩
theorem Z7t {k:Int} {s:ByteArray} {n:Int} {x:Tree} (hx:WT x) (h:k≠9∧k≠8∧k≠24∧k≠5∧k≠37∧k≠7):WT (.mk k s n [x]):=
 ⟨⟨fun _=>by simp,fun h'=>by omega,fun h'=>by omega,fun _=>rfl⟩,hx,trivial⟩
theorem Z85 {k:Int} {s:ByteArray} {n:Int} {l:List Tree} (hx:WTL l) (h:k≠35∧k≠9∧k≠8∧k≠24∧k≠5∧k≠37∧k≠7∧k≠13∧k≠34):WT (.mk k s n l):=⟨Ar.any h,hx⟩
theorem Zda:∀ (f:Nat) (job:Job) (d:Nat) (ts:List Tok),job.good→Sh (Z0 f job d ts):=by
 intro f;induction f with
 | zero=>intro job d ts _; unfold Z0; exact Sh.none
 | succ f ih =>
   intro job d ts hg;cases job with
   | stmts kind acc =>
     unfold Z0;refine Sh.ite (fun _=>Sh.ok (Z85 hg.2 (by have:=hg.1; omega))) fun _=>?_;exact Sh.bind (Sh.within (ih .stmt _ _ trivial)) fun t ts' h=>ih _ _ _ ⟨hg.1,Z9c hg.2 ⟨h,trivial⟩⟩
   | block body =>
     unfold Z0;refine Sh.want (Sh.bind (ih (.stmts 6 []) _ _ ⟨.inr rfl,trivial⟩) fun t ts' h'=>Sh.want (Sh.ok ?_));by_cases hb:body=true;·rw [Yb hb]; exact h'
     ·rw [Y9 hb]; exact Z85 h'.kids (by omega)
   | func kind text =>
     unfold Z0;exact Sh.want (Sh.bind (ih (.params []) _ _ trivial) fun t ts' h'=>Sh.want (Sh.bind (ih (.block true) _ _ trivial) fun t ts' h3=>Sh.ok (Zaq h' h3 (by have:kind=5∨kind=37:=hg; omega))))
   | params acc =>
     unfold Z0;refine Sh.ite (fun _=>Sh.ok (Z85 hg (by omega))) fun _=>?_;exact Sh.comma fun ts'=>Sh.ite (fun _=>Sh.fail) fun _=>Sh.name fun s=>ih _ _ _ (Z9c hg ⟨WT.leaf (by omega),trivial⟩)
   | around =>
     unfold Z0;exact Sh.want (Sh.bind (ih .value _ _ trivial) fun t ts' h'=>Sh.want (Sh.ok h'))
   | stmt =>
     unfold Z0;refine Sh.ite (fun h=>ih _ _ _ trivial) fun _=>?_;refine Sh.ite (fun h=>Sh.ok (WT.leaf (by omega))) fun _=>?_;refine Sh.ite (fun h=>Sh.bind (ih (.decl 2 false) _ _ (.inl rfl)) fun t us h2=>Sh.end' h2) fun _=>?_;refine Sh.ite (fun h=>Sh.bind (ih (.decl 3 false) _ _ (.inr (.inl rfl))) fun t us h2=>Sh.end' h2) fun _=>?_;refine Sh.ite (fun h=>Sh.bind (ih (.decl 4 true) _ _ (.inr (.inr rfl))) fun t us h2=>Sh.end' h2) fun _=>?_;refine Sh.ite (fun h=>Sh.name fun s=>ih _ _ _ (.inl rfl)) fun _=>?_
     refine Sh.ite (fun h=>Sh.bind (ih .around _ _ trivial) fun x us h2=>Sh.bind (Sh.within (ih .stmt _ _ trivial)) fun y vs h3=>Sh.ite (fun h4=>Sh.bind (Sh.within (ih .stmt _ _ trivial)) fun z xs h5=>Sh.ok ⟨⟨by omega,by omega,fun _=>.inr rfl,by omega⟩,h2,h3,h5,trivial⟩) fun _=>Sh.ok (Zaq h2 h3 (by omega))) fun _=>?_;refine Sh.ite (fun h=>Sh.bind (ih .around _ _ trivial) fun t us h2=>Sh.bind (Sh.within (ih .stmt _ _ trivial)) fun t vs h3=>Sh.ok (Zaq h2 h3 (by omega))) fun _=>?_
     refine Sh.ite (fun h=>Sh.bind (ih .around _ _ trivial) fun t us h2=>Sh.bind (Sh.within (ih .stmt _ _ trivial)) fun t vs h3=>Sh.ok (Zaq h2 h3 (by omega))) fun _=>?_;refine Sh.ite (fun h=>Sh.ite (fun h1=>Sh.end' (WT.leaf (by omega))) (fun _=>Sh.bind (ih .value _ _ trivial) fun t us h2=>Sh.end' (Z7t h2 (by omega)))) fun _=>?_;refine Sh.ite (fun h=>Sh.bind (ih .value _ _ trivial) fun t us h2=>Sh.end' (Z7t h2 (by omega))) fun _=>?_;refine Sh.ite (fun h=>ih _ _ _ trivial) fun _=>?_;exact Sh.bind (ih .value _ _ trivial) fun t us h2=>Sh.end' (Z7t h2 (by omega))
   | decl kind must =>
     have hk:kind=2∨kind=3∨kind=4:=hg;unfold Z0;exact Sh.name fun s=>Sh.ite (fun _=>Sh.fail) fun _=>Sh.ite (fun h2=>Sh.bind (ih .value _ _ trivial) fun t us h3=>Sh.ok (Z7t h3 (by omega))) fun _=>Sh.ok (WT.leaf (by omega))
   | try_ =>
     unfold Z0;refine Sh.bind (ih (.block false) _ _ trivial) fun b us h=>?_;have hk:∀ (l:List Tree) (vs:List Tok),WTL l→Sh (if isT Z03 vs then Z01 (Z0 f (.block false) d vs.tail) fun c ts=>okT (.mk 12 ByteArray.empty 0 (l ++ [.mk 14 ByteArray.empty 0 [c]])) ts else if l.length=1 then Z2v 3 vs else okT (.mk 12 ByteArray.empty 0 l) vs):=by
      intro l vs h2;exact Sh.ite (fun _=>Sh.bind (ih (.block false) _ _ trivial) fun t xs h3=>Sh.ok (Z85 (Z9c h2 ⟨Z7t h3 (by omega),trivial⟩) (by omega))) fun _=>Sh.ite (fun _=>Sh.fail) fun _=>Sh.ok (Z85 h2 (by omega))
     refine Sh.ite (fun h1=>?_) fun _=>hk _ _ ⟨h,trivial⟩;exact Sh.want (Sh.name fun s=>Sh.want (Sh.bind (ih (.block false) _ _ trivial) fun c vs h5=>hk _ _ ⟨h,Z7t h5 (by omega),trivial⟩))
   | value=>unfold Z0; exact Sh.within (ih _ _ _ trivial)
   | assign =>
     unfold Z0;exact Sh.bind (ih (.bin 0) _ _ trivial) fun x us h=>Sh.ite (fun h1=>Sh.ite (fun _=>Sh.bind (ih .value _ _ trivial) fun y vs h2=>Sh.ok (Zaq h h2 (by omega))) fun _=>Sh.err) fun _=>Sh.ok h
   | bin level =>
     unfold Z0;exact Sh.ite (fun _=>ih _ _ _ trivial) fun _=>Sh.bind (ih (.bin (level + 1)) _ _ trivial) fun x us h=>ih _ _ _ h
   | binLoop level x =>
     unfold Z0;exact Sh.ite (fun _=>Sh.ok hg) fun h0=>Sh.bind (ih (.bin (level + 1)) _ _ trivial) fun y us h=>ih _ _ _ (show Job.good (.binLoop level (.mk (Z1r level ts) ByteArray.empty 0 [x,y])) from Zaq (s:=ByteArray.empty) (n:=0) hg h (by have:=Zii level ts; omega))
   | unary =>
     unfold Z0;exact Sh.ite (fun _=>ih _ _ _ trivial) fun h0=>Sh.bind (Sh.within (ih .unary _ _ trivial)) fun x us h=>Sh.ok (Z7t h (by have:=Zif ts; omega))
   | postfix_ =>
     unfold Z0;exact Sh.bind (ih .primary _ _ trivial) fun x us h=>ih _ _ _ h
   | postLoop x =>
     unfold Z0;exact Sh.ite (fun _=>Sh.name fun s=>ih _ _ _ (show Job.good (.postLoop (.mk 36 s 0 [x])) from Z7t (s:=s) (n:=0) hg (by omega))) fun _=>Sh.ite (fun _=>Sh.bind (ih (.args [x]) _ _ ⟨⟨hg,trivial⟩,by simp⟩) fun n us h=>ih _ _ _ h) fun _=>Sh.ok hg
   | args acc =>
     unfold Z0;refine Sh.ite (fun _=>Sh.ok ⟨⟨fun _=>by have:=hg.2; simpa using this,by omega,by omega,by omega⟩,hg.1⟩) fun _=>?_;exact Sh.comma fun ts'=>Sh.ite (fun _=>Sh.fail) fun _=>Sh.bind (ih .value _ _ trivial) fun v us h=>ih _ _ _ ⟨Z9c hg.1 ⟨h,trivial⟩,by simp⟩
   | primary =>
     unfold Z0;refine Sh.ite (fun h=>Sh.ok (WT.leaf (by omega))) fun _=>?_;refine Sh.ite (fun h=>Sh.ok (WT.leaf (by omega))) fun _=>?_;refine Sh.ite (fun h=>Sh.ok (WT.leaf (by omega))) fun _=>?_;refine Sh.ite (fun h=>Sh.ok (WT.leaf (by have:=Zik ts; omega))) fun _=>?_;refine Sh.ite (fun h=>ih _ _ _ trivial) fun _=>?_;refine Sh.ite (fun h=>Sh.ite (fun _=>ih _ _ _ (.inr rfl)) fun _=>ih _ _ _ (.inr rfl)) fun _=>?_;exact Sh.ite (fun h=>ih _ _ _ trivial) fun _=>Sh.fail
   | object acc =>
     unfold Z0;refine Sh.ite (fun _=>Sh.ok (Z85 hg (by omega))) fun _=>?_;exact Sh.comma fun ts'=>Sh.ite (fun _=>Sh.fail) fun _=>Sh.name fun s=>Sh.want (Sh.bind (ih .value _ _ trivial) fun v us h=>ih _ _ _ (Z9c hg ⟨Z7t h (by omega),trivial⟩))
def WA (a:ATree):Prop:=∀ x∈a.subs,Ar x.kind x.kids.length
theorem WA.kid {a k:ATree} (h:WA a) (hk:k∈a.kids):WA k:=fun x hx=>h x (Z3f hk hx)
theorem WA.self {a:ATree} (h:WA a):Ar a.kind a.kids.length:=h a (Z1m a)
theorem WA.call {a:ATree} (h:WA a):Zbi a:=fun x hx h35 e=>(h x hx).call h35 (by rw [e]; rfl)
mutual
theorem Zlq:∀ (a:ATree),WT a.tree→WA a
 | .mk b v k t n ks, h => by
   intro x hx;simp only [ATree.tree,WT] at h;simp only [ATree.subs,List.mem_cons] at hx;rcases hx with rfl | hx
   ·simp only [ATree.kind,ATree.kids];have:=h.1;rw [Z2l,Yx] at this;exact this
   ·exact Zk8 ks h.2 x hx
theorem Zk8:∀ (l:List ATree),WTL (Z0t l)→∀ x∈Z0y l,Ar x.kind x.kids.length
 | [],_,x,hx=>by simp [Z0y] at hx
 | a :: l, h, x, hx => by
   simp only [Z0t,WTL] at h;simp only [Z0y,List.mem_append] at hx;rcases hx with hx | hx;·exact Zlq a h.1 x hx
   ·exact Zk8 l h.2 x hx
end
theorem Zk6 {l:List ATree} (h:l.length=2):∃ x y,l=[x,y]:=by
 match l,h with
 | [x,y],_=>exact ⟨x,y,rfl⟩
theorem Z9s (N:Nat→Nat) {l:List ATree} (h:∀ a∈l,∀ S st,((Z0x N a S st).map Us.at').Sublist (a.subs.map fun x=>(N x.b:Int))) (S:List Sc) (st:Bool) :
 ((Z1c N l S st).map Us.at').Sublist ((Z0y l).map fun x=>(N x.b:Int)):=by
 induction l with
 | nil=>simp [Z1c,Z0y]
 | cons a l ih =>
   simp only [Z1c,Z0y,List.map_append];exact List.Sublist.append (h a (by simp) S st) (ih fun x hx=>h x (by simp [hx]))
theorem Zh5 (N:Nat→Nat):∀ (m:Nat) (a:ATree),a.many≤m→∀ S st,((Z0x N a S st).map Us.at').Sublist (a.subs.map fun x=>(N x.b:Int)):=by
 intro m;induction m with
 | zero=>intro a h; obtain ⟨b,v,k,t,n,ks⟩:=a; simp [ATree.many] at h
 | succ m ih =>
   intro a hm S st;have hk:∀ x∈a.kids,x.many≤m:=fun x hx=>by have:=Z36 hx; omega
   obtain ⟨b,v,k,t,n,ks⟩:=a;simp only [ATree.kids] at hk;have HK:=fun S st=>Z9s N (fun x hx=>ih x (hk x hx)) S st;rw [Z0x.eq_def];simp only [ATree.subs,List.map_cons,ATree.b];by_cases h1:k=23
   ·rw [Yb h1];simp only [List.map_cons,List.map_nil];exact List.Sublist.cons_cons _ (List.nil_sublist _)
   rw [Y9 h1];by_cases h2:k=6;·rw [Yb h2]; exact (HK _ _).cons _
   rw [Y9 h2];by_cases h3:k=13;·rw [Yb h3]; exact (HK _ _).cons _
   rw [Y9 h3];by_cases h4:k=9
   ·rw [Yb h4];refine List.Sublist.cons _ ?_;match ks, hk with
    | [],_=>exact List.nil_sublist _
    | [_],_=>exact List.nil_sublist _
    | x :: y :: r, hk =>
      simp only [Z0y,List.map_append];exact List.Sublist.append (ih x (hk x (by simp)) _ _) ((ih y (hk y (by simp)) _ _).trans (List.sublist_append_left _ _))
   rw [Y9 h4];by_cases h5:k=5∨k=37
   ·rw [Yb h5];refine List.Sublist.cons _ ?_;match ks, hk with
    | [],_=>exact List.nil_sublist _
    | [_],_=>exact List.nil_sublist _
    | ps :: .mk b2 v2 k2 t2 n2 bks :: r, hk =>
      have hb:=hk (.mk b2 v2 k2 t2 n2 bks) (by simp);have hb2:∀ x∈bks,x.many≤m:=fun x hx=>by
       have:x.many < (ATree.mk b2 v2 k2 t2 n2 bks).many:=Z36 (a:=.mk b2 v2 k2 t2 n2 bks) hx;omega
      simp only [Z0y,List.map_append,ATree.subs,List.map_cons];refine List.Sublist.trans ?_ (List.sublist_append_right _ _);refine List.Sublist.trans ?_ (List.sublist_append_left _ _);exact (Z9s N (fun x hx=>ih x (hb2 x hx)) _ _).cons _
   rw [Y9 h5];exact (HK _ _).cons _
def ofF (a:ATree):List Us:=Z1c (numOf a) a.kids [⟨0,(a.kids.filter Z2j).map ATree.text,false⟩] (Z1w a)
theorem Zkg (a:ATree):(ofF a).length≤a.many:=by
 have h1:=(Z9s (numOf a) (fun x (_:x∈a.kids)=>Zh5 (numOf a) _ x (Y5 _)) [⟨0,(a.kids.filter Z2j).map ATree.text,false⟩] (Z1w a)).length_le;simp only [List.length_map,Z1d] at h1;obtain ⟨b,v,k,t,n,ks⟩:=a;simp only [ATree.many,ATree.kids,ofF] at *;omega
def Calm (a:ATree):Prop:=∀ x∈a.subs,x.kind≠9∧¬ (x.kind=35∧Z5w x=true)
theorem Calm.kid {a k:ATree} (h:Calm a) (hk:k∈a.kids):Calm k:=fun x hx=>h x (Z3f hk hx)
theorem Zgp {w0:World} {fb mb:Nat} {N:Nat→Nat} {L:List (Nat×Nat)}:∀ m,Zbj w0 fb mb N L WA m:=by
 intro m;induction m with
 | zero=>intro a B w S sv st out hm; obtain ⟨b,v,k,t,n,ks⟩:=a; simp [ATree.many] at hm
 | succ m ih =>
   intro a B w S sv st out hm hok hT hnum hlen hF hS;have hK:Z61 w0 fb mb N L WA m:=Zcz ih;have hkids:∀ k∈a.kids,WA k:=fun k hk=>hok.kid hk;have hmany:1≤a.many:=by obtain ⟨b,v,k,t,n,ks⟩:=a; simp [ATree.many]
   by_cases h1:a.kind=23;·exact Zih a B w S sv st out hT (hnum a (Z1m a)) (by omega) hF hS h1
   by_cases h2:a.kind=6;·exact Zfs hK a B w S sv st out hm hkids hT hnum hlen hF hS h2
   by_cases h3:a.kind=13;·exact Zf4 hK a B w S sv st out hm hkids hT hnum hlen hF hS h3
   by_cases h4:a.kind=9
   ·obtain ⟨x,y,hk⟩:=Zk6 (hok.self.two (.inl h4));exact Zh6 ih a B w S sv st out hm hkids hT hnum hlen hF hS h4 x y hk
   by_cases h5:a.kind=5∨a.kind=37
   ·obtain ⟨ps, bd, hk⟩ := Zk6 (hok.self.two (by omega));have hbd : bd ∈ a.kids := by rw [hk]; simp
    have hb:=hkids bd hbd;have hbk:∀ k∈bd.kids,WA k:=fun k hk=>hb.kid hk;exact Zhh hK a B w S sv st out hm hT hnum hlen hF hS h5 ps bd hk hbk hb.call
   ·exact Zfn hK a B w S sv st out hm hkids hT hnum hlen hF hS h1 h2 h3 h4 (fun h=>h5 (.inl h)) (fun h=>h5 (.inr h))
theorem Ziu {w0:World} {fb mb:Nat} {N:Nat→Nat} {L:List (Nat×Nat)} (m:Nat):Z61 w0 fb mb N L WA m:=Zcz (Zgp m)
theorem Zcs {w:World} {B:Nat} {a:ATree} (hT:TreeAt w B a):∀ x∈Z2g numG a [],Z3s w x.1:=by
 intro x hx;have h:x.1∈(Z2g numG a []).map (·.1):=List.mem_map.2 ⟨x,hx,rfl⟩;rw [Z8t] at h;simp only [List.map_nil,List.nil_append] at h;obtain ⟨y,hy,h2⟩:=List.mem_map.1 h;rw [← h2];exact (Z5v hT hy).cellsOf
theorem Zc2 {a:ATree} (hd:(a.subs.map ATree.b).Nodup):((Z2g numG a []).map (·.1)).Nodup:=by
 rw [Z8t];simpa using hd
theorem Zlp (w:World) (B:Nat) (a:ATree) (hT:TreeAt w B a) (hA:WA a) (hd:(a.subs.map ATree.b).Nodup) (hm:a.many < 274877906944) :
 Calls Tryz.prog 5 #[a.ptr] w fun e w'=>∃ v,e=.returned v∧w'.ownsRow w.heap.size 31 3 v (ofF a).length ((ofF a).flatMap Us.cells)∧Below w.heap.size w w':=by
 have hkl:=Z78 a;have HNU:=lh (Zeu w B a hT hd);have HLT:=lh (fun w1 (h:TreeAt w1 B a)=>Zic w1 B a h (by omega));have HST:=lh (fun w1 (h:TreeAt w1 B a)=>Zad w1 B a h);have HK:=lh (fun fb mb w1 S sv st h1 h2=>Ziu (w0:=w) (fb:=fb) (mb:=mb) (N:=numOf a) (L:=Z2g numG a []) a.many a B w1 S sv st [] (by omega) (fun k hk=>hA.kid hk) hT (Zbw a) (by simpa using hm) h1 h2);have HT:=lh hT;have HD:=lh hd;unfold ofF;clear hT hA hd hm hkl;unfold ATree.ptr at HNU HLT HST HK ⊢;go_enter Tryz.func5,Tryz.ntmps5
 go_wp2_with fail
 refine HNU.out.mono ?_;rintro e w1 ⟨mb,rfl,hmap,hb1,hle⟩;have hF0:FSt w w1.heap.size mb (numOf a) (Z2g numG a []) [] (w1.alloc (.cells #[.map (some mb),.slice none 0 0] 48)):=by
  obtain ⟨es,clock,hm1,hes⟩:=hmap;have hlt:=(Y6.1 hm1).1;exact ⟨hb1.alloc hb1.size _,⟨_,(Go.MapKept.heap_alloc w1 _).1,World.ownsRow_nil _ _ _ _⟩,hb1.size,⟨es,clock,((Go.MapKept.heap_alloc w1 _).2 _ hlt).trans hm1,hes⟩,Zcs HT.out,Zc2 HD.out⟩
 have hb2:Below w.heap.size w (w1.alloc (.cells #[.map (some mb),.slice none 0 0] 48)):=hb1.alloc hb1.size _;have HF0:=lh hF0;have HB2:=lh hb2;have HB1S:=lh hb1.size;clear hmap hb1 hle hF0 hb2 HNU;go_wp2_with fail
 refine (HLT.out _ (HT.out.bel HB2.out)).mono ?_;rintro e w2 ⟨v2,rfl,ht2,hb3⟩;obtain ⟨pv,nv,cv,rfl⟩:=ht2.slice;have HF1:=lh (HF0.out.on hb3);have hsz:(w1.alloc (.cells #[.map (some mb),.slice none 0 0] 48)).heap.size=w1.heap.size + 1:=by simp
 have hsz2:w1.heap.size + 1≤w2.heap.size:=by rw [← hsz]; exact hb3.size
 have HTX:=lh (ht2.base (show w.heap.size≤_ by rw [hsz]; exact Nat.le_succ_of_le HB1S.out));have HTW:=lh (HT.out.bel (HF1.out.bel.alloc HF1.out.bel.size (.cells #[.pointer none,.int .i64 0,.slice pv nv cv,.bool false] 54)));have HF2:=lh (HF1.out.on ((Y8 w2.heap.size w2).alloc (Y5 _) (.cells #[.pointer none,.int .i64 0,.slice pv nv cv,.bool false] 54)));have HS2:=lh (Z0w.new (w:=w2) (B:=w.heap.size) (l:=[]) (v:=.pointer none) (nv:=.slice pv nv cv) (s:=⟨0,(a.kids.filter Z2j).map ATree.text,false⟩) rfl HTX.out);clear ht2 hb3 hsz HLT;go_wp2_with fail
 refine (HST.out _ HTW.out).mono ?_;rintro e w' ⟨rfl,rfl⟩;go_wp2_with fail
 refine (HK.out _ _ _ _ _ _ HF2.out HS2.out).mono ?_;rintro e w4 ⟨rfl,hF4,hR4,_⟩;obtain ⟨ov,hb,hrow⟩:=hF4.cell;have f1:w4.cell? ⟨w1.heap.size,1,none⟩=some ov:=by simp [World.cell?,hb]
 rw [List.nil_append] at hrow;have HROW:=lh hrow;have HB4:=lh hF4.bel;clear hF4 hR4 hb hrow HK;go_wp2;go_ret;exact ⟨_,rfl,HROW.out,HB4.out⟩
def FAr (k:Int) (l:List Tree):Prop:=k=5∨k=37→∃ p b,l=[p,b]∧b.kind=6
theorem FAr.any {k:Int} {l:List Tree} (h:k≠5∧k≠37):FAr k l:=fun h'=>by omega
mutual
def FT:Tree→Prop
 | .mk k _ _ l=>FAr k l∧FTL l
def FTL:List Tree→Prop
 | []=>True
 | t :: l=>FT t∧FTL l
end
theorem Z90 {l m:List Tree} (h:FTL l) (g:FTL m):FTL (l ++ m):=by
 induction l with
 | nil=>exact g
 | cons x l ih=>exact ⟨h.1,ih h.2⟩
theorem FT.kids {t:Tree} (h:FT t):FTL t.kids:=by cases t; exact h.2
theorem FT.leaf {k:Int} {s:ByteArray} {n:Int} (h:k≠5∧k≠37):FT (.mk k s n []):=⟨FAr.any h,trivial⟩
def Fh (P:Tree→Prop) (p:PR):Prop:=∀ t ts,p=some (.ok (t,ts))→P t
theorem Fh.fail {P:Tree→Prop} {e:Int} {ts:List Tok}:Fh P (Z2v e ts):=by intro t ts' h; cases h
theorem Fh.none {P:Tree→Prop}:Fh P none:=by intro t ts' h; cases h
theorem Fh.err {P:Tree→Prop} {e:Int×Nat}:Fh P (some (.error e)):=by intro t ts' h; cases h
theorem Fh.ok {P:Tree→Prop} {t:Tree} {ts:List Tok} (h:P t):Fh P (okT t ts):=by
 intro t' ts' h';simp only [okT,Option.some.injEq,Except.ok.injEq,Prod.mk.injEq] at h';rw [← h'.1]; exact h
theorem Fh.bind {P Q:Tree→Prop} {p:PR} {k:Tree→List Tok→PR} (hp:Fh P p) (hk:∀ t ts,P t→Fh Q (k t ts)):Fh Q (Z01 p k):=by
 cases p with
 | none=>exact Fh.none
 | some r =>
   cases r with
   | error e=>exact Fh.err
   | ok x=>obtain ⟨t,ts⟩:=x; exact hk t ts (hp t ts rfl)
theorem Fh.want {P:Tree→Prop} {s:ByteArray} {ts:List Tok} {k:List Tok→PR} (hk:Fh P (k ts.tail)):Fh P (Z10 s ts k):=by
 unfold Z10;by_cases h:isT s ts=true;·rw [Yb h]; exact hk
 ·rw [Y9 h]; exact Fh.fail
theorem Fh.name {P:Tree→Prop} {ts:List Tok} {k:ByteArray→List Tok→PR} (hk:∀ s,Fh P (k s ts.tail)):Fh P (Z3n ts k):=by
 unfold Z3n;by_cases h:(hdT ts).kind=1;·rw [Yb h]; exact hk _
 ·rw [Y9 h]; exact Fh.fail
theorem Fh.within {P:Tree→Prop} {d:Nat} {ts:List Tok} {p:PR} (h:Fh P p):Fh P (Z0v d ts p):=by
 unfold Z0v;by_cases h':30 < d + 1;·rw [Yb h']; exact Fh.fail
 ·rw [Y9 h']; exact h
theorem Fh.ite {P:Tree→Prop} {c:Prop} [Decidable c] {p q:PR} (hp:c→Fh P p) (hq:¬ c→Fh P q):Fh P (if c then p else q):=by
 by_cases h:c;·rw [Yb h]; exact hp h
 ·rw [Y9 h]; exact hq h
theorem Fh.comma {P:Tree→Prop} {c:Prop} [Decidable c] {ts:List Tok} {k:List Tok→PR} (hk:∀ ts',Fh P (k ts')):Fh P ((if c then Z10 Z0z ts else fun k=>k ts) k):=by
 by_cases h:c;·rw [Yb h]; exact Fh.want (hk _)
 ·rw [Y9 h]; exact hk _
theorem Fh.end' {P:Tree→Prop} {t:Tree} {ts:List Tok} (h:P t):Fh P (endT t ts):=Fh.want (Fh.ok h)
theorem Fh.weak {P Q:Tree→Prop} {p:PR} (h:Fh P p) (g:∀ t,P t→Q t):Fh Q p:=fun t ts e=>g t (h t ts e)
def Job.res:Job→Tree→Prop
 | .stmts kind _=>fun t=>FT t∧t.kind=kind
 | .block _=>fun t=>FT t∧t.kind=6
 | _=>FT
def Job.goodX:Job→Prop
 | .stmts kind acc=>(kind=1∨kind=6)∧FTL acc
 | .func kind _=>kind=5∨kind=37
 | .params acc=>FTL acc
 | .decl kind _=>kind=2∨kind=3∨kind=4
 | .binLoop _ x=>FT x
 | .postLoop x=>FT x
 | .args acc=>FTL acc∧acc≠[]
 | .object acc=>FTL acc
 | _=>True
theorem Zhe (lv:Nat) (ts:List Tok):Z1r lv ts=0∨(25≤Z1r lv ts∧Z1r lv ts≤31):=by
 unfold Z1r;split <;> (try split) <;> (try split) <;> omega
theorem Zhc (ts:List Tok):Z2w ts=0∨(32≤Z2w ts∧Z2w ts≤34):=by
 unfold Z2w;split <;> (try split) <;> (try split) <;> omega
theorem Zhi (ts:List Tok):Z38 ts=0∨(19≤Z38 ts∧Z38 ts≤22):=by
 unfold Z38;split <;> (try split) <;> (try split) <;> (try split) <;> omega
theorem Zbs {k:Int} {s:ByteArray} {n:Int} {x y:Tree} (hx:FT x) (hy:FT y) (h:k≠5∧k≠37):FT (.mk k s n [x,y]):=⟨FAr.any h,hx,hy,trivial⟩
theorem Z7b {k:Int} {s:ByteArray} {n:Int} {x:Tree} (hx:FT x) (h:k≠5∧k≠37):FT (.mk k s n [x]):=⟨FAr.any h,hx,trivial⟩
theorem Z83 {k:Int} {s:ByteArray} {n:Int} {l:List Tree} (hx:FTL l) (h:k≠5∧k≠37):FT (.mk k s n l):=⟨FAr.any h,hx⟩
theorem Zdw:∀ (f:Nat) (job:Job) (d:Nat) (ts:List Tok),job.goodX→Fh job.res (Z0 f job d ts):=by
 intro f;induction f with
 | zero=>intro job d ts _; unfold Z0; exact Fh.none
 | succ f ih =>
   intro job d ts hg;cases job with
   | stmts kind acc =>
     unfold Z0;show Fh (fun t=>FT t∧t.kind=kind) _;refine Fh.ite (fun _=>Fh.ok ⟨Z83 hg.2 (by have:=hg.1; omega),rfl⟩) fun _=>?_;exact Fh.bind (Fh.within (ih .stmt _ _ trivial)) fun t ts' h=>ih _ _ _ ⟨hg.1,Z90 hg.2 ⟨h,trivial⟩⟩
   | block body =>
     unfold Z0;refine Fh.want (Fh.bind (ih (.stmts 6 []) _ _ ⟨.inr rfl,trivial⟩) fun t ts' h'=>Fh.want (Fh.ok ?_));show FT _∧_;by_cases hb:body=true;·rw [Yb hb]; exact h'
     ·rw [Y9 hb]; exact ⟨Z83 h'.1.kids (by omega),rfl⟩
   | func kind text =>
     unfold Z0;show Fh FT _;exact Fh.want (Fh.bind (ih (.params []) _ _ trivial) fun t ts' h'=>Fh.want (Fh.bind (ih (.block true) _ _ trivial) fun t ts' h3=>Fh.ok ⟨fun _=>⟨_,_,rfl,h3.2⟩,h',h3.1,trivial⟩))
   | params acc =>
     unfold Z0;show Fh FT _;refine Fh.ite (fun _=>Fh.ok (Z83 hg (by omega))) fun _=>?_;exact Fh.comma fun ts'=>Fh.ite (fun _=>Fh.fail) fun _=>Fh.name fun s=>ih _ _ _ (Z90 hg ⟨FT.leaf (by omega),trivial⟩)
   | around =>
     unfold Z0;show Fh FT _;exact Fh.want (Fh.bind (ih .value _ _ trivial) fun t ts' h'=>Fh.want (Fh.ok h'))
   | stmt =>
     unfold Z0;show Fh FT _;refine Fh.ite (fun h=>(ih (.block false) _ _ trivial).weak fun _ h=>h.1) fun _=>?_;refine Fh.ite (fun h=>Fh.ok (FT.leaf (by omega))) fun _=>?_;refine Fh.ite (fun h=>Fh.bind (ih (.decl 2 false) _ _ (.inl rfl)) fun t us h2=>Fh.end' h2) fun _=>?_;refine Fh.ite (fun h=>Fh.bind (ih (.decl 3 false) _ _ (.inr (.inl rfl))) fun t us h2=>Fh.end' h2) fun _=>?_;refine Fh.ite (fun h=>Fh.bind (ih (.decl 4 true) _ _ (.inr (.inr rfl))) fun t us h2=>Fh.end' h2) fun _=>?_;refine Fh.ite (fun h=>Fh.name fun s=>ih _ _ _ (.inl rfl)) fun _=>?_
     refine Fh.ite (fun h=>Fh.bind (ih .around _ _ trivial) fun x us h2=>Fh.bind (Fh.within (ih .stmt _ _ trivial)) fun y vs h3=>Fh.ite (fun h4=>Fh.bind (Fh.within (ih .stmt _ _ trivial)) fun z xs h5=>Fh.ok ⟨FAr.any (by omega),h2,h3,h5,trivial⟩) fun _=>Fh.ok (Zbs h2 h3 (by omega))) fun _=>?_;refine Fh.ite (fun h=>Fh.bind (ih .around _ _ trivial) fun t us h2=>Fh.bind (Fh.within (ih .stmt _ _ trivial)) fun t vs h3=>Fh.ok (Zbs h2 h3 (by omega))) fun _=>?_
     refine Fh.ite (fun h=>Fh.bind (ih .around _ _ trivial) fun t us h2=>Fh.bind (Fh.within (ih .stmt _ _ trivial)) fun t vs h3=>Fh.ok (Zbs h2 h3 (by omega))) fun _=>?_;refine Fh.ite (fun h=>Fh.ite (fun h1=>Fh.end' (FT.leaf (by omega))) (fun _=>Fh.bind (ih .value _ _ trivial) fun t us h2=>Fh.end' (Z7b h2 (by omega)))) fun _=>?_;refine Fh.ite (fun h=>Fh.bind (ih .value _ _ trivial) fun t us h2=>Fh.end' (Z7b h2 (by omega))) fun _=>?_;refine Fh.ite (fun h=>ih _ _ _ trivial) fun _=>?_;exact Fh.bind (ih .value _ _ trivial) fun t us h2=>Fh.end' (Z7b h2 (by omega))
   | decl kind must =>
     have hk:kind=2∨kind=3∨kind=4:=hg;unfold Z0;show Fh FT _;exact Fh.name fun s=>Fh.ite (fun _=>Fh.fail) fun _=>Fh.ite (fun h2=>Fh.bind (ih .value _ _ trivial) fun t us h3=>Fh.ok (Z7b h3 (by omega))) fun _=>Fh.ok (FT.leaf (by omega))
   | try_ =>
     unfold Z0;show Fh FT _;refine Fh.bind (ih (.block false) _ _ trivial) fun b us h=>?_;have hk:∀ (l:List Tree) (vs:List Tok),FTL l→Fh FT (if isT Z03 vs then Z01 (Z0 f (.block false) d vs.tail) fun c ts=>okT (.mk 12 ByteArray.empty 0 (l ++ [.mk 14 ByteArray.empty 0 [c]])) ts else if l.length=1 then Z2v 3 vs else okT (.mk 12 ByteArray.empty 0 l) vs):=by
      intro l vs h2;exact Fh.ite (fun _=>Fh.bind (ih (.block false) _ _ trivial) fun t xs h3=>Fh.ok (Z83 (Z90 h2 ⟨Z7b h3.1 (by omega),trivial⟩) (by omega))) fun _=>Fh.ite (fun _=>Fh.fail) fun _=>Fh.ok (Z83 h2 (by omega))
     refine Fh.ite (fun h1=>?_) fun _=>hk _ _ ⟨h.1,trivial⟩;exact Fh.want (Fh.name fun s=>Fh.want (Fh.bind (ih (.block false) _ _ trivial) fun c vs h5=>hk _ _ ⟨h.1,Z7b h5.1 (by omega),trivial⟩))
   | value=>unfold Z0; exact Fh.within (ih _ _ _ trivial)
   | assign =>
     unfold Z0;show Fh FT _;exact Fh.bind (ih (.bin 0) _ _ trivial) fun x us h=>Fh.ite (fun h1=>Fh.ite (fun _=>Fh.bind (ih .value _ _ trivial) fun y vs h2=>Fh.ok (Zbs h h2 (by omega))) fun _=>Fh.err) fun _=>Fh.ok h
   | bin level =>
     unfold Z0;show Fh FT _;exact Fh.ite (fun _=>ih _ _ _ trivial) fun _=>Fh.bind (ih (.bin (level + 1)) _ _ trivial) fun x us h=>ih _ _ _ h
   | binLoop level x =>
     unfold Z0;show Fh FT _;exact Fh.ite (fun _=>Fh.ok hg) fun h0=>Fh.bind (ih (.bin (level + 1)) _ _ trivial) fun y us h=>ih _ _ _ (show Job.goodX (.binLoop level (.mk (Z1r level ts) ByteArray.empty 0 [x,y])) from Zbs (s:=ByteArray.empty) (n:=0) hg h (by have:=Zhe level ts; omega))
   | unary =>
     unfold Z0;show Fh FT _;exact Fh.ite (fun _=>ih _ _ _ trivial) fun h0=>Fh.bind (Fh.within (ih .unary _ _ trivial)) fun x us h=>Fh.ok (Z7b h (by have:=Zhc ts; omega))
   | postfix_ =>
     unfold Z0;show Fh FT _;exact Fh.bind (ih .primary _ _ trivial) fun x us h=>ih _ _ _ h
   | postLoop x =>
     unfold Z0;show Fh FT _;exact Fh.ite (fun _=>Fh.name fun s=>ih _ _ _ (show Job.goodX (.postLoop (.mk 36 s 0 [x])) from Z7b (s:=s) (n:=0) hg (by omega))) fun _=>Fh.ite (fun _=>Fh.bind (ih (.args [x]) _ _ ⟨⟨hg,trivial⟩,by simp⟩) fun n us h=>ih _ _ _ h) fun _=>Fh.ok hg
   | args acc =>
     unfold Z0;show Fh FT _;refine Fh.ite (fun _=>Fh.ok ⟨FAr.any (by omega),hg.1⟩) fun _=>?_;exact Fh.comma fun ts'=>Fh.ite (fun _=>Fh.fail) fun _=>Fh.bind (ih .value _ _ trivial) fun v us h=>ih _ _ _ ⟨Z90 hg.1 ⟨h,trivial⟩,by simp⟩
   | primary =>
     unfold Z0;show Fh FT _;refine Fh.ite (fun h=>Fh.ok (FT.leaf (by omega))) fun _=>?_;refine Fh.ite (fun h=>Fh.ok (FT.leaf (by omega))) fun _=>?_;refine Fh.ite (fun h=>Fh.ok (FT.leaf (by omega))) fun _=>?_;refine Fh.ite (fun h=>Fh.ok (FT.leaf (by have:=Zhi ts; omega))) fun _=>?_;refine Fh.ite (fun h=>ih _ _ _ trivial) fun _=>?_;refine Fh.ite (fun h=>Fh.ite (fun _=>ih _ _ _ (.inr rfl)) fun _=>ih _ _ _ (.inr rfl)) fun _=>?_;exact Fh.ite (fun h=>ih _ _ _ trivial) fun _=>Fh.fail
   | object acc =>
     unfold Z0;show Fh FT _;refine Fh.ite (fun _=>Fh.ok (Z83 hg (by omega))) fun _=>?_;exact Fh.comma fun ts'=>Fh.ite (fun _=>Fh.fail) fun _=>Fh.name fun s=>Fh.want (Fh.bind (ih .value _ _ trivial) fun v us h=>ih _ _ _ (Z90 hg ⟨Z7b h (by omega),trivial⟩))
theorem Za5 {text:ByteArray} {t:Tree} (h:Z0o text=.ok t):FT t∧t.kind=1:=by
 unfold Z0o at h;split at h;·cases h
 ·split at h;·cases h
  ·rename_i ts _;split at h;·cases h
   ·cases h
   ·rename_i t' ts' hp;split at h;·cases h
    ·have e : t' = t := by simpa using h
     subst e;exact Zdw _ _ _ _ (show Job.goodX (.stmts 1 []) from ⟨.inl rfl,trivial⟩) _ _ hp
end Go.Proofs.YtfilfhpfndaniaaGreatDoor
