import Derived.Test.YtkjdnecemhilpaaGreatDoorJ12
set_option maxRecDepth 100000
set_option linter.all false
namespace Go.Proofs.YtkjdnecemhilpaaGreatDoor
open Go Go.RowKit Go.Proofs.Tryz Tryz
def Ge(ts:List Tok):Prop:=∃p e,ts=p++[e]/\e.kind=6
def Ge.tl{ts:List Tok}(g:Ge ts)(h:(al ts).kind≠6):Ge ts.tail:=by
 obtain⟨p,e,rfl,he⟩:=g;cases p with
 |nil=>exact absurd he h
 |cons x p=>exact⟨p,e,rfl,he⟩
theorem Ge.t1{s:kB}{ts:List Tok}(g:Ge ts)(h:ad s ts=true):Ge ts.tail:=g.tl λe=>by simp[ad,e]at h
theorem Ge.t2{ts:List Tok}(g:Ge ts)(h:¬zg ts=0):Ge ts.tail:=g.tl λe=>h (by simp[zg,ad,e])
theorem Ge.t3{l:Nat}{ts:List Tok}(g:Ge ts)(h:¬xN l ts=0):Ge ts.tail:=g.tl λe=>h (by unfold xN;split<;>simp[ad,e])
theorem Ge.t4{ts:List Tok}(g:Ge ts)(h:AJ ts≠0):Ge ts.tail:=g.tl λe=>h (by simp[AJ,ad,e])
theorem Ge.t5{ts:List Tok}(g:Ge ts)(h:(al ts).kind=1):Ge ts.tail:=g.tl Qe
theorem Ge.t6{ts:List Tok}(g:Ge ts)(h:(al ts).kind=3):Ge ts.tail:=g.tl Qe
theorem Ge.t7{ts:List Tok}(g:Ge ts)(h:(al ts).kind=4):Ge ts.tail:=g.tl Qe
def Eh(P:Tree->Prop)(p:PR):Prop:=∀t ts,p=some (.ok (t,ts))->Ge ts
theorem Eh.fail{P:Tree->Prop}{e:Int}{ts:List Tok}:Eh P (r' e ts):=by intro t ts' h;cases h
theorem Eh.none{P:Tree->Prop}:Eh P none:=by intro t ts' h;cases h
theorem Eh.err{P:Tree->Prop}{e:Int×Nat}:Eh P (some (.error e)):=by intro t ts' h;cases h
def Eh.ok{P:Tree->Prop}{t:Tree}{ts:List Tok}(g:Ge ts:=by first|assumption|exact Ge.t1 Qd Qd|exact Ge.t2 Qd Qd|exact Ge.t3 Qd Qd|exact Ge.t4 Qd Qd|exact Ge.t5 Qd Qd|exact Ge.t6 Qd Qd|exact Ge.t7 Qd Qd|exact Ge.t1 (Ge.t1 Qd Qd) Qd|exact Ge.t5 (Ge.t1 Qd Qd) Qd):Eh P (fH t ts):=by
 exact Zw0
def Eh.bind{P Q:Tree->Prop}{p:PR}{k:Tree->List Tok->PR}(hp:Eh P p)(hk:∀t ts,Ge ts->Eh Q (k t ts)):Eh Q (Zn p k):=by
 cases p with
 |none=>exact Eh.none
 |some r=>
   cases r with
   |error e=>exact Eh.err
   |ok x=>obtain⟨t,ts⟩:=x;exact hk t ts (hp t ts rfl)
def Eh.want{P:Tree->Prop}{s:kB}{ts:List Tok}{k:List Tok->PR}(hk:Ge ts.tail->Eh P (k ts.tail))(g:Ge ts:=by first|assumption|exact Ge.t1 Qd Qd|exact Ge.t2 Qd Qd|exact Ge.t3 Qd Qd|exact Ge.t4 Qd Qd|exact Ge.t5 Qd Qd|exact Ge.t6 Qd Qd|exact Ge.t7 Qd Qd|exact Ge.t1 (Ge.t1 Qd Qd) Qd|exact Ge.t5 (Ge.t1 Qd Qd) Qd):Eh P (iE s ts k):=by
 unfold iE;by_cases h:ad s ts=true;·rw[Y5 h];exact hk (g.t1 h)
 .rw[Y3 h];exact Eh.fail
def Eh.name{P:Tree->Prop}{ts:List Tok}{k:kB->List Tok->PR}(hk:∀s,Ge ts.tail->Eh P (k s ts.tail))(g:Ge ts:=by first|assumption|exact Ge.t1 Qd Qd|exact Ge.t2 Qd Qd|exact Ge.t3 Qd Qd|exact Ge.t4 Qd Qd|exact Ge.t5 Qd Qd|exact Ge.t6 Qd Qd|exact Ge.t7 Qd Qd|exact Ge.t1 (Ge.t1 Qd Qd) Qd|exact Ge.t5 (Ge.t1 Qd Qd) Qd):Eh P (tK ts k):=by
 unfold tK;by_cases h:(al ts).kind=1;·rw[Y5 h];exact hk _ (g.t5 h)
 .rw[Y3 h];exact Eh.fail
def Eh.within{P:Tree->Prop}{d:Nat}{ts:List Tok}{p:PR}(h:Eh P p):Eh P (qH d ts p):=by
 unfold qH;by_cases g:30<d+1;·rw[Y5 g];exact Eh.fail
 .rw[Y3 g];exact h
def Eh.ite{P:Tree->Prop}{c:Prop} [Decidable c]{p q:PR}(hp:c->Eh P p)(hq:¬c->Eh P q):Eh P (if c then p else q):=by
 exact TB
def Eh.comma{P:Tree->Prop}{c:Prop} [Decidable c]{ts:List Tok}{k:List Tok->PR}(hk:∀ts',Ge ts'->Eh P (k ts'))(g:Ge ts:=by first|assumption|exact Ge.t1 Qd Qd|exact Ge.t2 Qd Qd|exact Ge.t3 Qd Qd|exact Ge.t4 Qd Qd|exact Ge.t5 Qd Qd|exact Ge.t6 Qd Qd|exact Ge.t7 Qd Qd|exact Ge.t1 (Ge.t1 Qd Qd) Qd|exact Ge.t5 (Ge.t1 Qd Qd) Qd):Eh P ((if c then iE tV ts else λk=>k ts) k):=by
 by_cases h:c;·rw[Y5 h];exact Eh.want (hk _)
 .rw[Y3 h];exact hk _ g
theorem Eh.end'{P:Tree->Prop}{t:Tree}{ts:List Tok}(g:Ge ts:=by first|assumption|exact Ge.t1 Qd Qd|exact Ge.t2 Qd Qd|exact Ge.t3 Qd Qd|exact Ge.t4 Qd Qd|exact Ge.t5 Qd Qd|exact Ge.t6 Qd Qd|exact Ge.t7 Qd Qd|exact Ge.t1 (Ge.t1 Qd Qd) Qd|exact Ge.t5 (Ge.t1 Qd Qd) Qd):Eh P (po t ts):=Eh.want λ_=>Eh.ok
def Zcp:∀(f:Nat) (p:Job) (d:Nat) (ts:List Tok),Ge ts->Eh (λ_=>True) (Z0 f p d ts):=by
 intro f;induction f with
 |zero=>intro p d ts _;unfold Z0;exact Eh.none
 |succ f g=>
   intro p d ts X;cases p with
   |stmts kind u=>
     unfold Z0;refine Eh.ite (λ_=>Eh.ok) λ_=>?_
     exact Eh.bind (Eh.within (g .stmt _ _ (by first|assumption|exact Ge.t1 Qd Qd|exact Ge.t2 Qd Qd|exact Ge.t3 Qd Qd|exact Ge.t4 Qd Qd|exact Ge.t5 Qd Qd|exact Ge.t6 Qd Qd|exact Ge.t7 Qd Qd|exact Ge.t1 (Ge.t1 Qd Qd) Qd|exact Ge.t5 (Ge.t1 Qd Qd) Qd))) λt ts' h=>g _ _ _ (by first|assumption|exact Ge.t1 Qd Qd|exact Ge.t2 Qd Qd|exact Ge.t3 Qd Qd|exact Ge.t4 Qd Qd|exact Ge.t5 Qd Qd|exact Ge.t6 Qd Qd|exact Ge.t7 Qd Qd|exact Ge.t1 (Ge.t1 Qd Qd) Qd|exact Ge.t5 (Ge.t1 Qd Qd) Qd)
   |block body=>
     unfold Z0;exact Eh.want (λ_=>Eh.bind (g (.stmts 6 []) _ _ (by first|assumption|exact Ge.t1 Qd Qd|exact Ge.t2 Qd Qd|exact Ge.t3 Qd Qd|exact Ge.t4 Qd Qd|exact Ge.t5 Qd Qd|exact Ge.t6 Qd Qd|exact Ge.t7 Qd Qd|exact Ge.t1 (Ge.t1 Qd Qd) Qd|exact Ge.t5 (Ge.t1 Qd Qd) Qd)) λt ts' I=>Eh.want (λ_=>Eh.ok))
   |func kind text=>
     unfold Z0
     exact Eh.want (λ_=>Eh.bind (g (.params []) _ _ (by first|assumption|exact Ge.t1 Qd Qd|exact Ge.t2 Qd Qd|exact Ge.t3 Qd Qd|exact Ge.t4 Qd Qd|exact Ge.t5 Qd Qd|exact Ge.t6 Qd Qd|exact Ge.t7 Qd Qd|exact Ge.t1 (Ge.t1 Qd Qd) Qd|exact Ge.t5 (Ge.t1 Qd Qd) Qd)) λt ts' I=>Eh.want (λ_=>Eh.bind (g (.block true) _ _ (by first|assumption|exact Ge.t1 Qd Qd|exact Ge.t2 Qd Qd|exact Ge.t3 Qd Qd|exact Ge.t4 Qd Qd|exact Ge.t5 Qd Qd|exact Ge.t6 Qd Qd|exact Ge.t7 Qd Qd|exact Ge.t1 (Ge.t1 Qd Qd) Qd|exact Ge.t5 (Ge.t1 Qd Qd) Qd)) λt ts' o=>Eh.ok))
   |params u=>
     unfold Z0;refine Eh.ite (λ_=>Eh.ok) λ_=>?_
     exact Eh.comma λts' _=>Eh.ite (λ_=>Eh.fail) λ_=>Eh.name λs _=>g _ _ _ (by first|assumption|exact Ge.t1 Qd Qd|exact Ge.t2 Qd Qd|exact Ge.t3 Qd Qd|exact Ge.t4 Qd Qd|exact Ge.t5 Qd Qd|exact Ge.t6 Qd Qd|exact Ge.t7 Qd Qd|exact Ge.t1 (Ge.t1 Qd Qd) Qd|exact Ge.t5 (Ge.t1 Qd Qd) Qd)
   |around=>
     unfold Z0;exact Eh.want (λ_=>Eh.bind (g .value _ _ (by first|assumption|exact Ge.t1 Qd Qd|exact Ge.t2 Qd Qd|exact Ge.t3 Qd Qd|exact Ge.t4 Qd Qd|exact Ge.t5 Qd Qd|exact Ge.t6 Qd Qd|exact Ge.t7 Qd Qd|exact Ge.t1 (Ge.t1 Qd Qd) Qd|exact Ge.t5 (Ge.t1 Qd Qd) Qd)) λt ts' I=>Eh.want (λ_=>Eh.ok))
   |stmt=>
     unfold Z0;refine Eh.ite (λh=>g (.block false) _ _ (by first|assumption|exact Ge.t1 Qd Qd|exact Ge.t2 Qd Qd|exact Ge.t3 Qd Qd|exact Ge.t4 Qd Qd|exact Ge.t5 Qd Qd|exact Ge.t6 Qd Qd|exact Ge.t7 Qd Qd|exact Ge.t1 (Ge.t1 Qd Qd) Qd|exact Ge.t5 (Ge.t1 Qd Qd) Qd)) λ_=>?_
     refine Eh.ite (λh=>Eh.ok) λ_=>?_
     refine Eh.ite (λh=>Eh.bind (g (.decl 2 false) _ _ (by first|assumption|exact Ge.t1 Qd Qd|exact Ge.t2 Qd Qd|exact Ge.t3 Qd Qd|exact Ge.t4 Qd Qd|exact Ge.t5 Qd Qd|exact Ge.t6 Qd Qd|exact Ge.t7 Qd Qd|exact Ge.t1 (Ge.t1 Qd Qd) Qd|exact Ge.t5 (Ge.t1 Qd Qd) Qd)) λt us m=>Eh.end') λ_=>?_
     refine Eh.ite (λh=>Eh.bind (g (.decl 3 false) _ _ (by first|assumption|exact Ge.t1 Qd Qd|exact Ge.t2 Qd Qd|exact Ge.t3 Qd Qd|exact Ge.t4 Qd Qd|exact Ge.t5 Qd Qd|exact Ge.t6 Qd Qd|exact Ge.t7 Qd Qd|exact Ge.t1 (Ge.t1 Qd Qd) Qd|exact Ge.t5 (Ge.t1 Qd Qd) Qd)) λt us m=>Eh.end') λ_=>?_
     refine Eh.ite (λh=>Eh.bind (g (.decl 4 true) _ _ (by first|assumption|exact Ge.t1 Qd Qd|exact Ge.t2 Qd Qd|exact Ge.t3 Qd Qd|exact Ge.t4 Qd Qd|exact Ge.t5 Qd Qd|exact Ge.t6 Qd Qd|exact Ge.t7 Qd Qd|exact Ge.t1 (Ge.t1 Qd Qd) Qd|exact Ge.t5 (Ge.t1 Qd Qd) Qd)) λt us m=>Eh.end') λ_=>?_
     refine Eh.ite (λh=>Eh.name λs _=>g _ _ _ (by first|assumption|exact Ge.t1 Qd Qd|exact Ge.t2 Qd Qd|exact Ge.t3 Qd Qd|exact Ge.t4 Qd Qd|exact Ge.t5 Qd Qd|exact Ge.t6 Qd Qd|exact Ge.t7 Qd Qd|exact Ge.t1 (Ge.t1 Qd Qd) Qd|exact Ge.t5 (Ge.t1 Qd Qd) Qd)) λ_=>?_
     refine Eh.ite (λh=>Eh.bind (g .around _ _ (by first|assumption|exact Ge.t1 Qd Qd|exact Ge.t2 Qd Qd|exact Ge.t3 Qd Qd|exact Ge.t4 Qd Qd|exact Ge.t5 Qd Qd|exact Ge.t6 Qd Qd|exact Ge.t7 Qd Qd|exact Ge.t1 (Ge.t1 Qd Qd) Qd|exact Ge.t5 (Ge.t1 Qd Qd) Qd)) λx us m=>Eh.bind (Eh.within (g .stmt _ _ (by first|assumption|exact Ge.t1 Qd Qd|exact Ge.t2 Qd Qd|exact Ge.t3 Qd Qd|exact Ge.t4 Qd Qd|exact Ge.t5 Qd Qd|exact Ge.t6 Qd Qd|exact Ge.t7 Qd Qd|exact Ge.t1 (Ge.t1 Qd Qd) Qd|exact Ge.t5 (Ge.t1 Qd Qd) Qd))) λy vs o=>Eh.ite (λY=>Eh.bind (Eh.within (g .stmt _ _ (by first|assumption|exact Ge.t1 Qd Qd|exact Ge.t2 Qd Qd|exact Ge.t3 Qd Qd|exact Ge.t4 Qd Qd|exact Ge.t5 Qd Qd|exact Ge.t6 Qd Qd|exact Ge.t7 Qd Qd|exact Ge.t1 (Ge.t1 Qd Qd) Qd|exact Ge.t5 (Ge.t1 Qd Qd) Qd))) λz O h5=>Eh.ok) λ_=>Eh.ok) λ_=>?_
     refine Eh.ite (λh=>Eh.bind (g .around _ _ (by first|assumption|exact Ge.t1 Qd Qd|exact Ge.t2 Qd Qd|exact Ge.t3 Qd Qd|exact Ge.t4 Qd Qd|exact Ge.t5 Qd Qd|exact Ge.t6 Qd Qd|exact Ge.t7 Qd Qd|exact Ge.t1 (Ge.t1 Qd Qd) Qd|exact Ge.t5 (Ge.t1 Qd Qd) Qd)) λt us m=>Eh.bind (Eh.within (g .stmt _ _ (by first|assumption|exact Ge.t1 Qd Qd|exact Ge.t2 Qd Qd|exact Ge.t3 Qd Qd|exact Ge.t4 Qd Qd|exact Ge.t5 Qd Qd|exact Ge.t6 Qd Qd|exact Ge.t7 Qd Qd|exact Ge.t1 (Ge.t1 Qd Qd) Qd|exact Ge.t5 (Ge.t1 Qd Qd) Qd))) λt vs o=>Eh.ok) λ_=>?_
     refine Eh.ite (λh=>Eh.bind (g .around _ _ (by first|assumption|exact Ge.t1 Qd Qd|exact Ge.t2 Qd Qd|exact Ge.t3 Qd Qd|exact Ge.t4 Qd Qd|exact Ge.t5 Qd Qd|exact Ge.t6 Qd Qd|exact Ge.t7 Qd Qd|exact Ge.t1 (Ge.t1 Qd Qd) Qd|exact Ge.t5 (Ge.t1 Qd Qd) Qd)) λt us m=>Eh.bind (Eh.within (g .stmt _ _ (by first|assumption|exact Ge.t1 Qd Qd|exact Ge.t2 Qd Qd|exact Ge.t3 Qd Qd|exact Ge.t4 Qd Qd|exact Ge.t5 Qd Qd|exact Ge.t6 Qd Qd|exact Ge.t7 Qd Qd|exact Ge.t1 (Ge.t1 Qd Qd) Qd|exact Ge.t5 (Ge.t1 Qd Qd) Qd))) λt vs o=>Eh.ok) λ_=>?_
     refine Eh.ite (λh=>Eh.ite (λJ=>Eh.end') (λ_=>Eh.bind (g .value _ _ (by first|assumption|exact Ge.t1 Qd Qd|exact Ge.t2 Qd Qd|exact Ge.t3 Qd Qd|exact Ge.t4 Qd Qd|exact Ge.t5 Qd Qd|exact Ge.t6 Qd Qd|exact Ge.t7 Qd Qd|exact Ge.t1 (Ge.t1 Qd Qd) Qd|exact Ge.t5 (Ge.t1 Qd Qd) Qd)) λt us m=>Eh.end')) λ_=>?_
     refine Eh.ite (λh=>Eh.bind (g .value _ _ (by first|assumption|exact Ge.t1 Qd Qd|exact Ge.t2 Qd Qd|exact Ge.t3 Qd Qd|exact Ge.t4 Qd Qd|exact Ge.t5 Qd Qd|exact Ge.t6 Qd Qd|exact Ge.t7 Qd Qd|exact Ge.t1 (Ge.t1 Qd Qd) Qd|exact Ge.t5 (Ge.t1 Qd Qd) Qd)) λt us m=>Eh.end') λ_=>?_
     refine Eh.ite (λh=>g _ _ _ (by first|assumption|exact Ge.t1 Qd Qd|exact Ge.t2 Qd Qd|exact Ge.t3 Qd Qd|exact Ge.t4 Qd Qd|exact Ge.t5 Qd Qd|exact Ge.t6 Qd Qd|exact Ge.t7 Qd Qd|exact Ge.t1 (Ge.t1 Qd Qd) Qd|exact Ge.t5 (Ge.t1 Qd Qd) Qd)) λ_=>?_
     exact Eh.bind (g .value _ _ (by first|assumption|exact Ge.t1 Qd Qd|exact Ge.t2 Qd Qd|exact Ge.t3 Qd Qd|exact Ge.t4 Qd Qd|exact Ge.t5 Qd Qd|exact Ge.t6 Qd Qd|exact Ge.t7 Qd Qd|exact Ge.t1 (Ge.t1 Qd Qd) Qd|exact Ge.t5 (Ge.t1 Qd Qd) Qd)) λt us m=>Eh.end'
   |decl kind Z=>
     unfold Z0
     exact Eh.name λs _=>Eh.ite (λ_=>Eh.fail) λ_=>Eh.ite (λm=>Eh.bind (g .value _ _ (by first|assumption|exact Ge.t1 Qd Qd|exact Ge.t2 Qd Qd|exact Ge.t3 Qd Qd|exact Ge.t4 Qd Qd|exact Ge.t5 Qd Qd|exact Ge.t6 Qd Qd|exact Ge.t7 Qd Qd|exact Ge.t1 (Ge.t1 Qd Qd) Qd|exact Ge.t5 (Ge.t1 Qd Qd) Qd)) λt us o=>Eh.ok) λ_=>Eh.ok
   |try_=>
     unfold Z0;refine Eh.bind (g (.block false) _ _ (by first|assumption|exact Ge.t1 Qd Qd|exact Ge.t2 Qd Qd|exact Ge.t3 Qd Qd|exact Ge.t4 Qd Qd|exact Ge.t5 Qd Qd|exact Ge.t6 Qd Qd|exact Ge.t7 Qd Qd|exact Ge.t1 (Ge.t1 Qd Qd) Qd|exact Ge.t5 (Ge.t1 Qd Qd) Qd)) λb us h=>?_
     have hk:∀(l:List Tree) (vs:List Tok),Ge vs->Eh (λ_=>True) (if ad Zl vs then Zn (Z0 f (.block false) d vs.tail) λc ts=>fH (.mk 12 ByteArray.empty 0 (l++[.mk 14 ByteArray.empty 0 [c]])) ts else if l.length=1 then r' 3 vs else fH (.mk 12 ByteArray.empty 0 l) vs):=by
      intro l vs m
      exact Eh.ite (λ_=>Eh.bind (g (.block false) _ _ (by first|assumption|exact Ge.t1 Qd Qd|exact Ge.t2 Qd Qd|exact Ge.t3 Qd Qd|exact Ge.t4 Qd Qd|exact Ge.t5 Qd Qd|exact Ge.t6 Qd Qd|exact Ge.t7 Qd Qd|exact Ge.t1 (Ge.t1 Qd Qd) Qd|exact Ge.t5 (Ge.t1 Qd Qd) Qd)) λt O o=>Eh.ok) λ_=>Eh.ite (λ_=>Eh.fail) λ_=>Eh.ok
     refine Eh.ite (λJ=>?_) λ_=>hk _ _ (by first|assumption|exact Ge.t1 Qd Qd|exact Ge.t2 Qd Qd|exact Ge.t3 Qd Qd|exact Ge.t4 Qd Qd|exact Ge.t5 Qd Qd|exact Ge.t6 Qd Qd|exact Ge.t7 Qd Qd|exact Ge.t1 (Ge.t1 Qd Qd) Qd|exact Ge.t5 (Ge.t1 Qd Qd) Qd)
     exact Eh.want (λ_=>Eh.name λs _=>Eh.want (λ_=>Eh.bind (g (.block false) _ _ (by first|assumption|exact Ge.t1 Qd Qd|exact Ge.t2 Qd Qd|exact Ge.t3 Qd Qd|exact Ge.t4 Qd Qd|exact Ge.t5 Qd Qd|exact Ge.t6 Qd Qd|exact Ge.t7 Qd Qd|exact Ge.t1 (Ge.t1 Qd Qd) Qd|exact Ge.t5 (Ge.t1 Qd Qd) Qd)) λc vs h5=>hk _ _ (by first|assumption|exact Ge.t1 Qd Qd|exact Ge.t2 Qd Qd|exact Ge.t3 Qd Qd|exact Ge.t4 Qd Qd|exact Ge.t5 Qd Qd|exact Ge.t6 Qd Qd|exact Ge.t7 Qd Qd|exact Ge.t1 (Ge.t1 Qd Qd) Qd|exact Ge.t5 (Ge.t1 Qd Qd) Qd)))
   |value=>unfold Z0;exact Eh.within (g _ _ _ (by first|assumption|exact Ge.t1 Qd Qd|exact Ge.t2 Qd Qd|exact Ge.t3 Qd Qd|exact Ge.t4 Qd Qd|exact Ge.t5 Qd Qd|exact Ge.t6 Qd Qd|exact Ge.t7 Qd Qd|exact Ge.t1 (Ge.t1 Qd Qd) Qd|exact Ge.t5 (Ge.t1 Qd Qd) Qd))
   |assign=>
     unfold Z0
     exact Eh.bind (g (.bin 0) _ _ (by first|assumption|exact Ge.t1 Qd Qd|exact Ge.t2 Qd Qd|exact Ge.t3 Qd Qd|exact Ge.t4 Qd Qd|exact Ge.t5 Qd Qd|exact Ge.t6 Qd Qd|exact Ge.t7 Qd Qd|exact Ge.t1 (Ge.t1 Qd Qd) Qd|exact Ge.t5 (Ge.t1 Qd Qd) Qd)) λx us h=>Eh.ite (λJ=>Eh.ite (λ_=>Eh.bind (g .value _ _ (by first|assumption|exact Ge.t1 Qd Qd|exact Ge.t2 Qd Qd|exact Ge.t3 Qd Qd|exact Ge.t4 Qd Qd|exact Ge.t5 Qd Qd|exact Ge.t6 Qd Qd|exact Ge.t7 Qd Qd|exact Ge.t1 (Ge.t1 Qd Qd) Qd|exact Ge.t5 (Ge.t1 Qd Qd) Qd)) λy vs m=>Eh.ok) λ_=>Eh.err) λ_=>Eh.ok
   |bin F=>
     unfold Z0
     exact Eh.ite (λ_=>g _ _ _ (by first|assumption|exact Ge.t1 Qd Qd|exact Ge.t2 Qd Qd|exact Ge.t3 Qd Qd|exact Ge.t4 Qd Qd|exact Ge.t5 Qd Qd|exact Ge.t6 Qd Qd|exact Ge.t7 Qd Qd|exact Ge.t1 (Ge.t1 Qd Qd) Qd|exact Ge.t5 (Ge.t1 Qd Qd) Qd)) λ_=>Eh.bind (g (.bin (F+1)) _ _ (by first|assumption|exact Ge.t1 Qd Qd|exact Ge.t2 Qd Qd|exact Ge.t3 Qd Qd|exact Ge.t4 Qd Qd|exact Ge.t5 Qd Qd|exact Ge.t6 Qd Qd|exact Ge.t7 Qd Qd|exact Ge.t1 (Ge.t1 Qd Qd) Qd|exact Ge.t5 (Ge.t1 Qd Qd) Qd)) λx us h=>g _ _ _ (by first|assumption|exact Ge.t1 Qd Qd|exact Ge.t2 Qd Qd|exact Ge.t3 Qd Qd|exact Ge.t4 Qd Qd|exact Ge.t5 Qd Qd|exact Ge.t6 Qd Qd|exact Ge.t7 Qd Qd|exact Ge.t1 (Ge.t1 Qd Qd) Qd|exact Ge.t5 (Ge.t1 Qd Qd) Qd)
   |binLoop F x=>
     unfold Z0
     exact Eh.ite (λ_=>Eh.ok) λU=>Eh.bind (g (.bin (F+1)) _ _ (by first|assumption|exact Ge.t1 Qd Qd|exact Ge.t2 Qd Qd|exact Ge.t3 Qd Qd|exact Ge.t4 Qd Qd|exact Ge.t5 Qd Qd|exact Ge.t6 Qd Qd|exact Ge.t7 Qd Qd|exact Ge.t1 (Ge.t1 Qd Qd) Qd|exact Ge.t5 (Ge.t1 Qd Qd) Qd)) λy us h=>g _ _ _ (by first|assumption|exact Ge.t1 Qd Qd|exact Ge.t2 Qd Qd|exact Ge.t3 Qd Qd|exact Ge.t4 Qd Qd|exact Ge.t5 Qd Qd|exact Ge.t6 Qd Qd|exact Ge.t7 Qd Qd|exact Ge.t1 (Ge.t1 Qd Qd) Qd|exact Ge.t5 (Ge.t1 Qd Qd) Qd)
   |unary=>
     unfold Z0
     exact Eh.ite (λ_=>g _ _ _ (by first|assumption|exact Ge.t1 Qd Qd|exact Ge.t2 Qd Qd|exact Ge.t3 Qd Qd|exact Ge.t4 Qd Qd|exact Ge.t5 Qd Qd|exact Ge.t6 Qd Qd|exact Ge.t7 Qd Qd|exact Ge.t1 (Ge.t1 Qd Qd) Qd|exact Ge.t5 (Ge.t1 Qd Qd) Qd)) λU=>Eh.bind (Eh.within (g .unary _ _ (by first|assumption|exact Ge.t1 Qd Qd|exact Ge.t2 Qd Qd|exact Ge.t3 Qd Qd|exact Ge.t4 Qd Qd|exact Ge.t5 Qd Qd|exact Ge.t6 Qd Qd|exact Ge.t7 Qd Qd|exact Ge.t1 (Ge.t1 Qd Qd) Qd|exact Ge.t5 (Ge.t1 Qd Qd) Qd))) λx us h=>Eh.ok
   |postfix_=>
     unfold Z0
     exact Eh.bind (g .primary _ _ (by first|assumption|exact Ge.t1 Qd Qd|exact Ge.t2 Qd Qd|exact Ge.t3 Qd Qd|exact Ge.t4 Qd Qd|exact Ge.t5 Qd Qd|exact Ge.t6 Qd Qd|exact Ge.t7 Qd Qd|exact Ge.t1 (Ge.t1 Qd Qd) Qd|exact Ge.t5 (Ge.t1 Qd Qd) Qd)) λx us h=>g _ _ _ (by first|assumption|exact Ge.t1 Qd Qd|exact Ge.t2 Qd Qd|exact Ge.t3 Qd Qd|exact Ge.t4 Qd Qd|exact Ge.t5 Qd Qd|exact Ge.t6 Qd Qd|exact Ge.t7 Qd Qd|exact Ge.t1 (Ge.t1 Qd Qd) Qd|exact Ge.t5 (Ge.t1 Qd Qd) Qd)
   |postLoop x=>
     unfold Z0
     exact Eh.ite (λ_=>Eh.name λs _=>g _ _ _ (by first|assumption|exact Ge.t1 Qd Qd|exact Ge.t2 Qd Qd|exact Ge.t3 Qd Qd|exact Ge.t4 Qd Qd|exact Ge.t5 Qd Qd|exact Ge.t6 Qd Qd|exact Ge.t7 Qd Qd|exact Ge.t1 (Ge.t1 Qd Qd) Qd|exact Ge.t5 (Ge.t1 Qd Qd) Qd)) λ_=>Eh.ite (λ_=>Eh.bind (g (.args [x]) _ _ (by first|assumption|exact Ge.t1 Qd Qd|exact Ge.t2 Qd Qd|exact Ge.t3 Qd Qd|exact Ge.t4 Qd Qd|exact Ge.t5 Qd Qd|exact Ge.t6 Qd Qd|exact Ge.t7 Qd Qd|exact Ge.t1 (Ge.t1 Qd Qd) Qd|exact Ge.t5 (Ge.t1 Qd Qd) Qd)) λn us h=>g _ _ _ (by first|assumption|exact Ge.t1 Qd Qd|exact Ge.t2 Qd Qd|exact Ge.t3 Qd Qd|exact Ge.t4 Qd Qd|exact Ge.t5 Qd Qd|exact Ge.t6 Qd Qd|exact Ge.t7 Qd Qd|exact Ge.t1 (Ge.t1 Qd Qd) Qd|exact Ge.t5 (Ge.t1 Qd Qd) Qd)) λ_=>Eh.ok
   |args u=>
     unfold Z0;refine Eh.ite (λ_=>Eh.ok) λ_=>?_
     exact Eh.comma λts' _=>Eh.ite (λ_=>Eh.fail) λ_=>Eh.bind (g .value _ _ (by first|assumption|exact Ge.t1 Qd Qd|exact Ge.t2 Qd Qd|exact Ge.t3 Qd Qd|exact Ge.t4 Qd Qd|exact Ge.t5 Qd Qd|exact Ge.t6 Qd Qd|exact Ge.t7 Qd Qd|exact Ge.t1 (Ge.t1 Qd Qd) Qd|exact Ge.t5 (Ge.t1 Qd Qd) Qd)) λv us h=>g _ _ _ (by first|assumption|exact Ge.t1 Qd Qd|exact Ge.t2 Qd Qd|exact Ge.t3 Qd Qd|exact Ge.t4 Qd Qd|exact Ge.t5 Qd Qd|exact Ge.t6 Qd Qd|exact Ge.t7 Qd Qd|exact Ge.t1 (Ge.t1 Qd Qd) Qd|exact Ge.t5 (Ge.t1 Qd Qd) Qd)
   |primary=>
     unfold Z0;refine Eh.ite (λh=>Eh.ok) λ_=>?_;refine Eh.ite (λh=>Eh.ok) λ_=>?_;refine Eh.ite (λh=>Eh.ok) λ_=>?_;refine Eh.ite (λh=>Eh.ok) λ_=>?_
     refine Eh.ite (λh=>g _ _ _ (by first|assumption|exact Ge.t1 Qd Qd|exact Ge.t2 Qd Qd|exact Ge.t3 Qd Qd|exact Ge.t4 Qd Qd|exact Ge.t5 Qd Qd|exact Ge.t6 Qd Qd|exact Ge.t7 Qd Qd|exact Ge.t1 (Ge.t1 Qd Qd) Qd|exact Ge.t5 (Ge.t1 Qd Qd) Qd)) λ_=>?_
     refine Eh.ite (λh=>Eh.ite (λ_=>g _ _ _ (by first|assumption|exact Ge.t1 Qd Qd|exact Ge.t2 Qd Qd|exact Ge.t3 Qd Qd|exact Ge.t4 Qd Qd|exact Ge.t5 Qd Qd|exact Ge.t6 Qd Qd|exact Ge.t7 Qd Qd|exact Ge.t1 (Ge.t1 Qd Qd) Qd|exact Ge.t5 (Ge.t1 Qd Qd) Qd)) λ_=>g _ _ _ (by first|assumption|exact Ge.t1 Qd Qd|exact Ge.t2 Qd Qd|exact Ge.t3 Qd Qd|exact Ge.t4 Qd Qd|exact Ge.t5 Qd Qd|exact Ge.t6 Qd Qd|exact Ge.t7 Qd Qd|exact Ge.t1 (Ge.t1 Qd Qd) Qd|exact Ge.t5 (Ge.t1 Qd Qd) Qd)) λ_=>?_
     exact Eh.ite (λh=>g _ _ _ (by first|assumption|exact Ge.t1 Qd Qd|exact Ge.t2 Qd Qd|exact Ge.t3 Qd Qd|exact Ge.t4 Qd Qd|exact Ge.t5 Qd Qd|exact Ge.t6 Qd Qd|exact Ge.t7 Qd Qd|exact Ge.t1 (Ge.t1 Qd Qd) Qd|exact Ge.t5 (Ge.t1 Qd Qd) Qd)) λ_=>Eh.fail
   |object u=>
     unfold Z0;refine Eh.ite (λ_=>Eh.ok) λ_=>?_
     exact Eh.comma λts' _=>Eh.ite (λ_=>Eh.fail) λ_=>Eh.name λs _=>Eh.want (λ_=>Eh.bind (g .value _ _ (by first|assumption|exact Ge.t1 Qd Qd|exact Ge.t2 Qd Qd|exact Ge.t3 Qd Qd|exact Ge.t4 Qd Qd|exact Ge.t5 Qd Qd|exact Ge.t6 Qd Qd|exact Ge.t7 Qd Qd|exact Ge.t1 (Ge.t1 Qd Qd) Qd|exact Ge.t5 (Ge.t1 Qd Qd) Qd)) λv us h=>g _ _ _ (by first|assumption|exact Ge.t1 Qd Qd|exact Ge.t2 Qd Qd|exact Ge.t3 Qd Qd|exact Ge.t4 Qd Qd|exact Ge.t5 Qd Qd|exact Ge.t6 Qd Qd|exact Ge.t7 Qd Qd|exact Ge.t1 (Ge.t1 Qd Qd) Qd|exact Ge.t5 (Ge.t1 Qd Qd) Qd))
def Eq2(t u:Tok):Prop:=t.kind=u.kind/\t.text=u.text/\t.n=u.n
def A2:List Tok->List Tok->Prop
 | [],[]=>True
 |x::p,y::q=>Eq2 x y/\A2 p q
 |_,_=>False
def Ex(e:Tok)(us ts vs:List Tok):Prop:=∃p g,ts=p++[e]/\vs=g++us/\A2 p g
def Ex.ge{e:Tok}{us ts vs:List Tok}(h:Ex e us ts vs)(he:e.kind=6):Ge ts:=by
 obtain⟨p,m,g,_,_⟩:=h;exact⟨p,e,g,he⟩
def Ex.step{e:Tok}{us ts vs:List Tok}(h:Ex e us ts vs)(hl:2<=ts.length):Eq2 (al ts) (al vs)/\Ex e us ts.tail vs.tail:=by
 obtain⟨p,m,rfl,rfl,g⟩:=h;cases p with
 |nil=>simp at hl
 |cons x p=>
   cases m with
   |nil=>exact g.elim
   |cons y q=>exact⟨g.1,p,q,rfl,rfl,g.2⟩
def Ex.last{e:Tok}{us ts vs:List Tok}(h:Ex e us ts vs)(hl:¬2<=ts.length):ts=[e]/\vs=us:=by
 obtain⟨p,g,rfl,rfl,m⟩:=h;cases p with
 |nil=>
   cases g with
   |nil=>exact⟨rfl,rfl⟩
   |cons y q=>exact m.elim
 |cons x p=>simp at hl
def Jr(E:Bool)(e:Tok)(us:List Tok)(p q:PR):Prop:=∀t ts',p=some (.ok (t,ts'))->(E=true->2<=ts'.length)->∃g,q=some (.ok (t,g))/\Ex e us ts' g
def Dd(E:Bool)(r:PR):Prop:=∀t ts',r=some (.ok (t,ts'))->E=true/\ts'.length<=1
section
variable {E:Bool}{e:Tok}{us:List Tok}
theorem Jr.fail{x:Int}{ts:List Tok}{q:PR}:Jr E e us (r' x ts) q:=by intro t ts' h;cases h
theorem Jr.err{x:Int×Nat}{q:PR}:Jr E e us (some (.error x)) q:=by intro t ts' h;cases h
theorem Jr.none{q:PR}:Jr E e us none q:=by intro t ts' h;cases h
theorem Jr.ok{t:Tree}{ts vs:List Tok}(h:Ex e us ts vs):Jr E e us (fH t ts) (fH t vs):=by
 intro t' ts' g _;simp only[fH,Option.some.injEq,Except.ok.injEq,Prod.mk.injEq]at g;obtain⟨rfl,rfl⟩:=g;exact⟨vs,rfl,h⟩
theorem Jr.weak{p q:PR}(h:Jr false e us p q):Jr E e us p q:=λt ts' g _=>h t ts' g (λh=>by cases h)
def Jr.bind{g:Bool}(he:e.kind=6){p q:PR}{k m:Tree->List Tok->PR}(hp:Jr g e us p q)(I:Eh (λ_=>True) p)(hd:g=true->∀t,∀x:Tok,x.kind=6->Dd E (k t [x]))
 (hk:∀t ts vs,Ex e us ts vs->Jr E e us (k t ts) (m t vs)):Jr E e us (Zn p k) (Zn q m):=by
 cases p with
 |none=>intro t ts h;cases h
 |some r=>
   cases r with
   |error x=>intro t ts h;cases h
   |ok x=>
     obtain⟨t,ts⟩:=x;intro t2 o h u;by_cases hc:g=true->2<=ts.length
     .obtain⟨vs,J,O⟩:=hp t ts rfl hc;rw[J];exact hk t ts vs O t2 o h u
     .exfalso;simp only[Classical.not_imp]at hc;obtain⟨y,F,G,U⟩:=I t ts rfl;have h5:y=[]:=by
       cases y with
       |nil=>rfl
       |cons x p=>rw[G]at hc;simp at hc
      subst h5;have X:=hd hc.1 t F U t2 o (by rw[<-List.nil_append [F],<-G];exact h);have:=u X.1;omega
theorem UE{x:Tok}(hx:x.kind=6)(s:kB):ad s [x]=false:=by simp[ad,al,hx]
def Zth(he:e.kind=6){ts vs:List Tok}(h:Ex e us ts vs){s:kB}(hs:ad s ts=true):2<=ts.length:=by
 by_cases hl:2<=ts.length;·exact hl
 .rw[(h.last hl).1,UE he]at hs;cases hs
def XC{ts vs:List Tok}(h:Ex e us ts vs)(hl:2<=ts.length)(s:kB):ad s vs=ad s ts:=by
 obtain⟨g,m,o⟩:=(h.step hl).1;unfold ad;rw[g,m]
def Jr.want(he:e.kind=6){s:kB}{ts vs:List Tok}{k g:List Tok->PR}(h:Ex e us ts vs)(hk:2<=ts.length->Ex e us ts.tail vs.tail->Jr E e us (k ts.tail) (g vs.tail)):Jr E e us (iE s ts k) (iE s vs g):=by
 unfold iE;by_cases hs:ad s ts=true
 .have hl:=Zth he h hs;rw[Y5 hs,Y5 (by rw[XC h hl];exact hs)];exact hk hl (h.step hl).2
 .rw[Y3 hs];exact Jr.fail
def Jr.name(he:e.kind=6){ts vs:List Tok}{k g:kB->List Tok->PR}(h:Ex e us ts vs)(hk:∀s,Ex e us ts.tail vs.tail->Jr E e us (k s ts.tail) (g s vs.tail)):Jr E e us (tK ts k) (tK vs g):=by
 unfold tK;by_cases hs:(al ts).kind=1
 .have hl:2<=ts.length:=by
   by_cases hl:2<=ts.length;·exact hl
   .rw[(h.last hl).1]at hs;simp[al]at hs;omega
  obtain⟨⟨m,o,u⟩,p⟩:=h.step hl;rw[Y5 hs,Y5 (by rw[<-m];exact hs),<-o];exact hk _ p
 .rw[Y3 hs];exact Jr.fail
def Jr.within{d:Nat}{ts vs:List Tok}{p q:PR}(h:Jr E e us p q):Jr E e us (qH d ts p) (qH d vs q):=by
 unfold qH;by_cases g:30<d+1;·rw[Y5 g,Y5 g];exact Jr.fail
 .rw[Y3 g,Y3 g];exact h
def Jr.ite{c:Prop} [Decidable c]{p q g m:PR}(hp:c->Jr E e us p g)(hq:¬c->Jr E e us q m):Jr E e us (if c then p else q) (if c then g else m):=by
 by_cases h:c;·rw[Y5 h,Y5 h];exact hp h
 .rw[Y3 h,Y3 h];exact hq h
theorem Jr.end'(he:e.kind=6){t:Tree}{ts vs:List Tok}(h:Ex e us ts vs):Jr E e us (po t ts) (po t vs):=Jr.want he h λ_ g=>Jr.ok g
def Jr.comma(he:e.kind=6){c:Prop} [Decidable c]{ts vs:List Tok}{k m:List Tok->PR}(h:Ex e us ts vs)(hk:∀ts vs,Ex e us ts vs->Jr E e us (k ts) (m vs)):Jr E e us ((if c then iE tV ts else λk=>k ts) k) ((if c then iE tV vs else λk=>k vs) m):=by
 by_cases g:c;·rw[Y5 g,Y5 g];exact Jr.want he h λ_ o=>hk _ _ o
 .rw[Y3 g,Y3 g];exact hk _ _ h
end
section
variable {E:Bool}{x:Tok}
theorem Dd.fail{y:Int}{ts:List Tok}:Dd E (r' y ts):=by intro t ts' h;cases h
theorem Dd.ok{t:Tree}:Dd true (fH t [x]):=by
 intro t' ts' h;simp only[fH,Option.some.injEq,Except.ok.injEq,Prod.mk.injEq]at h;obtain⟨rfl,rfl⟩:=h;exact⟨rfl,Y0 _⟩
def Dd.want(hx:x.kind=6){s:kB}{k:List Tok->PR}:Dd E (iE s [x] k):=by
 unfold iE;rw[Y3 (by rw[UE hx];simp)];exact Dd.fail
theorem Dd.never{r:PR}(h:∀t ts',r≠some (.ok (t,ts'))):Dd E r:=λt ts' g=>absurd g (h t ts')
def ZF(hx:x.kind=6){f:Nat}{g:Job}{d:Nat}(o:g.least=0):∀t ts',Z0 f g d [x]≠some (.ok (t,ts')):=by
 intro t ts' h;have m:=Ts f g d [x] t ts' h;obtain⟨p,e,u,_⟩:=Zcp f g d [x] ⟨[],x,rfl,hx⟩ t ts' h;rw[u]at m;simp[o]at m
theorem Dd.parse(hx:x.kind=6){f:Nat}{g:Job}{d:Nat}(m:g.least=0):Dd E (Z0 f g d [x]):=Dd.never (ZF hx m)
def Dd.loop{f:Nat}{g:Job}{d:Nat}(m:g.least=1):Dd true (Z0 f g d [x]):=by
 intro t ts' h;have o:=Ts f g d [x] t ts' h;simp[m]at o;exact⟨rfl,by omega⟩
def V6{p:PR}{k:Tree->List Tok->PR}(h:∀t ts',p≠some (.ok (t,ts'))):∀t ts',Zn p k≠some (.ok (t,ts')):=by
 intro t ts' g;cases p with
 |none=>cases g
 |some r=>
   cases r with
   |error y=>cases g
   |ok y=>obtain⟨t2,m⟩:=y;exact h t2 m rfl
def Z4n{d:Nat}{ts:List Tok}{p:PR}(h:∀t ts',p≠some (.ok (t,ts'))):∀t ts',qH d ts p≠some (.ok (t,ts')):=by
 intro t ts' g;unfold qH at g;split at g;·cases g
 .exact h t ts' g
end
def Job.expr:Job->Bool
 | .stmt=>false
 | .block _=>false
 | .func _ _=>false
 | .try_=>false
 | .stmts _ _=>false
 |_=>true
def Job.inner:Job->Prop
 | .stmts kind _=>kind≠1
 |_=>True
def Zix{e:Tok}{us:List Tok}(he:e.kind=6)(mh:ad Ub us=false)(kU:ad IL us=false)(nJ:ad Zl us=false) :
 ∀(f:Nat) (F:Job) (d:Nat) (ts vs:List Tok) (O:Nat),f<=O->Ex e us ts vs->F.inner->Jr F.expr e us (Z0 f F d ts) (Z0 O F d vs):=by
 intro f;induction f with
 |zero=>intro F d ts vs O _ _ _;unfold Z0;exact Jr.none
 |succ f ih=>
   intro F d ts vs O hf hx Z;obtain⟨g,rfl⟩:∃g,O=g+1:=⟨O-1,by omega⟩
   have dz:f<=g:=Qe
   have bq:=Zcp f;by_cases hl:2<=ts.length;rotate_left
   .obtain⟨h1,_⟩:=hx.last hl;rw[h1];intro t ts' h J;by_cases hj:F.least=0;·exact absurd h (ZF he hj t ts')
    .cases F with
     |stmts kind U=>
       exfalso;unfold Z0 at h;rw[Y3 (by rw[Y3 Z,UE he];simp)]at h;exact V6 (Z4n (ZF he rfl)) t ts' h
     |params U=>have:=Ts _ _ _ _ t ts' h;have:=J rfl;simp[Job.least]at *;omega
     |binLoop l x=>have:=Ts _ _ _ _ t ts' h;have:=J rfl;simp[Job.least]at *;omega
     |postLoop x=>have:=Ts _ _ _ _ t ts' h;have:=J rfl;simp[Job.least]at *;omega
     |_=>exact absurd rfl hj
   obtain⟨⟨kd,tx,nn⟩,ht⟩:=hx.step hl;have u:∀s,ad s vs=ad s ts:=λs=>XC hx hl s;have lv:∀l,xN l vs=xN l ts:=λl=>by unfold xN;simp only[u]
   have un:zg vs=zg ts:=by unfold zg;simp only[u]
   have cn:AJ vs=AJ ts:=by unfold AJ;simp only[u]
   have gt:∀{s},ad s ts=true->Ge ts.tail:=λh=>(hx.ge he).t1 h;cases F with
   |stmts kind U=>
     unfold Z0;have hk:kind≠1:=Z;simp only[if_neg hk,u];refine Jr.ite (λ_=>Jr.ok hx) λ_=>?_;exact Jr.bind he (Jr.within (ih .stmt _ _ _ g dz hx trivial)) (Eh.within (bq _ _ _ (hx.ge he))) (λh=>by cases h) λt ts vs h=>ih (.stmts kind _) _ _ _ g dz h hk
   |block body=>
     unfold Z0;refine Jr.want he hx λ_ h1=>Jr.bind he (ih (.stmts 6 []) _ _ _ g dz h1 (by show(6:Int)≠1;omega)) (bq _ _ _ (h1.ge he)) (λh=>by cases h) λt ts vs h=>Jr.want he h λ_ h2=>Jr.ok h2
   |func kind text=>
     unfold Z0;refine Jr.want he hx λ_ h1=>Jr.bind he (ih (.params []) _ _ _ g dz h1 trivial) (bq _ _ _ (h1.ge he)) (λ_ t x hx=>Dd.want hx) λt ts vs h=>Jr.want he h λ_ h2=>?_;exact Jr.bind he (ih (.block true) _ _ _ g dz h2 trivial) (bq _ _ _ (h2.ge he)) (λh=>by cases h) λt ts vs h=>Jr.ok h
   |params U=>
     unfold Z0;simp only[u];refine Jr.ite (λ_=>Jr.ok hx) λ_=>?_;exact Jr.comma he hx λts vs h=>Jr.ite (λ_=>Jr.fail) λ_=>Jr.name he h λs h2=>ih (.params _) _ _ _ g dz h2 trivial
   |around=>
     unfold Z0;exact Jr.want he hx λ_ h1=>Jr.bind he (ih .value _ _ _ g dz h1 trivial) (bq _ _ _ (h1.ge he)) (λ_ t x hx=>Dd.want hx) λt ts vs h=>Jr.want he h λ_ h2=>Jr.ok h2
   |stmt=>
     unfold Z0;simp only[u];have bW:∀(k:Int),∀(_:Tree) (x:Tok),x.kind=6->∀n:Tree,Dd false (po n [x]):=λ_ _ x hx n=>Dd.want hx;refine Jr.ite (λh=>ih (.block false) _ _ _ g dz hx trivial) λ_=>?_;refine Jr.ite (λh=>Jr.ok ht) λ_=>?_;refine Jr.ite (λh=>Jr.bind he (ih (.decl 2 false) _ _ _ g dz ht trivial) (bq _ _ _ (gt h)) (λ_ t x hx=>Dd.want hx) λt ts vs h=>Jr.end' he h) λ_=>?_
     refine Jr.ite (λh=>Jr.bind he (ih (.decl 3 false) _ _ _ g dz ht trivial) (bq _ _ _ (gt h)) (λ_ t x hx=>Dd.want hx) λt ts vs h=>Jr.end' he h) λ_=>?_;refine Jr.ite (λh=>Jr.bind he (ih (.decl 4 true) _ _ _ g dz ht trivial) (bq _ _ _ (gt h)) (λ_ t x hx=>Dd.want hx) λt ts vs h=>Jr.end' he h) λ_=>?_;refine Jr.ite (λh=>Jr.name he ht λs h2=>ih (.func 5 s) _ _ _ g dz h2 trivial) λ_=>?_;refine Jr.ite (λh=>?_) λ_=>?_
     .refine Jr.bind he (ih .around _ _ _ g dz ht trivial) (bq _ _ _ (gt h)) (λ_ t x hx=>Dd.never (V6 (Z4n (ZF hx rfl)))) λt ts vs h1=>?_;refine Jr.bind he (Jr.within (ih .stmt _ _ _ g dz h1 trivial)) (Eh.within (bq _ _ _ (h1.ge he))) (λh=>by cases h) λy ts vs h2=>?_;by_cases m:2<=ts.length
      .simp only[XC h2 m];refine Jr.ite (λp=>?_) λ_=>Jr.ok h2;exact Jr.bind he (Jr.within (ih .stmt _ _ _ g dz (h2.step m).2 trivial)) (Eh.within (bq _ _ _ ((h2.ge he).t1 p))) (λh=>by cases h) λz ts vs h4=>Jr.ok h4
      .obtain⟨o,I⟩:=h2.last m;rw[Y3 (by rw[o,UE he];simp),Y3 (by rw[I,mh];simp)];exact Jr.ok h2
     refine Jr.ite (λh=>?_) λ_=>?_;·exact Abo
     refine Jr.ite (λh=>?_) λ_=>?_;·exact Abo
     refine Jr.ite (λh=>?_) λ_=>?_
     .by_cases m:2<=ts.tail.length
      .simp only[XC ht m];refine Jr.ite (λp=>Jr.end' he ht) λ_=>?_;exact Jr.bind he (ih .value _ _ _ g dz ht trivial) (bq _ _ _ (gt h)) (λ_ t x hx=>Dd.want hx) λt ts vs h=>Jr.end' he h
      .obtain⟨o,I⟩:=ht.last m;rw[o,Y3 (by rw[UE he];simp)];intro t ts' h4;exact absurd h4 (V6 (ZF he rfl) t ts')
     refine Jr.ite (λh=>Jr.bind he (ih .value _ _ _ g dz ht trivial) (bq _ _ _ (gt h)) (λ_ t x hx=>Dd.want hx) λt ts vs h=>Jr.end' he h) λ_=>?_;refine Jr.ite (λh=>ih .try_ _ _ _ g dz ht trivial) λ_=>?_;exact Jr.bind he (ih .value _ _ _ g dz hx trivial) (bq _ _ _ (hx.ge he)) (λ_ t x hx=>Dd.want hx) λt ts vs h=>Jr.end' he h
   |decl kind fg=>
     unfold Z0;refine Jr.name he hx λs h1=>?_;by_cases m:2<=ts.tail.length
     .simp only[XC h1 m];refine Jr.ite (λ_=>Jr.fail) λ_=>Jr.ite (λp=>?_) λ_=>Jr.ok h1;exact Jr.bind he (ih .value _ _ _ g dz (h1.step m).2 trivial) (bq _ _ _ ((h1.ge he).t1 p)) (λ_ t x hx=>Dd.ok) λt ts vs h=>Jr.ok h
     .obtain⟨o,I⟩:=h1.last m;rw[o];intro t ts' h4 J;exfalso;have h5:=J rfl;rw[UE he]at h4;simp only[Bool.not_false,Bool.and_true,Bool.false_eq_true,if_false]at h4;split at h4;·cases h4
      .exact Zzu
   |try_=>
     unfold Z0;refine Jr.bind he (ih (.block false) _ _ _ g dz hx trivial) (bq _ _ _ (hx.ge he)) (λh=>by cases h) λb ts vs h=>?_
     have hk:∀(l:List Tree) (ts vs:List Tok),Ex e us ts vs->Jr false e us (if ad Zl ts then Zn (Z0 f (.block false) d ts.tail) λc ts=>fH (.mk 12 ByteArray.empty 0 (l++[.mk 14 ByteArray.empty 0 [c]])) ts else if l.length=1 then r' 3 ts else fH (.mk 12 ByteArray.empty 0 l) ts)
      (if ad Zl vs then Zn (Z0 g (.block false) d vs.tail) λc ts=>fH (.mk 12 ByteArray.empty 0 (l++[.mk 14 ByteArray.empty 0 [c]])) ts else if l.length=1 then r' 3 vs else fH (.mk 12 ByteArray.empty 0 l) vs):=by
      intro l ts vs h;by_cases m:2<=ts.length
      .simp only[XC h m];refine Jr.ite (λp=>?_) λ_=>Jr.ite (λ_=>Jr.fail) λ_=>Jr.ok h;exact Jr.bind he (ih (.block false) _ _ _ g dz (h.step m).2 trivial) (bq _ _ _ ((h.ge he).t1 p)) (λh=>by cases h) λt ts vs h=>Jr.ok h
      .obtain⟨o,I⟩:=h.last m;have b1:ad Zl ts=false:=by rw[o,UE he]
       have b2:ad Zl vs=false:=by rw[I,nJ]
       simp only[b1,b2,Bool.false_eq_true,if_false];exact Jr.ite (λ_=>Jr.fail) λ_=>Jr.ok h
     dsimp only
     by_cases m:2<=ts.length
     .rw[show ad IL vs=ad IL ts from XC h m _];refine Jr.ite (λp=>?_) λ_=>hk _ _ _ h;refine Jr.want he (h.step m).2 λ_ h4=>Jr.name he h4 λs h5=>Jr.want he h5 λ_ h6=>?_;exact Jr.bind he (ih (.block false) _ _ _ g dz h6 trivial) (bq _ _ _ (h6.ge he)) (λh=>by cases h) λc ts vs h7=>hk _ _ _ h7
     .obtain⟨o,I⟩:=h.last m;have b1:ad IL ts=false:=by rw[o,UE he]
      have b2:ad IL vs=false:=by rw[I,kU]
      simp only[b1,b2,Bool.false_eq_true,if_false];exact hk _ _ _ h
   |value=>unfold Z0;exact Jr.within (ih .assign _ _ _ g dz hx trivial)
   |assign=>
     unfold Z0;refine Jr.bind he (ih (.bin 0) _ _ _ g dz hx trivial) (bq _ _ _ (hx.ge he)) (λ_ t x hx=>?_) λx ts vs h=>?_;·rw[Y3 (by rw[UE hx];simp)];exact Dd.ok
     by_cases m:2<=ts.length
     .simp only[XC h m];refine Jr.ite (λp=>Jr.ite (λ_=>?_) λ_=>Jr.err) λ_=>Jr.ok h;exact Jr.bind he (ih .value _ _ _ g dz (h.step m).2 trivial) (bq _ _ _ ((h.ge he).t1 p)) (λ_ t x hx=>Dd.ok) λt ts vs h=>Jr.ok h
     .obtain⟨o,I⟩:=h.last m;rw[o,Y3 (by rw[UE he];simp)];intro t ts' h4 J;exfalso;have h5:=J rfl;exact Zzu
   |bin X=>
     unfold Z0;refine Jr.ite (λ_=>ih .unary _ _ _ g dz hx trivial) λ_=>?_;exact Jr.bind he (ih (.bin (X+1)) _ _ _ g dz hx trivial) (bq _ _ _ (hx.ge he)) (λ_ t x hx=>Dd.loop rfl) λx ts vs h=>ih (.binLoop X x) _ _ _ g dz h trivial
   |binLoop X x=>
     unfold Z0;simp only[lv];refine Jr.ite (λ_=>Jr.ok hx) λY=>?_;exact Jr.bind he (ih (.bin (X+1)) _ _ _ g dz ht trivial) (bq _ _ _ ((hx.ge he).t3 Y)) (λ_ t x hx=>Dd.loop rfl) λy ts vs h=>ih (.binLoop X _) _ _ _ g dz h trivial
   |unary=>
     unfold Z0;simp only[un];refine Jr.ite (λ_=>ih .postfix_ _ _ _ g dz hx trivial) λY=>?_;exact Jr.bind he (Jr.within (ih .unary _ _ _ g dz ht trivial)) (Eh.within (bq _ _ _ ((hx.ge he).t2 Y))) (λ_ t x hx=>Dd.ok) λx ts vs h=>Jr.ok h
   |postfix_=>
     unfold Z0;exact Jr.bind he (ih .primary _ _ _ g dz hx trivial) (bq _ _ _ (hx.ge he)) (λ_ t x hx=>Dd.loop rfl) λx ts vs h=>ih (.postLoop x) _ _ _ g dz h trivial
   |postLoop x=>
     unfold Z0;simp only[u];refine Jr.ite (λh=>Jr.name he ht λs h2=>ih (.postLoop _) _ _ _ g dz h2 trivial) λ_=>?_;refine Jr.ite (λh=>?_) λ_=>Jr.ok hx;exact Jr.bind he (ih (.args [x]) _ _ _ g dz ht trivial) (bq _ _ _ (gt h)) (λ_ t x hx=>Dd.loop rfl) λn ts vs h=>ih (.postLoop n) _ _ _ g dz h trivial
   |args U=>
     unfold Z0;simp only[u];refine Jr.ite (λ_=>Jr.ok ht) λ_=>?_;refine Jr.comma he hx λts vs h=>Jr.ite (λ_=>Jr.fail) λ_=>?_;exact Jr.bind he (ih .value _ _ _ g dz h trivial) (bq _ _ _ (h.ge he)) (λ_ t x hx=>Dd.parse hx rfl) λv ts vs h=>ih (.args _) _ _ _ g dz h trivial
   |primary=>
     unfold Z0;simp only[u,<-kd,<-tx,<-nn,cn];refine Jr.ite (λ_=>Jr.ok ht) λ_=>?_;refine Jr.ite (λ_=>Jr.ok ht) λ_=>?_;refine Jr.ite (λ_=>Jr.ok ht) λ_=>?_;refine Jr.ite (λ_=>Jr.ok ht) λ_=>?_;refine Jr.ite (λ_=>ih .around _ _ _ g dz hx trivial) λ_=>?_;refine Jr.ite (λh=>?_) λ_=>?_
     .by_cases m:2<=ts.tail.length
      .obtain⟨⟨a1,a2,a3⟩,a4⟩:=ht.step m;simp only[<-a1,<-a2];exact Jr.ite (λ_=>Jr.weak (ih (.func 37 _) _ _ _ g dz a4 trivial)) λ_=>Jr.weak (ih (.func 37 _) _ _ _ g dz ht trivial)
      .obtain⟨o,I⟩:=ht.last m;rw[o,Y3 (by simp[al];omega)];intro t ts' h4;exact absurd h4 (ZF he rfl t ts')
     exact Jr.ite (λh=>ih (.object []) _ _ _ g dz ht trivial) λ_=>Jr.fail
   |object U=>
     unfold Z0;simp only[u];refine Jr.ite (λ_=>Jr.ok ht) λ_=>?_;refine Jr.comma he hx λts vs h=>Jr.ite (λ_=>Jr.fail) λ_=>Jr.name he h λs h2=>Jr.want he h2 λ_ p=>?_;exact Jr.bind he (ih .value _ _ _ g dz p trivial) (bq _ _ _ (p.ge he)) (λ_ t x hx=>Dd.parse hx rfl) λv ts vs h=>ih (.object _) _ _ _ g dz h trivial
variable {T0:List Tok}
def Su(T0 ts:List Tok):Prop:=ts <:+T0
theorem Su.tl{ts:List Tok}(g:Su T0 ts):Su T0 ts.tail:=List.IsSuffix.trans (List.tail_suffix ts) g
def Uh(T0:List Tok)(P:Tree->Prop)(p:PR):Prop:=∀t ts,p=some (.ok (t,ts))->Su T0 ts
theorem Uh.fail{P:Tree->Prop}{e:Int}{ts:List Tok}:Uh T0 P (r' e ts):=by intro t ts' h;cases h
theorem Uh.none{P:Tree->Prop}:Uh T0 P none:=by intro t ts' h;cases h
theorem Uh.err{P:Tree->Prop}{e:Int×Nat}:Uh T0 P (some (.error e)):=by intro t ts' h;cases h
def Uh.ok{P:Tree->Prop}{t:Tree}{ts:List Tok}(g:Su T0 ts:=by first|assumption|exact Su.tl Qd|exact Su.tl (Su.tl Qd)):Uh T0 P (fH t ts):=by
 exact Zw0
def Uh.bind{P Q:Tree->Prop}{p:PR}{k:Tree->List Tok->PR}(hp:Uh T0 P p)(hk:∀t ts,Su T0 ts->Uh T0 Q (k t ts)):Uh T0 Q (Zn p k):=by
 cases p with
 |none=>exact Uh.none
 |some r=>
   cases r with
   |error e=>exact Uh.err
   |ok x=>obtain⟨t,ts⟩:=x;exact hk t ts (hp t ts rfl)
def Uh.want{P:Tree->Prop}{s:kB}{ts:List Tok}{k:List Tok->PR}(hk:Su T0 ts.tail->Uh T0 P (k ts.tail))(g:Su T0 ts:=by first|assumption|exact Su.tl Qd|exact Su.tl (Su.tl Qd)):Uh T0 P (iE s ts k):=by
 unfold iE;by_cases h:ad s ts=true;·rw[Y5 h];exact hk g.tl
 .rw[Y3 h];exact Uh.fail
def Uh.name{P:Tree->Prop}{ts:List Tok}{k:kB->List Tok->PR}(hk:∀s,Su T0 ts.tail->Uh T0 P (k s ts.tail))(g:Su T0 ts:=by first|assumption|exact Su.tl Qd|exact Su.tl (Su.tl Qd)):Uh T0 P (tK ts k):=by
 unfold tK;by_cases h:(al ts).kind=1;·rw[Y5 h];exact hk _ g.tl
 .rw[Y3 h];exact Uh.fail
def Uh.within{P:Tree->Prop}{d:Nat}{ts:List Tok}{p:PR}(h:Uh T0 P p):Uh T0 P (qH d ts p):=by
 unfold qH;by_cases g:30<d+1;·rw[Y5 g];exact Uh.fail
 .rw[Y3 g];exact h
def Uh.ite{P:Tree->Prop}{c:Prop} [Decidable c]{p q:PR}(hp:c->Uh T0 P p)(hq:¬c->Uh T0 P q):Uh T0 P (if c then p else q):=by
 exact TB
def Uh.comma{P:Tree->Prop}{c:Prop} [Decidable c]{ts:List Tok}{k:List Tok->PR}(hk:∀ts',Su T0 ts'->Uh T0 P (k ts'))(g:Su T0 ts:=by first|assumption|exact Su.tl Qd|exact Su.tl (Su.tl Qd)):Uh T0 P ((if c then iE tV ts else λk=>k ts) k):=by
 by_cases h:c;·rw[Y5 h];exact Uh.want (hk _)
 .rw[Y3 h];exact hk _ g
theorem Uh.end'{P:Tree->Prop}{t:Tree}{ts:List Tok}(g:Su T0 ts:=by first|assumption|exact Su.tl Qd|exact Su.tl (Su.tl Qd)):Uh T0 P (po t ts):=Uh.want λ_=>Uh.ok
def Zfg:∀(f:Nat) (p:Job) (d:Nat) (ts:List Tok),Su T0 ts->Uh T0 (λ_=>True) (Z0 f p d ts):=by
 intro f;induction f with
 |zero=>intro p d ts _;unfold Z0;exact Uh.none
 |succ f g=>
   intro p d ts X;cases p with
   |stmts kind u=>
     unfold Z0;refine Uh.ite (λ_=>Uh.ok) λ_=>?_;exact Uh.bind (Uh.within (g .stmt _ _ Qf)) λt ts' h=>g _ _ _ Qf
   |block body=>
     unfold Z0;exact Uh.want (λ_=>Uh.bind (g (.stmts 6 []) _ _ Qf) λt ts' I=>Uh.want (λ_=>Uh.ok))
   |func kind text=>
     unfold Z0;exact Uh.want (λ_=>Uh.bind (g (.params []) _ _ Qf) λt ts' I=>Uh.want (λ_=>Uh.bind (g (.block true) _ _ Qf) λt ts' o=>Uh.ok))
   |params u=>
     unfold Z0;refine Uh.ite (λ_=>Uh.ok) λ_=>?_;exact Uh.comma λts' _=>Uh.ite (λ_=>Uh.fail) λ_=>Uh.name λs _=>g _ _ _ Qf
   |around=>
     unfold Z0;exact Uh.want (λ_=>Uh.bind (g .value _ _ Qf) λt ts' I=>Uh.want (λ_=>Uh.ok))
   |stmt=>
     unfold Z0;refine Uh.ite (λh=>g (.block false) _ _ Qf) λ_=>?_;refine Uh.ite (λh=>Uh.ok) λ_=>?_;refine Uh.ite (λh=>Uh.bind (g (.decl 2 false) _ _ Qf) λt us m=>Uh.end') λ_=>?_;refine Uh.ite (λh=>Uh.bind (g (.decl 3 false) _ _ Qf) λt us m=>Uh.end') λ_=>?_
     refine Uh.ite (λh=>Uh.bind (g (.decl 4 true) _ _ Qf) λt us m=>Uh.end') λ_=>?_;refine Uh.ite (λh=>Uh.name λs _=>g _ _ _ Qf) λ_=>?_
     refine Uh.ite (λh=>Uh.bind (g .around _ _ Qf) λx us m=>Uh.bind (Uh.within (g .stmt _ _ Qf)) λy vs o=>Uh.ite (λY=>Uh.bind (Uh.within (g .stmt _ _ Qf)) λz O h5=>Uh.ok) λ_=>Uh.ok) λ_=>?_
     refine Uh.ite (λh=>Uh.bind (g .around _ _ Qf) λt us m=>Uh.bind (Uh.within (g .stmt _ _ Qf)) λt vs o=>Uh.ok) λ_=>?_
     refine Uh.ite (λh=>Uh.bind (g .around _ _ Qf) λt us m=>Uh.bind (Uh.within (g .stmt _ _ Qf)) λt vs o=>Uh.ok) λ_=>?_;refine Uh.ite (λh=>Uh.ite (λJ=>Uh.end') (λ_=>Uh.bind (g .value _ _ Qf) λt us m=>Uh.end')) λ_=>?_
     refine Uh.ite (λh=>Uh.bind (g .value _ _ Qf) λt us m=>Uh.end') λ_=>?_;refine Uh.ite (λh=>g _ _ _ Qf) λ_=>?_;exact Uh.bind (g .value _ _ Qf) λt us m=>Uh.end'
   |decl kind Z=>
     unfold Z0;exact Uh.name λs _=>Uh.ite (λ_=>Uh.fail) λ_=>Uh.ite (λm=>Uh.bind (g .value _ _ Qf) λt us o=>Uh.ok) λ_=>Uh.ok
   |try_=>
     unfold Z0;refine Uh.bind (g (.block false) _ _ Qf) λb us h=>?_;have hk:∀(l:List Tree) (vs:List Tok),Su T0 vs->Uh T0 (λ_=>True) (if ad Zl vs then Zn (Z0 f (.block false) d vs.tail) λc ts=>fH (.mk 12 ByteArray.empty 0 (l++[.mk 14 ByteArray.empty 0 [c]])) ts else if l.length=1 then r' 3 vs else fH (.mk 12 ByteArray.empty 0 l) vs):=by
      intro l vs m;exact Uh.ite (λ_=>Uh.bind (g (.block false) _ _ Qf) λt O o=>Uh.ok) λ_=>Uh.ite (λ_=>Uh.fail) λ_=>Uh.ok
     refine Uh.ite (λJ=>?_) λ_=>hk _ _ Qf;exact Uh.want (λ_=>Uh.name λs _=>Uh.want (λ_=>Uh.bind (g (.block false) _ _ Qf) λc vs h5=>hk _ _ Qf))
   |value=>unfold Z0;exact Uh.within (g _ _ _ Qf)
   |assign=>
     unfold Z0;exact Uh.bind (g (.bin 0) _ _ Qf) λx us h=>Uh.ite (λJ=>Uh.ite (λ_=>Uh.bind (g .value _ _ Qf) λy vs m=>Uh.ok) λ_=>Uh.err) λ_=>Uh.ok
   |bin F=>
     unfold Z0;exact Uh.ite (λ_=>g _ _ _ Qf) λ_=>Uh.bind (g (.bin (F+1)) _ _ Qf) λx us h=>g _ _ _ Qf
   |binLoop F x=>
     unfold Z0;exact Uh.ite (λ_=>Uh.ok) λU=>Uh.bind (g (.bin (F+1)) _ _ Qf) λy us h=>g _ _ _ Qf
   |unary=>
     unfold Z0;exact Uh.ite (λ_=>g _ _ _ Qf) λU=>Uh.bind (Uh.within (g .unary _ _ Qf)) λx us h=>Uh.ok
   |postfix_=>
     unfold Z0;exact Uh.bind (g .primary _ _ Qf) λx us h=>g _ _ _ Qf
   |postLoop x=>
     unfold Z0;exact Uh.ite (λ_=>Uh.name λs _=>g _ _ _ Qf) λ_=>Uh.ite (λ_=>Uh.bind (g (.args [x]) _ _ Qf) λn us h=>g _ _ _ Qf) λ_=>Uh.ok
   |args u=>
     unfold Z0;refine Uh.ite (λ_=>Uh.ok) λ_=>?_;exact Uh.comma λts' _=>Uh.ite (λ_=>Uh.fail) λ_=>Uh.bind (g .value _ _ Qf) λv us h=>g _ _ _ Qf
   |primary=>
     unfold Z0;refine Uh.ite (λh=>Uh.ok) λ_=>?_;refine Uh.ite (λh=>Uh.ok) λ_=>?_;refine Uh.ite (λh=>Uh.ok) λ_=>?_;refine Uh.ite (λh=>Uh.ok) λ_=>?_;refine Uh.ite (λh=>g _ _ _ Qf) λ_=>?_;refine Uh.ite (λh=>Uh.ite (λ_=>g _ _ _ Qf) λ_=>g _ _ _ Qf) λ_=>?_
     exact Uh.ite (λh=>g _ _ _ Qf) λ_=>Uh.fail
   |object u=>
     unfold Z0;refine Uh.ite (λ_=>Uh.ok) λ_=>?_;exact Uh.comma λts' _=>Uh.ite (λ_=>Uh.fail) λ_=>Uh.name λs _=>Uh.want (λ_=>Uh.bind (g .value _ _ Qf) λv us h=>g _ _ _ Qf)
def K6(ts:List Tok):Prop:=(ts.filter λt=>t.kind==6).length<=1
theorem K6.suf{ts us:List Tok}(h:K6 ts)(g:us <:+ts):K6 us:=Y4 (List.Sublist.length_le (List.Sublist.filter _ g.sublist)) h
def Zrq{p:PR}{k:Tree->List Tok->PR}{t:Tree}{ts:List Tok}(h:Zn p k=some (.ok (t,ts))):∃t2 g,p=some (.ok (t2,g))/\k t2 g=some (.ok (t,ts)):=by
 cases p with
 |none=>cases h
 |some r=>
   cases r with
   |error x=>cases h
   |ok x=>obtain⟨t2,g⟩:=x;exact⟨t2,g,rfl,h⟩
def Zau{d:Nat}{ts:List Tok}{p:PR}{t:Tree}{ts':List Tok}(h:qH d ts p=some (.ok (t,ts'))):p=some (.ok (t,ts')):=by
 unfold qH at h;split at h;·cases h
 .exact h
def Zc8{e:Tok}{us:List Tok}(he:e.kind=6)(X:ad Ub us=false)(Y:ad IL us=false)(Z:ad Zl us=false) :
 ∀ (f g : Nat) (y : List Tree) (d : Nat) (ts vs : List Tok) (t : Tree) (ts' : List Tok), f ≤ g → K6 ts → Ex e us ts vs → Z0 f (.stmts 1 y) d ts = some (.ok (t, ts')) →
   ∃m,t.kids=y++m/\m.length+1<=ts.length/\∀o,Z0 g (.stmts 1 o) d vs=Z0 (g-m.length) (.stmts 1 (o++m)) d us:=by
 intro f;induction f with
 |zero=>intro g y d ts vs t ts' _ _ _ h;unfold Z0 at h;cases h
 |succ f ih=>
   intro g y d ts vs t ts' dz F hx h;obtain⟨g,rfl⟩:∃q,g=q+1:=⟨g-1,by omega⟩
   unfold Z0 at h;simp only[if_true]at h;by_cases hl:2<=ts.length
   .obtain⟨⟨kd,_,_⟩,ht⟩:=hx.step hl;have O:(al ts).kind≠6:=by
     intro hk;obtain⟨p,p',u,_,_⟩:=hx;cases p with
     |nil=>rw[u]at hl;simp at hl
     |cons x p=>
       rw[u]at F hk;have aT:x.kind=6:=hk;unfold K6 at F;simp[List.filter_append,aT,he]at F
    rw[Y3 (by simpa using O)]at h;obtain⟨x,I,u,h2⟩:=Zrq h;have EH:=Zfg (T0:=ts) f .stmt (d+1) ts (List.suffix_refl _) x I (Zau u);have dF:=Ts f .stmt (d+1) ts x I (Zau u);simp only[Job.least,Nat.add_zero]at dF;obtain⟨U,h3,h4⟩:=(Jr.within (Zix he X Y Z f .stmt (d+1) ts vs g Qe hx trivial)) x I u (λh=>by cases h);obtain⟨m,h5,h7,h8⟩:=ih g (y++[x]) d I U t ts' Qe (F.suf EH) h4 h2;refine⟨x::m,by rw[h5,List.append_assoc];rfl,by simp only[List.length_cons];omega,λo=>?_⟩
    have J:Z0 (g+1) (.stmts 1 o) d vs=Z0 g (.stmts 1 (o++[x])) d U:=by
     conv=>lhs;unfold Z0
     simp only[if_true];rw[Y3 (by rw[<-kd];simpa using O),h3];rfl
    rw[J,h8,List.append_assoc,List.length_cons,Nat.add_sub_add_right];rfl
   .obtain⟨J,e2⟩:=hx.last hl;rw[J,Y5 (by simp[al,he])]at h;simp only[fH,Option.some.injEq,Except.ok.injEq,Prod.mk.injEq]at h;refine⟨[],by rw[<-h.1];simp[Tree.kids],by rw[J];simp,λo=>?_⟩;rw[e2,List.append_nil];rfl
def Zll{ts:List Tok}{s r:kB}(h:ad s ts=true)(hr:s≠r):ad r ts=false:=by
 unfold ad at h ⊢;simp only[Bool.and_eq_true,Zb1]at h;rw[h.2];have:Zh s r=false:=by
  cases hs:Zh s r with
  |false=>rfl
  |true=>exact absurd (Zb1.1 hs) hr
 rw[this,Bool.and_false]
def Zjs{ts:List Tok}{s:kB}(h:ad s ts=true)(hs:s=Ub\/s=IL\/s=Zl):∀(f d:Nat) (t:Tree) (ts':List Tok),Z0 f .stmt d ts≠some (.ok (t,ts')):=by
 have ne:∀r∈[Ay,Zr,tO,Dz,Vk,VB,VA,IJ,B',Vl,Vy,Vs,Vo,Vv,SJ,SX,Tt,Tj,TY,Um,UI],ad r ts=false:=by
  intro r hr;refine Zll h ?_;rintro rfl;simp only[List.mem_cons,List.not_mem_nil,or_false]at hr;rcases hs with rfl|rfl|rfl
  all_goals
   have o:∀(a b:kB),a.data.toList≠b.data.toList->a≠b:=λa b h e=>h (by rw[e]);rcases hr with h|h|h|h|h|h|h|h|h|h|h|h|h|h|h|h|h|h|h|h|h<;>exact o _ _ Qg h
 have hk:(al ts).kind=5\/(al ts).kind=2:=by
  unfold ad at h;simp only[Bool.and_eq_true,Bool.or_eq_true,decide_eq_true_eq]at h;exact h.1
 have p:zg ts=0:=by unfold zg;simp[ne SJ Qm,ne SX Qm,ne Tt Qm]
 have u:AJ ts=0:=by unfold AJ;simp[ne Tj Qm,ne TY Qm,ne Um Qm,ne UI Qm]
 have y:∀f d t ts',Z0 f .primary d ts≠some (.ok (t,ts')):=by
  intro f d t ts' g;cases f with
  |zero=>unfold Z0 at g;cases g
  |succ f=>
    unfold Z0 at g;rw[Y3 Qe,Y3 Qe,Y3 Qe,Y3 (by rw[u];simp),Y3 (by rw[ne tO Qm];simp),Y3 (by rw[ne IJ Qm];simp),Y3 (by rw[ne Ay Qm];simp)]at g;cases g
 have F:∀f d t ts',Z0 f .postfix_ d ts≠some (.ok (t,ts')):=by
  intro f d t ts' g;cases f with
  |zero=>unfold Z0 at g;cases g
  |succ f=>unfold Z0 at g;exact V6 (y f d) t ts' g
 have I:∀f d t ts',Z0 f .unary d ts≠some (.ok (t,ts')):=by
  intro f d t ts' g;cases f with
  |zero=>unfold Z0 at g;cases g
  |succ f=>unfold Z0 at g;rw[Y5 p]at g;exact F f d t ts' g
 have J:∀f l d t ts',Z0 f (.bin l) d ts≠some (.ok (t,ts')):=by
  intro f;induction f with
  |zero=>intro l d t ts' g;unfold Z0 at g;cases g
  |succ f O=>
    intro l d t ts' g;unfold Z0 at g;split at g;·exact I f d t ts' g
    .exact V6 (O (l+1) d) t ts' g
 have U:∀f d t ts',Z0 f .value d ts≠some (.ok (t,ts')):=by
  intro f d t ts' g;cases f with
  |zero=>unfold Z0 at g;cases g
  |succ f=>
    unfold Z0 at g;have m:=Zau g;cases f with
    |zero=>unfold Z0 at m;cases m
    |succ f=>unfold Z0 at m;exact V6 (J f 0 (d+1)) t ts' m
 intro f d t ts' g;cases f with
 |zero=>unfold Z0 at g;cases g
 |succ f=>
   unfold Z0 at g;simp only[ne Ay Qm,ne Dz Qm,ne Vk Qm,ne VB Qm,ne VA Qm,ne IJ Qm,ne B' Qm,ne Vl Qm,ne Vy Qm,ne Vs Qm,ne Vo Qm,ne Vv Qm,Bool.false_eq_true,if_false]at g;exact V6 (U f d) t ts' g
def Z7s{f d:Nat}{g:List Tree}{ts ts':List Tok}{t:Tree}{s:kB}(h:Z0 f (.stmts 1 g) d ts=some (.ok (t,ts')))(hs:s=Ub\/s=IL\/s=Zl):ad s ts=false:=by
 cases hi:ad s ts with
 |false=>rfl
 |true=>
   exfalso;cases f with
   |zero=>unfold Z0 at h;cases h
   |succ f=>
     unfold Z0 at h;simp only[if_true]at h;have hk:(al ts).kind≠6:=by
      unfold ad at hi;simp only[Bool.and_eq_true,Bool.or_eq_true,decide_eq_true_eq]at hi;omega
     rw[Y3 Ru]at h;exact V6 (Z4n (Zjs hi hs f (d+1))) t ts' h
theorem Zak(o:Nat)(ts:List Tok)(s:kB):ad s (ts.map (Tok.shift o))=ad s ts:=by cases ts<;>rfl
theorem Zm1:∀p:List Tok,A2 p p
 | []=>trivial
 |x::p=>⟨⟨rfl,rfl,rfl⟩,Zm1 p⟩
theorem Zi5(o:Nat):∀p:List Tok,A2 p (p.map (Tok.shift o))
 | []=>trivial
 |x::p=>⟨⟨rfl,rfl,rfl⟩,Zi5 o p⟩
def Z7i{text:kB}{t:Tree}(h:Zm text=.ok t):∃l e ts',Vd text=.ok (l++[e])/\e.kind=6/\K6 (l++[e])/\Z0 (40*(l.length+1)+31) (.stmts 1 []) 0 (l++[e])=some (.ok (t,ts')):=by
 unfold Zm at h;split at h;·cases h
 .split at h;·cases h
  .rename_i ts g;obtain⟨⟨l,e,m,o,p⟩,_,_⟩:=Z9w ts 0 (Yh _) (Z66 g);subst m;split at h;·cases h
   .cases h
   .rename_i t' ts' hp;split at h;·cases h
    .have u:t'=t:=by simpa using h
     subst u;refine⟨l,e,ts',g,o,?_,by simpa using hp⟩;unfold K6;rw[List.filter_append,List.filter_eq_nil_iff.2 (λx hx=>by simpa using p x hx)];simp[List.filter_cons];split<;>simp
def SL(x y:Tree):Tree:=.mk 1 (if Tx (x.kids++y.kids)then LA else ByteArray.empty) 0 (x.kids++y.kids)
def Zdr{a s b:kB}{x y:Tree}(hs:s.size=1)(hb:Zt (Z5 s 0)=true)(ha:Zm a=.ok x)(aw:Zm b=.ok y) :
 Zm (a++s++b)=if 3000<(a++s++b).size then .error (4,-1)else if 1500<(SL x y).many then .error (4,-1)else .ok (SL x y):=by
 obtain⟨l,e,q1,h1,h2,h3,h4⟩:=Z7i ha;obtain⟨m,o,q2,g1,I,g3,u⟩:=Z7i aw;have O:=Zot hs hb h1 g1;obtain⟨us,p⟩:=zX ((m++[o]).map (Tok.shift (a.size+1)))
 rw[<-p]at O;have n1:ad Ub us=false:=by rw[p,Zak];exact Z7s u (.inl rfl)
 have n2:ad IL us=false:=by rw[p,Zak];exact Z7s u (.inr (.inl rfl))
 have n3:ad Zl us=false:=by rw[p,Zak];exact Z7s u (.inr (.inr rfl))
 have pe:us.length=m.length+1:=by rw[p];simp
 obtain⟨G,U⟩:=zX (40*(l++us).length+31)
 have Pb:G=40*(l.length+(m.length+1))+31:=by rw[U,Yi,pe]
 obtain⟨J,X,Y,k3⟩:=Zc8 h2 n1 n2 n3 _ G [] 0 (l++[e]) (l++us) x q1 Qe h3 ⟨l,l,rfl,rfl,Zm1 l⟩ h4;have hE:Ex o [o.shift (a.size+1)] (m++[o]) us:=⟨m,m.map (Tok.shift (a.size+1)),rfl,by rw[p,Yl];rfl,Zi5 _ m⟩
 have z:∀r,ad r [o.shift (a.size+1)]=false:=λr=>UE (show(o.shift (a.size+1)).kind=6 from I) r;obtain⟨Z,m1,m2,m3⟩:=Zc8 I (z _) (z _) (z _) _ (G-J.length) [] 0 (m++[o]) us y q2 (by simp at Y;omega) g3 hE u;simp only[List.length_append,List.length_singleton]at Y m2;have am:Z0 G (.stmts 1 []) 0 (l++us)=some (.ok (.mk 1 (if Tx (x.kids++y.kids)then LA else ByteArray.empty) 0 (x.kids++y.kids),[o.shift (a.size+1)])):=by
  rw[k3,m3];obtain⟨g,hg⟩:∃g,G-J.length-Z.length=g+1:=⟨G-J.length-Z.length-1,by omega⟩
  rw[hg];unfold Z0;simp only[if_true];rw[Y5 (by simp[al];exact I)];simp only[List.nil_append]at X m1 ⊢;rw[X,m1];rfl
 unfold Zm;by_cases F:3000<(a++s++b).size;·rw[Y5 F,Y5 F]
 rw[Y3 F,Y3 F,O];simp only[<-U];rw[am];rfl
mutual
def jl:Tree->Nat->NT
 | .mk g t n l,k=>.mk k g t n (mK l (k+1))
def mK:List Tree->Nat->List NT
 | [],_=>[]
 |x::l,k=>jl x k::mK l (k+x.many)
end
mutual
theorem Zb7:∀(t:Tree) (k:Nat),(jl t k).tree=t
 | .mk g t n l,k=>by simp only[jl,NT.tree,Zep]
theorem Zep:∀(l:List Tree) (k:Nat),qa (mK l k)=l
 | [],_=>rfl
 |x::l,k=>by simp only[mK,qa,Zb7,Zep]
end
theorem Z9l:∀(l m:List Tree) (k:Nat),mK (l++m) k=mK l k++mK m (k+mO l)
 | [],m,k=>by simp only[List.nil_append,mK,mO,Nat.add_zero]
 |x::l,m,k=>by simp only[List.cons_append,mK,Z9l,mO,Nat.add_assoc]
theorem Zf1(t:Tree)(k:Nat):(jl t k).kids=mK t.kids (k+1):=by cases t;simp only[jl,NT.kids,Tree.kids]
theorem Zf8(t:Tree)(k:Nat):(jl t k).text=t.text:=by cases t;simp only[jl,NT.text,Tree.text]
theorem Ze4(t:Tree)(k:Nat):(jl t k).kind=t.kind:=by cases t;simp only[jl,NT.kind,Tree.kind]
theorem Z8b:∀(l m:List NT) (g:List kB),Tn (l++m) g=Tn m (Tn l g)
 | [],m,g=>by simp only[List.nil_append,Tn]
 |x::l,m,g=>by simp only[List.cons_append,Tn,Z8b]
theorem Z85{D:DF}{sc:Int}{fr:Frm}:∀(l m:List NT) (s:MSt),pZ D sc fr (l++m) s=match pZ D sc fr l s with
   |(s1,.ok (true,v))=>(s1,.ok (true,v))
   |(s1,.ok (false,_))=>pZ D sc fr m s1
   |(s1,.error e)=>(s1,.error e)
 | [],m,s=>rfl
 |x::l,m,s=>by
   simp only[List.cons_append,pZ,iC];rcases D x sc fr s with⟨s1,r|⟨b,v⟩⟩;·rfl
   .cases b;·exact Z85 l m s1
    .rfl
def Z9s{n g:NT}(m:g.vars=n.vars)(o:g.lets=n.lets)(p:g.funcs=n.funcs)(u:g.strict=n.strict):TQ g=TQ n:=by
 unfold TQ;rw[m,o,p,u]
def Zuu{n g:NT}{m:List NT}(hst:g.stm)(G:g.tree.many<=1500)(hk:g.kids=n.kids++m)(p:g.vars=n.vars)(u:g.lets=n.lets)(y:g.funcs=n.funcs)(o:g.strict=n.strict) :
 (∃l,(iz g).log=(iz n).log++l)/\((iz n).code=1\/(iz g).code=(iz n).code/\(iz g).value=(iz n).value/\(iz g).log=(iz n).log):=by
 obtain⟨J,i2,i3,i4⟩:=Zek hst G;have I:=Wd hst G;have O:∀x∈n.kids,x.wf .s/\x.tree.many<=1500:=λx hx=>I x (by rw[hk];exact List.mem_append_left _ hx);have U:∀x∈m,x.wf .s/\x.tree.many<=1500:=λx hx=>I x (by rw[hk];exact List.mem_append_right _ hx);have F:=WR (Zb9 UD).2 n.kids _ O J i2 (by rw[i3];decide) (by rw[i3];decide);unfold iz;rw[hk,Z85,Z9s p u y o,o];rw[Z9s p u y o,o]at F;rw[Z9s p u y o,o]at i2;rcases hr:pZ (T9 UD).2 1 ⟨n.strict,0⟩ n.kids (TQ n)with⟨s1,e|⟨b,v⟩⟩
 .exact⟨⟨[],by simp⟩,.inr ⟨rfl,rfl,rfl⟩⟩
 .cases b
  .rw[hr]at F;obtain⟨b1,b2,b3,b4⟩:=F;have a2:=WR (Zb9 UD).2 m s1 U b1 (i2.ext b2) (by have:=b1.steps.1;simp[UD];omega) b4.2;refine⟨?_,.inl rfl⟩;obtain⟨l,hl⟩:=a2.2.1.log;refine⟨l,?_⟩;rw[show(YE (s1,Except.ok (false,v))).log=s1.log from rfl,<-hl];simp only;rcases pZ (T9 UD).2 1 ⟨n.strict,0⟩ m s1 with⟨X,(_|_)|_⟩<;>rfl
  .exact⟨⟨[],by simp⟩,.inr ⟨rfl,rfl,rfl⟩⟩
def wc(d:kB):Tree:=.mk 1 ByteArray.empty 0 [.mk 15 ByteArray.empty 0 [.mk 35 ByteArray.empty 0 [.mk 23 Jk 0 [],.mk 18 d 0 []]]]
