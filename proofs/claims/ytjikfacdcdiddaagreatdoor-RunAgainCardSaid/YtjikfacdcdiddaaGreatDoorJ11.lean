/- Package tree: a program has no more nodes than twice its tokens. -/
import Derived.Test.YtjikfacdcdiddaaGreatDoorJ10
set_option maxRecDepth 100000
set_option maxHeartbeats 20000000
set_option linter.unusedVariables false
set_option linter.unusedSimpArgs false
namespace Go.Proofs.YtjikfacdcdiddaaGreatDoor
open Go Go.RowKit
def ad(n:Nat)(p:PR):Prop:=∀t ts,p=some (.ok (t,ts))->t.many+2*ts.length<=n
theorem ad.fail{n:Nat}{e:Int}{ts:List Tok}:ad n (vg e ts):=by intro t ts' h;cases h
theorem ad.none{n:Nat}:ad n none:=by intro t ts' h;cases h
theorem ad.err{n:Nat}{e:Int×Nat}:ad n (some (.error e)):=by intro t ts' h;cases h
theorem ad.ok{n:Nat}{t:Tree}{ts:List Tok}(h:t.many+2*ts.length<=n):ad n (iy t ts):=by
 intro t' ts' g;simp only[iy,Option.some.injEq,Except.ok.injEq,Prod.mk.injEq]at g;rw[<-g.1,<-g.2];exact h
theorem ad.bind{n m:Nat}{p:PR}{k:Tree->List Tok->PR}(hp:ad m p)(hk:∀t ts,t.many+2*ts.length<=m->ad n (k t ts)):ad n (Zr p k):=by
 cases p with
 |none=>exact ad.none
 | some r =>
   cases r with
   |error e=>exact ad.err
   |ok x=>obtain⟨t,ts⟩:=x;exact hk t ts (hp t ts rfl)
theorem ad.want{n:Nat}{s:ByteArray}{ts:List Tok}{k:List Tok->PR}(hk:ts.tail.length<ts.length->ad n (k ts.tail)):ad n (iB s ts k):=by
 unfold iB;by_cases h:aa s ts=true;·rw[Y5 h];exact hk (Zm h)
 .rw[Y3 h];exact ad.fail
theorem ad.name{n:Nat}{ts:List Tok}{k:ByteArray->List Tok->PR}(hk:∀s,ts.tail.length<ts.length->ad n (k s ts.tail)):ad n (wc ts k):=by
 unfold wc;by_cases h:(bL ts).kind=1;·rw[Y5 h];exact hk _ (Xw O')
 .rw[Y3 h];exact ad.fail
theorem ad.within{n d:Nat}{ts:List Tok}{p:PR}(h:ad n p):ad n (vX d ts p):=by
 unfold vX;by_cases g:30<d+1;·rw[Y5 g];exact ad.fail
 .rw[Y3 g];exact h
theorem ad.ite{n:Nat}{c:Prop} [Decidable c]{p q:PR}(hp:c->ad n p)(hq:¬c->ad n q):ad n (if c then p else q):=by
 by_cases h:c;·rw[Y5 h];exact hp h
 .rw[Y3 h];exact hq h
theorem ad.comma{n:Nat}{c:Prop} [Decidable c]{ts:List Tok}{k:List Tok->PR}(hk:∀ts',ts'.length<=ts.length->ad n (k ts')):ad n ((if c then iB wJ ts else λk=>k ts) k):=by
 by_cases h:c;·rw[Y5 h];exact ad.want λg=>hk _ O'
 .rw[Y3 h];exact hk _ (Y0 _)
theorem ad.end'{n:Nat}{t:Tree}{ts:List Tok}(h:t.many+2*ts.length<=n+2):ad n (tZ t ts):=ad.want λg=>ad.ok O'
def Job.base:Job->Nat
 | .stmts _ g=>pS g+1
 | .params g=>pS g+1
 | .try_=>1
 | .binLoop _ x=>x.many
 | .postLoop x=>x.many
 | .args g=>pS g+1
 | .object g=>pS g+1
 |_=>0
theorem Xe(l m:List Tree):pS (l++m)=pS l+pS m:=by
 induction l with
 |nil=>simp[pS]
 |cons x l g=>simp only[List.cons_append,pS,g];omega
theorem xF(k:Int)(s:ByteArray)(n:Int)(l:List Tree):(Tree.mk k s n l).many=pS l+1:=by simp[Tree.many]
theorem Tc(x:Tree):pS [x]=x.many:=by simp[pS]
theorem ZU(x y:Tree):pS [x,y]=x.many+y.many:=by simp[pS]
theorem Zf8(x y z:Tree):pS [x,y,z]=x.many+y.many+z.many:=by simp[pS];omega
theorem Up:pS []=0:=by simp[pS]
theorem Zjw(x:Tree):x.many=pS x.kids+1:=by cases x;simp[Tree.many,Tree.kids]
theorem Zhd:∀(f:Nat) (m:Job) (d:Nat) (ts:List Tok),ad (m.base+2*ts.length) (Z3 f m d ts):=by
 intro f;induction f with
 |zero=>intro m d ts;exact ad.none
 | succ f ih =>
   intro m d ts;have F:=Zu ts;have g:∀(m:Job) (d:Nat) (us:List Tok) {n:Nat},m.base+2*us.length<=n->ad n (Z3 f m d us):=λm d us n h t vs hp=>Y4 (ih m d us t vs hp) h;cases m with
   | stmts kind o =>
     rw[Z3];refine ad.ite (λ_=>ad.ok ?_) λ_=>ad.bind (ad.within (ih .stmt _ _)) λt us h=>g _ _ _ ?_;·rw[xF];simp only[Job.base];omega
     .simp only[Job.base,Xe,Tc]at *;omega
   | block body =>
     rw[Z3];refine ad.want λh1=>ad.bind (ih (.stmts 6 []) _ _) λt us h=>ad.want λh2=>ad.ok ?_;simp only[Job.base,Up]at *;cases body;·simp only[Bool.false_eq_true,if_false];rw[xF];rw[Zjw]at h;omega
     .simp only[if_true];omega
   | func kind text =>
     rw[Z3];refine ad.want λh1=>ad.bind (ih (.params []) _ _) λt us h=>ad.want λh2=>ad.bind (ih (.block true) _ _) λt vs h3=>ad.ok ?_;simp only[Job.base,Up,xF,ZU]at *;omega
   | params o =>
     rw[Z3];refine ad.ite (λ_=>ad.ok ?_) λ_=>ad.comma λus h=>ad.ite (λ_=>ad.fail) λ_=>ad.name λs h2=>g _ _ _ ?_;·rw[xF];simp only[Job.base];omega
     .simp only[Job.base,Xe,Tc,xF,Up]at *;omega
   | around =>
     rw[Z3];refine ad.want λh1=>ad.bind (ih .value _ _) λt us h=>ad.want λh2=>ad.ok ?_;simp only[Job.base]at *;omega
   | stmt =>
     rw[Z3];refine ad.ite (λh=>g _ _ _ Ps) λ_=>?_;refine ad.ite (λh=>ad.ok (by have:=Zm h;simp only[Job.base,xF,Up];omega)) λ_=>?_;refine ad.ite (λh=>ad.bind (ih _ _ _) λt us h2=>ad.end' PN) λ_=>?_;refine ad.ite (λh=>ad.bind (ih _ _ _) λt us h2=>ad.end' PN) λ_=>?_;refine ad.ite (λh=>ad.bind (ih _ _ _) λt us h2=>ad.end' PN) λ_=>?_
     refine ad.ite (λh=>ad.name λs h2=>g _ _ _ Ps) λ_=>?_;refine ad.ite (λh=>?_) λ_=>?_
     .have:=Zm h;refine ad.bind (ih .around _ _) λt us h2=>ad.bind (ad.within (ih .stmt _ _)) λt vs h3=>?_;have:=Zu vs;exact ad.ite (λh4=>ad.bind (ad.within (ih .stmt _ _)) λt E h5=>ad.ok (by simp only[Job.base,xF,Zf8]at *;omega)) λ_=>ad.ok QP
     refine ad.ite (λh=>?_) λ_=>?_;·exact Zsn
     refine ad.ite (λh=>?_) λ_=>?_;·exact Zsn
     refine ad.ite (λh=>?_) λ_=>?_
     .have:=Zm h;exact ad.ite (λh1=>ad.end' (by simp only[Job.base,xF,Up]at *;omega)) λ_=>ad.bind (ih .value _ _) λt us h2=>ad.end' QQ
     refine ad.ite (λh=>?_) λ_=>?_
     .have:=Zm h;exact Zv2
     refine ad.ite (λh=>g _ _ _ (by have:=Zm h;simp only[Job.base];omega)) λ_=>?_;exact Zv2
   | decl kind I =>
     rw[Z3];refine ad.name λs h=>ad.ite (λ_=>ad.fail) λ_=>ad.ite (λh2=>ad.bind (ih .value _ _) λt us h3=>ad.ok ?_) λ_=>ad.ok ?_;·have:=Zu ts.tail;simp only[Job.base,xF,Tc]at *;omega
     .simp only[Job.base,xF,Up]at *;omega
   | try_ =>
     rw[Z3];refine ad.bind (ih (.block false) _ _) λb us h=>?_;have hk:∀(l:List Tree) (vs:List Tok),pS l+2*vs.length<=2*ts.length->ad (1+2*ts.length) (if aa CP vs then Zr (Z3 f (.block false) d vs.tail) λc ts=>iy (.mk 12 ByteArray.empty 0 (l++[.mk 14 ByteArray.empty 0 [c]])) ts else if l.length=1 then vg 3 vs else iy (.mk 12 ByteArray.empty 0 l) vs):=by
      intro l vs h2;refine ad.ite (λh3=>ad.bind (ih (.block false) _ _) λt E h4=>ad.ok ?_) λ_=>ad.ite (λ_=>ad.fail) λ_=>ad.ok ?_;·have:=Zm h3;simp only[Job.base,xF,Xe,Tc]at *;omega
      .rw[xF];omega
     refine ad.ite (λh1=>?_) λ_=>hk _ _ Q2;have:=Zm h1;refine ad.want λh2=>ad.name λs h3=>ad.want λh4=>ad.bind (ih (.block false) _ _) λc vs h5=>hk _ _ ?_;simp only[Job.base,xF,Tc,ZU]at *;omega
   |value=>rw[Z3];exact ad.within (g _ _ _ Ps)
   | assign =>
     rw[Z3];refine ad.bind (ih (.bin 0) _ _) λx us h=>ad.ite (λh1=>ad.ite (λ_=>ad.bind (ih .value _ _) λy vs h2=>ad.ok ?_) λ_=>ad.err) λ_=>ad.ok ?_;·have:=Zm h1;simp only[Job.base,xF,ZU]at *;omega
     .simp only[Job.base]at *;omega
   | bin p =>
     rw[Z3];refine ad.ite (λh=>g _ _ _ Ps) λh=>ad.bind (ih (.bin (p+1)) _ _) λx us h=>g _ _ _ PN
   | binLoop p x =>
     rw[Z3];refine ad.ite (λ_=>ad.ok Ps) λu=>ad.bind (ih (.bin (p+1)) _ _) λy us h=>g _ _ _ ?_;have:=Z78 u;simp only[Job.base,xF,ZU]at *;omega
   | unary =>
     rw[Z3];refine ad.ite (λ_=>g _ _ _ Ps) λu=>ad.bind (ad.within (ih .unary _ _)) λy us h=>ad.ok ?_;have:=Z9b u;simp only[Job.base,xF,Tc]at *;omega
   | postfix_ =>
     rw[Z3];exact ad.bind (ih .primary _ _) λy us h=>g _ _ _ PN
   | postLoop x =>
     rw[Z3];refine ad.ite (λh=>ad.name λs h2=>g _ _ _ ?_) λ_=>ad.ite (λh=>?_) λ_=>ad.ok Ps;·have:=Zm h;simp only[Job.base,xF,Tc]at *;omega
     .have:=Zm h;exact ad.bind (ih (.args [x]) _ _) λy us h=>g _ _ _ Q2
   | args o =>
     rw[Z3];refine ad.ite (λh=>ad.ok ?_) λ_=>ad.comma λus h=>ad.ite (λ_=>ad.fail) λ_=>ad.bind (ih .value _ _) λy vs h2=>g _ _ _ ?_;·rw[xF];simp only[Job.base];omega
     .simp only[Job.base,Xe,Tc]at *;omega
   | primary =>
     rw[Z3];have:=Zu ts.tail;refine ad.ite (λh=>ad.ok ?_) λ_=>ad.ite (λh=>ad.ok ?_) λ_=>ad.ite (λh=>ad.ok ?_) λ_=>ad.ite (λh=>ad.ok ?_) λ_=>?_;·exact Zs5
     .exact Zs5
     .exact Zs5
     .have:ts.tail.length<ts.length:=by
       exact ZW
      simp only[Job.base,xF,Up]at *;omega
     refine ad.ite (λ_=>g _ _ _ Ps) λ_=>?_;refine ad.ite (λ_=>ad.ite (λ_=>g _ _ _ Ps) λ_=>g _ _ _ Ps) λ_=>?_;exact ad.ite (λh=>g _ _ _ (by have:=Zm h;simp only[Job.base,Up];omega)) λ_=>ad.fail
   | object o =>
     rw[Z3];refine ad.ite (λh=>ad.ok ?_) λ_=>ad.comma λus h=>ad.ite (λ_=>ad.fail) λ_=>ad.name λs h1=>ad.want λh2=>ad.bind (ih .value _ _) λy vs h3=>g _ _ _ ?_;·rw[xF];simp only[Job.base];omega
     .simp only[Job.base,Xe,Tc,xF]at *;omega
theorem Zbk{text:ByteArray}{j k:Nat}{t:Tok}(h:kV text j=.ok (t,k)):t.kind≠6∧(t.kind=2->Sq t.text=true)∧(t.kind=5->t.text=text.extract j (j+Zs text j)∧vT (Z5 text j)=false):=by
 unfold kV at h;simp only at h;split at h
 .rename_i hl;split at h
  .rename_i g;simp only[Except.ok.injEq,Prod.mk.injEq]at h;obtain⟨rfl,_⟩:=h;exact⟨by simp,λ_=>g,(λh=>by simp at h)⟩
  .exact VG
 .rename_i hl;split at h
  .split at h;·cases h
   .exact VG
  .split at h
   .split at h;·cases h
    .exact VG
   .split at h;·cases h
    .simp only[Except.ok.injEq,Prod.mk.injEq]at h;obtain⟨rfl,_⟩:=h;exact⟨by simp,(λh=>by simp at h),λ_=>⟨rfl,by simpa using hl⟩⟩
theorem Zl9{s:ByteArray}(h:Sq s=true):UJ s=0:=by
 refine Decidable.byContradiction λhs=>?_;have g:s=BN∨s=TZ∨s=T8∨s=TQ∨s=Tp∨s=T2∨s=T7:=by
  exact Z'
 have m:∀x,Sq x=false->s=x->False:=λx h1 h2=>by rw[h2,h1]at h;cases h
 rcases g with e|e|e|e|e|e|e;all_goals exact m _ Pb e
theorem Zdr{s:ByteArray}(h:Zma s≠0):vT (Z5 s 0)=true∧0<s.size:=by
 unfold Zma at h;by_cases g:Zg s SA=true
 .have :s=SA:=by simpa[Zg]using g
  subst this;exact⟨by kernel_rfl,by decide⟩
 by_cases m:Zg s SQ=true
 .have :s=SQ:=by simpa[Zg]using m
  subst this;exact⟨by kernel_rfl,by decide⟩
 by_cases o:Zg s Tn=true
 .have :s=Tn:=by simpa[Zg]using o
  subst this;exact⟨by kernel_rfl,by decide⟩
 by_cases p:Zg s TL=true
 .have :s=TL:=by simpa[Zg]using p
  subst this;exact⟨by kernel_rfl,by decide⟩
 simp[g,m,o,p]at h
theorem Zie{text:ByteArray}{j k:Nat}{t:Tok}(m:j<text.size)(h:kV text j=.ok (t,k)):Zpu t:=by
 obtain⟨_,g,h5⟩:=Zbk h;refine⟨λhk=>Zl9 (g hk),λhk=>?_⟩;obtain⟨ht,hl⟩:=h5 hk;refine Decidable.byContradiction λhc=>?_;obtain⟨hb,hs⟩:=Zdr hc;have o:0<Zs text j:=by
  unfold Zs;split;·omega
  .split;·omega
   .split<;>omega
 have hp:Z5 t.text 0=Z5 text j:=by
  rw[ht];have p:(text.extract j (j+Zs text j)).size<=Zs text j:=by rw[ByteArray.size_extract];omega
  by_cases hk:j+Zs text j<=text.size;·rw[Zi text O' hk];rfl
  .have e:text.extract j (j+Zs text j)=text.extract j text.size:=by
    apply ByteArray.ext;simp only[ByteArray.data_extract];apply Array.ext
    .simp only[Array.size_extract];have:text.size=text.data.size:=rfl;omega
    .intro i u g;simp only[Array.getElem_extract]
   rw[e,Zi text O' (Y0 _)];rfl
 rw[hp,hl]at hb;cases hb
theorem Zfs{text:ByteArray}:∀(r:List Tok) (i:Nat),i<=text.size->YN text i r->(∃l e,r=l++[e]∧e.kind=6∧∀t∈l,t.kind≠6)∧r.length+i<=text.size+1∧Sk r:=by
 intro r;induction r with
 |nil=>intro i _ h;exact h.elim
 | cons t r o =>
   intro i hi h;cases r with
   | nil =>
     obtain⟨m,g⟩:=h;refine⟨⟨[],t,rfl,by rw[g],λt ht=>by cases ht⟩,by simp;omega,λx hx=>?_⟩;simp only[List.mem_singleton]at hx;subst hx;rw[g];exact⟨λh=>by simp at h,λh=>by simp at h⟩
   | cons u r =>
     obtain⟨k,m,g,p⟩:=h;obtain⟨c1,c2,_⟩:=Z7h text m g;obtain⟨s1,_,_,_⟩:=Uy uu text (text.size-i) i (Y0 _) hi;obtain⟨⟨l,e,y,h5,E⟩,F,G⟩:=o k c2 p;refine⟨⟨t::l,e,by rw[y];rfl,h5,λx hx=>?_⟩,?_,λx hx=>?_⟩
     .rcases List.mem_cons.1 hx with rfl|hx;·exact(Zbk g).1
      .exact E x hx
     .simp only[List.length_cons]at F ⊢;omega
     .rcases List.mem_cons.1 hx with rfl|hx;·exact Zie m g
      .exact G x hx
def r'(s:ByteArray):Prop:=1<=s.size∧s.size<=20∧vT (Z5 s 0)=true∧(∀i,i<s.size->zb (Z5 s i)=true)∧Sq s=false
def MAr(k:Int)(s:ByteArray)(l:List Tree):Prop:=k≠1∧(k=23->r' s∧l=[])
theorem MAr.any{k:Int}{s:ByteArray}{l:List Tree}(h:k≠1∧k≠23):MAr k s l:=⟨h.1,λg=>absurd g h.2⟩
mutual
def MT:Tree->Prop
 | .mk k s _ l=>MAr k s l∧MTL l
def MTL:List Tree->Prop
 | []=>True
 |t::l=>MT t∧MTL l
end
theorem MT.kids{t:Tree}(h:MT t):MTL t.kids:=by cases t;exact h.2
theorem MT.leaf{k:Int}{s:ByteArray}{n:Int}(h:k≠1∧k≠23):MT (.mk k s n []):=⟨MAr.any h,trivial⟩
theorem MT.nm{s:ByteArray}{n:Int}(h:r' s):MT (.mk 23 s n []):=⟨⟨by omega,λ_=>⟨h,rfl⟩⟩,trivial⟩
def sq(ts:List Tok):Prop:=∀t∈ts,t.kind=1->r' t.text
theorem sq.tail{ts:List Tok}(h:sq ts):sq ts.tail:=λt ht=>h t (List.mem_of_mem_tail ht)
theorem sq.hd{ts:List Tok}(h:sq ts)(hk:(bL ts).kind=1):r' (bL ts).text:=by
 cases ts with
 |nil=>simp[bL]at hk
 |cons t l=>exact h t Pg hk
def Mh(P:Tree->Prop)(p:PR):Prop:=∀t ts,p=some (.ok (t,ts))->P t∧sq ts
theorem Mh.fail{P:Tree->Prop}{e:Int}{ts:List Tok}:Mh P (vg e ts):=by intro t ts' h;cases h
theorem Mh.none{P:Tree->Prop}:Mh P none:=by intro t ts' h;cases h
theorem Mh.err{P:Tree->Prop}{e:Int×Nat}:Mh P (some (.error e)):=by intro t ts' h;cases h
theorem Mh.ok{P:Tree->Prop}{t:Tree}{ts:List Tok}(h:P t)(g:sq ts:=by first|assumption|exact sq.tail Px|exact sq.tail (sq.tail Px)):Mh P (iy t ts):=by
 exact Zt9
theorem Mh.bind{P Q:Tree->Prop}{p:PR}{k:Tree->List Tok->PR}(hp:Mh P p)(hk:∀t ts,P t->sq ts->Mh Q (k t ts)):Mh Q (Zr p k):=by
 cases p with
 |none=>exact Mh.none
 | some r =>
   cases r with
   |error e=>exact Mh.err
   |ok x=>obtain⟨t,ts⟩:=x;exact hk t ts (hp t ts rfl).1 (hp t ts rfl).2
theorem Mh.want{P:Tree->Prop}{s:ByteArray}{ts:List Tok}{k:List Tok->PR}(hk:sq ts.tail->Mh P (k ts.tail))(g:sq ts:=by first|assumption|exact sq.tail Px|exact sq.tail (sq.tail Px)):Mh P (iB s ts k):=by
 unfold iB;by_cases h:aa s ts=true;·rw[Y5 h];exact hk g.tail
 .rw[Y3 h];exact Mh.fail
theorem Mh.name{P:Tree->Prop}{ts:List Tok}{k:ByteArray->List Tok->PR}(hk:∀s,r' s->sq ts.tail->Mh P (k s ts.tail))(g:sq ts:=by first|assumption|exact sq.tail Px|exact sq.tail (sq.tail Px)):Mh P (wc ts k):=by
 unfold wc;by_cases h:(bL ts).kind=1;·rw[Y5 h];exact hk _ (g.hd h) g.tail
 .rw[Y3 h];exact Mh.fail
theorem Mh.within{P:Tree->Prop}{d:Nat}{ts:List Tok}{p:PR}(h:Mh P p):Mh P (vX d ts p):=by
 unfold vX;by_cases g:30<d+1;·rw[Y5 g];exact Mh.fail
 .rw[Y3 g];exact h
theorem Mh.ite{P:Tree->Prop}{c:Prop} [Decidable c]{p q:PR}(hp:c->Mh P p)(hq:¬c->Mh P q):Mh P (if c then p else q):=by
 by_cases h:c;·rw[Y5 h];exact hp h
 .rw[Y3 h];exact hq h
theorem Mh.comma{P:Tree->Prop}{c:Prop} [Decidable c]{ts:List Tok}{k:List Tok->PR}(hk:∀ts',sq ts'->Mh P (k ts'))(g:sq ts:=by first|assumption|exact sq.tail Px|exact sq.tail (sq.tail Px)):Mh P ((if c then iB wJ ts else λk=>k ts) k):=by
 by_cases h:c;·rw[Y5 h];exact Mh.want (hk _)
 .rw[Y3 h];exact hk _ g
theorem Mh.end'{P:Tree->Prop}{t:Tree}{ts:List Tok}(h:P t)(g:sq ts:=by first|assumption|exact sq.tail Px|exact sq.tail (sq.tail Px)):Mh P (tZ t ts):=Mh.want λ_=>Mh.ok h
theorem Mh.weak{P Q:Tree->Prop}{p:PR}(h:Mh P p)(g:∀t,P t->Q t):Mh Q p:=λt ts e=>⟨g t (h t ts e).1,(h t ts e).2⟩
theorem Zek(lv:Nat)(ts:List Tok):wK lv ts=0∨(25<=wK lv ts∧wK lv ts<=31):=by
 unfold wK;split<;>(try split)<;>(try split)<;>omega
theorem Zdo(ts:List Tok):K6 ts=0∨(32<=K6 ts∧K6 ts<=34):=by
 unfold K6;split<;>(try split)<;>(try split)<;>omega
theorem Zdk(ts:List Tok):L1 ts=0∨(19<=L1 ts∧L1 ts<=22):=by
 unfold L1;split<;>(try split)<;>(try split)<;>(try split)<;>omega
theorem Zoh{text:ByteArray}{j k:Nat}{t:Tok}(u:j<text.size)(h:kV text j=.ok (t,k)):t.kind=1->r' t.text:=by
 intro h1;unfold kV at h;simp only at h;split at h
 .rename_i hl;obtain⟨K,o⟩:∃K,Zk zb text (text.size-j) j=K:=⟨_,rfl⟩
  obtain⟨s1,g,m,s4⟩:=Uy zb text (text.size-j) j (Y0 _) O';rw[o]at h s1 g m s4;have y:j<K:=by
   exact Zvu
  split at h;·exact Uk
  .rename_i p;split at h;·cases h
   .simp only[Except.ok.injEq,Prod.mk.injEq]at h;obtain⟨rfl,rfl⟩:=h;have hs:=S' text (j:=j) g;refine⟨by rw[hs];omega,by rw[hs];omega,?_,λi hi=>?_,by simpa using p⟩;·rw[Zi text O' g,Nat.add_zero];exact hl
    .rw[hs]at hi;rw[Zi text hi g];exact m _ O' O'
 .exfalso;split at h
  .split at h;·cases h
   .split at h;·cases h
    .exact Uk
  .split at h
   .split at h;·cases h
    .split at h;·cases h
     .exact Uk
   .split at h;·cases h
    .exact Uk
inductive Srt|v|vl|ol|pl|b|k|s|sl
mutual
def nD:Tree->Bool
 | .mk k _ _ ks=>if k=7∧ks.length=2 then true else if k=7∨k=8∨k=9 then VD ks else false
def VD:List Tree->Bool
 | []=>false
 |x::l=>if l.isEmpty then nD x else VD l
end
def Ui(l:List Tree):ByteArray:=if TU l then RB else ByteArray.empty
inductive Wf:Srt->List Tree->Prop
 |num {n:Int}:0<=n->n<=1000000000->Wf .v [.mk 17 ByteArray.empty n []]
 |str {s:ByteArray}:s.size<=500->Wf .v [.mk 18 s 0 []]
 |con {k:Int}:19<=k->k<=22->Wf .v [.mk k ByteArray.empty 0 []]
 |name {s:ByteArray}:r' s->Wf .v [.mk 23 s 0 []]
 |set {x y:Tree}:x.kind=23∨x.kind=36->Wf .v [x]->Wf .v [y]->Wf .v [.mk 24 ByteArray.empty 0 [x,y]]
 |two {k:Int} {x y:Tree}:25<=k->k<=31->Wf .v [x]->Wf .v [y]->Wf .v [.mk k ByteArray.empty 0 [x,y]]
 |one {k:Int} {x:Tree}:32<=k->k<=34->Wf .v [x]->Wf .v [.mk k ByteArray.empty 0 [x]]
 |mem {s:ByteArray} {x:Tree}:r' s->Wf .v [x]->Wf .v [.mk 36 s 0 [x]]
 |call {x:Tree} {l:List Tree}:Wf .v [x]->Wf .vl l->Wf .v [.mk 35 ByteArray.empty 0 (x::l)]
 |lam {s:ByteArray} {l:List Tree} {b:Tree}:s=ByteArray.empty∨r' s->Wf .pl l->Wf .b [b]->Wf .v [.mk 37 s 0 [.mk 40 ByteArray.empty 0 l,b]]
 |obj {l:List Tree}:Wf .ol l->Wf .v [.mk 38 ByteArray.empty 0 l]
 |vnil:Wf .vl []
 |vcons {x:Tree} {l:List Tree}:Wf .v [x]->Wf .vl l->Wf .vl (x::l)
 |onil:Wf .ol []
 |ocons {s:ByteArray} {x:Tree} {l:List Tree}:r' s->Wf .v [x]->Wf .ol l->Wf .ol (.mk 39 s 0 [x]::l)
 |pnil:Wf .pl []
 |pcons {s:ByteArray} {l:List Tree}:r' s->Wf .pl l->Wf .pl (.mk 23 s 0 []::l)
 |body {l:List Tree}:Wf .sl l->Wf .b [.mk 6 (Ui l) 0 l]
 |block {l:List Tree}:Wf .sl l->Wf .k [.mk 6 ByteArray.empty 0 l]
 |decl0 {k:Int} {s:ByteArray}:k=2∨k=3->r' s->Wf .s [.mk k s 0 []]
 |decl1 {k:Int} {s:ByteArray} {x:Tree}:k=2∨k=3∨k=4->r' s->Wf .v [x]->Wf .s [.mk k s 0 [x]]
 |func {s:ByteArray} {l:List Tree} {b:Tree}:r' s->Wf .pl l->Wf .b [b]->Wf .s [.mk 5 s 0 [.mk 40 ByteArray.empty 0 l,b]]
 |blk {b:Tree}:Wf .k [b]->Wf .s [b]
 |if2 {x y:Tree}:Wf .v [x]->Wf .s [y]->Wf .s [.mk 7 ByteArray.empty 0 [x,y]]
 |if3 {x y z:Tree}:Wf .v [x]->Wf .s [y]->Wf .s [z]->nD y=false->Wf .s [.mk 7 ByteArray.empty 0 [x,y,z]]
 |loop {k:Int} {x y:Tree}:k=8∨k=9->Wf .v [x]->Wf .s [y]->Wf .s [.mk k ByteArray.empty 0 [x,y]]
 |ret0:Wf .s [.mk 10 ByteArray.empty 0 []]
 |ret1 {k:Int} {x:Tree}:k=10∨k=11->Wf .v [x]->Wf .s [.mk k ByteArray.empty 0 [x]]
 |tryc {s:ByteArray} {b c:Tree}:Wf .k [b]->r' s->Wf .k [c]->Wf .s [.mk 12 ByteArray.empty 0 [b,.mk 13 s 0 [c]]]
 |tryf {b c:Tree}:Wf .k [b]->Wf .k [c]->Wf .s [.mk 12 ByteArray.empty 0 [b,.mk 14 ByteArray.empty 0 [c]]]
 |trycf {s:ByteArray} {b c e:Tree}:Wf .k [b]->r' s->Wf .k [c]->Wf .k [e]->Wf .s [.mk 12 ByteArray.empty 0 [b,.mk 13 s 0 [c],.mk 14 ByteArray.empty 0 [e]]]
 |empty:Wf .s [.mk 16 ByteArray.empty 0 []]
 |expr {x:Tree}:Wf .v [x]->Wf .s [.mk 15 ByteArray.empty 0 [x]]
 |snil:Wf .sl []
 |scons {x:Tree} {l:List Tree}:Wf .s [x]->Wf .sl l->Wf .sl (x::l)
theorem Wf.vapp{l:List Tree}{x:Tree}(h:Wf .vl l)(g:Wf .v [x]):Wf .vl (l++[x]):=by
 induction l with
 |nil=>exact .vcons g .vnil
 |cons y l m=>cases h with|vcons o p=>exact .vcons o (m p)
theorem Wf.oapp{l:List Tree}{s:ByteArray}{x:Tree}(h:Wf .ol l)(hs:r' s)(g:Wf .v [x]):Wf .ol (l++[.mk 39 s 0 [x]]):=by
 induction l with
 |nil=>exact .ocons hs g .onil
 |cons y l m=>cases h with|ocons o p u=>exact .ocons o p (m u)
theorem Wf.papp{l:List Tree}{s:ByteArray}(h:Wf .pl l)(hs:r' s):Wf .pl (l++[.mk 23 s 0 []]):=by
 induction l with
 |nil=>exact .pcons hs .pnil
 |cons y l g=>cases h with|pcons m o=>exact .pcons m (g o)
theorem Wf.sapp{l:List Tree}{x:Tree}(h:Wf .sl l)(g:Wf .s [x]):Wf .sl (l++[x]):=by
 induction l with
 |nil=>exact .scons g .snil
 |cons y l m=>cases h with|scons o p=>exact .scons o (m p)
def GW(ts:List Tok):Prop:=∀t∈ts,(t.kind=1->r' t.text)∧(t.kind=3->0<=t.n∧t.n<=1000000000)∧(t.kind=4->t.text.size<=500)
theorem GW.tail{ts:List Tok}(h:GW ts):GW ts.tail:=λt ht=>h t (List.mem_of_mem_tail ht)
theorem GW.hd{ts:List Tok}(h:GW ts):((bL ts).kind=1->r' (bL ts).text)∧((bL ts).kind=3->0<=(bL ts).n∧(bL ts).n<=1000000000)∧((bL ts).kind=4->(bL ts).text.size<=500):=by
 cases ts with
 |nil=>refine⟨λhk=>?_,λhk=>?_,λhk=>?_⟩<;>simp[bL]at hk
 |cons t l=>exact h t Pg
def Wh(P:Tree->List Tok->Prop)(p:PR):Prop:=∀t ts,p=some (.ok (t,ts))->P t ts∧GW ts
section
variable {P Q:Tree->List Tok->Prop}
theorem Wh.fail{e:Int}{ts:List Tok}:Wh P (vg e ts):=by intro t ts' h;cases h
theorem Wh.none:Wh P none:=by intro t ts' h;cases h
theorem Wh.err{e:Int×Nat}:Wh P (some (.error e)):=by intro t ts' h;cases h
theorem Wh.ok{t:Tree}{ts:List Tok}(h:P t ts)(g:GW ts:=by first|assumption|exact GW.tail Px|exact GW.tail (GW.tail Px)):Wh P (iy t ts):=by
 exact Zt9
theorem Wh.bind{p:PR}{k:Tree->List Tok->PR}(hp:Wh P p)(hk:∀t ts,P t ts->GW ts->Wh Q (k t ts)):Wh Q (Zr p k):=by
 cases p with
 |none=>exact Wh.none
 | some r =>
   cases r with
   |error e=>exact Wh.err
   |ok x=>obtain⟨t,ts⟩:=x;exact hk t ts (hp t ts rfl).1 (hp t ts rfl).2
theorem Wh.want{s:ByteArray}{ts:List Tok}{k:List Tok->PR}(hk:GW ts.tail->Wh P (k ts.tail))(g:GW ts:=by first|assumption|exact GW.tail Px|exact GW.tail (GW.tail Px)):Wh P (iB s ts k):=by
 unfold iB;by_cases h:aa s ts=true;·rw[Y5 h];exact hk g.tail
 .rw[Y3 h];exact Wh.fail
theorem Wh.name{ts:List Tok}{k:ByteArray->List Tok->PR}(hk:∀s,r' s->GW ts.tail->Wh P (k s ts.tail))(g:GW ts:=by first|assumption|exact GW.tail Px|exact GW.tail (GW.tail Px)):Wh P (wc ts k):=by
 unfold wc;by_cases h:(bL ts).kind=1;·rw[Y5 h];exact hk _ (g.hd.1 h) g.tail
 .rw[Y3 h];exact Wh.fail
theorem Wh.within{d:Nat}{ts:List Tok}{p:PR}(h:Wh P p):Wh P (vX d ts p):=by
 unfold vX;by_cases g:30<d+1;·rw[Y5 g];exact Wh.fail
 .rw[Y3 g];exact h
theorem Wh.ite{c:Prop} [Decidable c]{p q:PR}(hp:c->Wh P p)(hq:¬c->Wh P q):Wh P (if c then p else q):=by
 by_cases h:c;·rw[Y5 h];exact hp h
 .rw[Y3 h];exact hq h
theorem Wh.comma{c:Prop} [Decidable c]{ts:List Tok}{k:List Tok->PR}(hk:∀ts',GW ts'->Wh P (k ts'))(g:GW ts:=by first|assumption|exact GW.tail Px|exact GW.tail (GW.tail Px)):Wh P ((if c then iB wJ ts else λk=>k ts) k):=by
 by_cases h:c;·rw[Y5 h];exact Wh.want (hk _)
 .rw[Y3 h];exact hk _ g
theorem Wh.end'{t:Tree}{ts:List Tok}(h:P t ts.tail)(g:GW ts:=by first|assumption|exact GW.tail Px|exact GW.tail (GW.tail Px)):Wh P (tZ t ts):=Wh.want λ_=>Wh.ok h
theorem Wh.weak{p:PR}(h:Wh P p)(g:∀t ts,P t ts->Q t ts):Wh Q p:=λt ts e=>⟨g t ts (h t ts e).1,(h t ts e).2⟩
end
def StW(t:Tree)(ts:List Tok):Prop:=Wf .s [t]∧(nD t=true->aa Uw ts=false)
def Job.resW:Job->Tree->List Tok->Prop
 | .stmts kind _=>λt _=>∃l,Wf .sl l∧t=.mk kind (Ui l) 0 l
 | .block body=>λt _=>if body then Wf .b [t]else Wf .k [t]
 | .func kind _=>λt _=>(kind=5->Wf .s [t]∧nD t=false)∧(kind=37->Wf .v [t])
 | .params _=>λt _=>∃l,Wf .pl l∧t=.mk 40 ByteArray.empty 0 l
 | .stmt=>StW
 | .decl _ _=>λt _=>Wf .s [t]∧nD t=false
 | .try_=>λt _=>Wf .s [t]∧nD t=false
 |_=>λt _=>Wf .v [t]
def Job.goodW:Job->Prop
 | .stmts _ g=>Wf .sl g
 | .func kind s=>(kind=5∧r' s)∨(kind=37∧(s=ByteArray.empty∨r' s))
 | .params g=>Wf .pl g
 | .decl kind m=>(kind=2∨kind=3)∨(kind=4∧m=true)
 | .binLoop _ x=>Wf .v [x]
 | .postLoop x=>Wf .v [x]
 | .args g=>∃x l,g=x::l∧Wf .v [x]∧Wf .vl l
 | .object g=>Wf .ol g
 |_=>True
theorem Sw{k:Int}{s:ByteArray}{n:Int}{l:List Tree}(h:k≠7∧k≠8∧k≠9):nD (.mk k s n l)=false:=by
 unfold nD;rw[Y3 O',Y3 O']
theorem Zem{x y:Tree}:VD [x,y]=nD y:=by
 rw[VD.eq_def];simp only;rw[Y3 Pg,VD.eq_def];simp only;rw[Y5 Pg]
theorem Zdj{k:Int}{s:ByteArray}{n:Int}{x y:Tree}(h:k=8∨k=9):nD (.mk k s n [x,y])=nD y:=by
 rw[nD.eq_def (.mk k s n [x,y])];simp only;rw[Y3 O',Y5 O',Zem]
theorem Zog{s:ByteArray}{n:Int}{x y z:Tree}:nD (.mk 7 s n [x,y,z])=nD z:=by
 rw[nD.eq_def (.mk 7 s n [x,y,z])];show(if(7:Int)=7∧[x,y,z].length=2 then true else if(7:Int)=7∨(7:Int)=8∨(7:Int)=9 then VD [x,y,z]else false)=nD z;rw[Y3 Pg,Y5 (.inl rfl),VD.eq_def];simp only;rw[Y3 Pg,Zem]
theorem Zo4:∀(f:Nat) (E:Job) (d:Nat) (ts:List Tok),E.goodW->GW ts->Wh E.resW (Z3 f E d ts):=by
 intro f;induction f with
 |zero=>intro E d ts _ _;unfold Z3;exact Wh.none
 | succ f jO =>
   intro E d ts o X;have m:∀(E:Job) (d:Nat) (ts:List Tok),E.goodW->∀(g:GW ts:=by first|assumption|exact GW.tail Px|exact GW.tail (GW.tail Px)),Wh E.resW (Z3 f E d ts):=λE d ts h g=>jO E d ts h g;have kk:∀{t:Tree},Wf .k [t]->Wf .s [t]∧nD t=false:=λh=>⟨.blk h,by cases h;exact Sw O'⟩;cases E with
   | stmts kind F =>
     unfold Z3;refine Wh.ite (λ_=>Wh.ok ⟨F,o,rfl⟩) λ_=>?_;exact Wh.bind (Wh.within (m .stmt _ _ trivial)) λt ts' h _=>(m (.stmts kind (F++[t])) _ _ (Wf.sapp o h.1))
   | block body =>
     unfold Z3;refine Wh.want (λ_=>Wh.bind (m (.stmts 6 []) _ _ .snil) λt ts' O _=>Wh.want (λ_=>Wh.ok ?_));obtain⟨l,I,rfl⟩:=O;cases body with
     |true=>exact .body I
     |false=>exact .block I
   | func kind text =>
     unfold Z3;refine Wh.want (λ_=>Wh.bind (m (.params []) _ _ .pnil) λt ts' O _=>Wh.want (λ_=>Wh.bind (m (.block true) _ _ trivial) λt ts' u _=>Wh.ok ?_));obtain⟨l,I,rfl⟩:=O;refine⟨λhk=>?_,λhk=>?_⟩
     .subst hk;rcases o with⟨_,o⟩|⟨o,_⟩;·exact⟨.func o I u,Sw O'⟩
      .cases o
     .subst hk;rcases o with⟨o,_⟩|⟨_,o⟩;·cases o
      .exact .lam o I u
   | params F =>
     unfold Z3;refine Wh.ite (λ_=>Wh.ok ⟨F,o,rfl⟩) λ_=>?_;exact Wh.comma λts' _=>Wh.ite (λ_=>Wh.fail) λ_=>Wh.name λs hs _=>m (.params (F++[Tree.mk 23 s 0 []])) _ _ (Wf.papp o hs)
   | around =>
     unfold Z3;exact Wh.want (λ_=>Wh.bind (m .value _ _ trivial) λt ts' O _=>Wh.want (λ_=>Wh.ok O))
   | stmt =>
     unfold Z3;show Wh StW _;have nd:∀{t:Tree} {ts:List Tok},Wf .s [t]∧nD t=false->StW t ts:=λh=>⟨h.1,λe=>by rw[h.2]at e;cases e⟩;refine Wh.ite (λh=>(m (.block false) _ _ trivial).weak λ_ _ h=>nd (kk h)) λ_=>?_;refine Wh.ite (λh=>Wh.ok (nd ⟨.empty,Sw O'⟩)) λ_=>?_;refine Wh.ite (λh=>Wh.bind (m (.decl 2 false) _ _ (.inl (.inl rfl))) λt us p _=>Wh.end' (nd p)) λ_=>?_;refine Wh.ite (λh=>Wh.bind (m (.decl 3 false) _ _ (.inl (.inr rfl))) λt us p _=>Wh.end' (nd p)) λ_=>?_
     refine Wh.ite (λh=>Wh.bind (m (.decl 4 true) _ _ (.inr ⟨rfl,rfl⟩)) λt us p _=>Wh.end' (nd p)) λ_=>?_;refine Wh.ite (λh=>Wh.name λs hs _=>(m (.func 5 s) _ _ (.inl ⟨rfl,hs⟩)).weak λ_ _ h=>nd (h.1 rfl)) λ_=>?_;refine Wh.ite (λh=>Wh.bind (m .around _ _ trivial) λx us p _=>Wh.bind (Wh.within (m .stmt _ _ trivial)) λy vs u _=>Wh.ite (λU=>Wh.bind (Wh.within (m .stmt _ _ trivial)) λz Y h5 _=>Wh.ok ?_) λU=>Wh.ok ?_) λ_=>?_
     .refine⟨.if3 p u.1 h5.1 ?_,by rw[Zog];exact h5.2⟩;cases hd:nD y with
      |false=>rfl
      |true=>rw[u.2 hd]at U;cases U
     .exact⟨.if2 p u.1,λ_=>by simpa using U⟩
     refine Wh.ite (λh=>Wh.bind (m .around _ _ trivial) λt us p _=>Wh.bind (Wh.within (m .stmt _ _ trivial)) λt vs u _=>Wh.ok ⟨.loop (.inl rfl) p u.1,by rw[Zdj (.inl rfl)];exact u.2⟩) λ_=>?_;refine Wh.ite (λh=>Wh.bind (m .around _ _ trivial) λt us p _=>Wh.bind (Wh.within (m .stmt _ _ trivial)) λt vs u _=>Wh.ok ⟨.loop (.inr rfl) p u.1,by rw[Zdj (.inr rfl)];exact u.2⟩) λ_=>?_
     refine Wh.ite (λh=>Wh.ite (λI=>Wh.end' (nd ⟨.ret0,Sw O'⟩)) (λ_=>Wh.bind (m .value _ _ trivial) λt us p _=>Wh.end' (nd ⟨.ret1 (.inl rfl) p,Sw O'⟩))) λ_=>?_;refine Wh.ite (λh=>Wh.bind (m .value _ _ trivial) λt us p _=>Wh.end' (nd ⟨.ret1 (.inr rfl) p,Sw O'⟩)) λ_=>?_;refine Wh.ite (λh=>(m .try_ _ _ trivial).weak λ_ _ h=>nd h) λ_=>?_;exact Wh.bind (m .value _ _ trivial) λt us p _=>Wh.end' (nd ⟨.expr p,Sw O'⟩)
   | decl kind gO =>
     have hk:(kind=2∨kind=3)∨(kind=4∧gO=true):=o;unfold Z3;refine Wh.name λs hs _=>Wh.ite (λ_=>Wh.fail) λhm=>Wh.ite (λp=>Wh.bind (m .value _ _ trivial) λt us u _=>Wh.ok ?_) λhn=>Wh.ok ?_;·exact⟨.decl1 O' hs u,Sw O'⟩
     .refine⟨.decl0 ?_ hs,Sw O'⟩;rcases hk with h|⟨h,Lw⟩;·exact h
      .subst Lw;simp[hn]at hm
   | try_ =>
     unfold Z3;refine Wh.bind (m (.block false) _ _ trivial) λb us h _=>?_;replace h:Wf .k [b]:=h
     refine Wh.ite (λI=>?_) λ_=>?_
     .refine Wh.want (λ_=>Wh.name λs hs _=>Wh.want (λ_=>Wh.bind (m (.block false) _ _ trivial) λc vs h5 _=>?_));exact Wh.ite (λ_=>Wh.bind (m (.block false) _ _ trivial) λt Y u _=>Wh.ok ⟨.trycf h hs h5 u,Sw O'⟩) λ_=>Wh.ite (λ_=>Wh.fail) λ_=>Wh.ok ⟨.tryc h hs h5,Sw O'⟩
     .exact Wh.ite (λ_=>Wh.bind (m (.block false) _ _ trivial) λt Y u _=>Wh.ok ⟨.tryf h u,Sw O'⟩) λ_=>Wh.ite (λ_=>Wh.fail) λh=>absurd rfl h
   |value=>unfold Z3;exact Wh.within (m .assign _ _ trivial)
   | assign =>
     unfold Z3;exact Wh.bind (m (.bin 0) _ _ trivial) λx us h _=>Wh.ite (λI=>Wh.ite (λhk=>Wh.bind (m .value _ _ trivial) λy vs p _=>Wh.ok (.set hk h p)) λ_=>Wh.err) λ_=>Wh.ok h
   | bin J =>
     unfold Z3;exact Wh.ite (λ_=>m .unary _ _ trivial) λ_=>Wh.bind (m (.bin (J+1)) _ _ trivial) λx us h _=>m (.binLoop J x) _ _ h
   | binLoop J x =>
     unfold Z3;exact Wh.ite (λ_=>Wh.ok o) λh0=>Wh.bind (m (.bin (J+1)) _ _ trivial) λy us h _=>m (.binLoop J (.mk (wK J ts) ByteArray.empty 0 [x,y])) _ _ (.two (by have:=Zek J ts;omega) (by have:=Zek J ts;omega) o h)
   | unary =>
     unfold Z3;exact Wh.ite (λ_=>m .postfix_ _ _ trivial) λh0=>Wh.bind (Wh.within (m .unary _ _ trivial)) λx us h _=>Wh.ok (.one (by have:=Zdo ts;omega) (by have:=Zdo ts;omega) h)
   | postfix_ =>
     unfold Z3;exact Wh.bind (m .primary _ _ trivial) λx us h _=>m (.postLoop x) _ _ h
   | postLoop x =>
     unfold Z3;exact Wh.ite (λ_=>Wh.name λs hs _=>m (.postLoop (.mk 36 s 0 [x])) _ _ (.mem hs o)) λ_=>Wh.ite (λ_=>Wh.bind (m (.args [x]) _ _ ⟨x,[],rfl,o,.vnil⟩) λn us h _=>m (.postLoop n) _ _ h) λ_=>Wh.ok o
   | args F =>
     unfold Z3;obtain⟨x,l,rfl,hx,hl⟩:=o;refine Wh.ite (λ_=>Wh.ok (.call hx hl)) λ_=>?_;exact Wh.comma λts' _=>Wh.ite (λ_=>Wh.fail) λ_=>Wh.bind (m .value _ _ trivial) λv us h _=>m (.args (x::l++[v])) _ _ ⟨x,l++[v],rfl,hx,Wf.vapp hl h⟩
   | primary =>
     unfold Z3;obtain⟨g1,Z,g3⟩:=X.hd;refine Wh.ite (λh=>Wh.ok (.name (g1 h))) λ_=>?_;refine Wh.ite (λh=>Wh.ok (.num (Z h).1 (Z h).2)) λ_=>?_;refine Wh.ite (λh=>Wh.ok (.str (g3 h))) λ_=>?_;refine Wh.ite (λh=>Wh.ok (.con (by have:=Zdk ts;omega) (by have:=Zdk ts;omega))) λ_=>?_;refine Wh.ite (λh=>m .around _ _ trivial) λ_=>?_
     refine Wh.ite (λh=>Wh.ite (λhk=>(m (.func 37 (bL ts.tail).text) _ _ (.inr ⟨rfl,.inr (X.tail.hd.1 hk)⟩)).weak λ_ _ h=>h.2 rfl) λ_=>(m (.func 37 ByteArray.empty) _ _ (.inr ⟨rfl,.inl rfl⟩)).weak λ_ _ h=>h.2 rfl) λ_=>?_;exact Wh.ite (λh=>m (.object []) _ _ .onil) λ_=>Wh.fail
   | object F =>
     unfold Z3;refine Wh.ite (λ_=>Wh.ok (.obj o)) λ_=>?_;exact Wh.comma λts' _=>Wh.ite (λ_=>Wh.fail) λ_=>Wh.name λs hs _=>Wh.want (λ_=>Wh.bind (m .value _ _ trivial) λv us h _=>m (.object (F++[Tree.mk 39 s 0 [v]])) _ _ (Wf.oapp o hs h))
theorem Zrm{text:ByteArray}{k:Nat}:∀(f i:Nat) (n:Int),(∀m,i<=m->m<k->oG (Z5 text m)=true)->0<=n->0<=mE text k f i n:=by
 intro f;induction f with
 |zero=>intro i n _ h;exact h
 | succ f g =>
   intro i n hd h;simp only[mE];by_cases hi:i<k
   .rw[Y5 hi];have:=hd i (Y0 _) hi;simp only[oG,Bool.and_eq_true,decide_eq_true_eq]at this;exact g _ _ (λm p o=>hd m O' o) O'
   .rw[Y3 hi];exact h
theorem Zfg{text:ByteArray}:∀(f i:Nat) (m o:List UInt8) (k:Nat),tM text f i m=(o,0,k)->o.length<=500:=by
 intro f;induction f with
 |zero=>intro i m o k h;simp[tM]at h
 | succ f p =>
   intro i m o k h;simp only[tM]at h;by_cases u:text.size<=i∨Z5 text i=10;·rw[Y5 u]at h;simp at h
   rw[Y3 u]at h;by_cases y:Z5 text i=39
   .rw[Y5 y]at h;by_cases g:500<m.length;·rw[Y5 g]at h;simp at h
    rw[Y3 g]at h;simp only[Prod.mk.injEq,true_and]at h;obtain⟨rfl,_⟩:=h;omega
   rw[Y3 y]at h;by_cases g:Z5 text i=92
   .rw[Y5 g]at h;by_cases E:i+1<text.size
    .rw[Y5 E]at h;cases he:Tm (Z5 text (i+1))with
     |none=>rw[he]at h;simp at h
     |some e=>rw[he]at h;exact p _ _ _ _ h
    .rw[Y3 E]at h;simp at h
   .rw[Y3 g]at h;exact p _ _ _ _ h
theorem Znd{text:ByteArray}{j k:Nat}{t:Tok}(o:j<text.size)(h:kV text j=.ok (t,k)):(t.kind=1->r' t.text)∧(t.kind=3->0<=t.n∧t.n<=1000000000)∧(t.kind=4->t.text.size<=500):=by
 refine⟨Zoh o h,λhk=>?_,λhk=>?_⟩
 .unfold kV at h;simp only at h;split at h
  .split at h;·exact ID
   .split at h;·cases h
    .exact ID
  .split at h
   .split at h;·cases h
    .split at h;·cases h
     .simp only[Except.ok.injEq,Prod.mk.injEq]at h;obtain⟨rfl,_⟩:=h;obtain⟨s1,u,p,y⟩:=Uy oG text (text.size-j) j (Y0 _) O';exact⟨Zrm _ _ _ p O',by simp only;omega⟩
   .split at h
    .split at h;·cases h
     .split at h;·cases h
      .exact ID
    .split at h;·cases h
     .exact ID
 .unfold kV at h;simp only at h;split at h
  .split at h;·exact ID
   .split at h;·cases h
    .exact ID
  .split at h
   .split at h;·cases h
    .split at h;·cases h
     .exact ID
   .split at h
    .obtain⟨⟨E,e,K⟩,g⟩:∃R,R=GF text (j+1):=⟨_,rfl⟩
     rw[<-g]at h;simp only at h;split at h;·cases h
     .split at h;·cases h
      .rename_i m;simp only[ne_eq,Decidable.not_not]at m;subst m;simp only[Except.ok.injEq,Prod.mk.injEq]at h;obtain⟨rfl,_⟩:=h;have:=Zfg _ _ _ _ _ g.symm;exact this
    .split at h;·cases h
     .exact ID
theorem Zng{text:ByteArray}:∀(r:List Tok) (i:Nat),i<=text.size->YN text i r->GW r:=by
 intro r;induction r with
 |nil=>intro i _ h;exact h.elim
 | cons t r o =>
   intro i hi h;cases r with
   | nil =>
     obtain⟨m,g⟩:=h;intro x hx;simp only[List.mem_singleton]at hx;subst hx;rw[g];refine⟨λh=>?_,λh=>?_,λh=>?_⟩<;>simp at h
   | cons u r =>
     obtain⟨k,m,g,p⟩:=h;obtain⟨c1,c2,_⟩:=Z7h text m g;intro x hx;rcases List.mem_cons.1 hx with rfl|hx;·exact Znd m g
     .exact o k c2 p x hx
theorem Z79{text:ByteArray}{t:Tree}(h:xG text=.ok t):∃l,Wf .sl l∧t=.mk 1 (Ui l) 0 l∧t.many<=1500:=by
 unfold xG at h;split at h;·cases h
 .split at h;·cases h
  .rename_i ts _;split at h;·cases h
   .cases h
   .rename_i t' ts' hp;split at h;·cases h
    .have e:t'=t:=by simpa using h
     subst e;obtain⟨⟨l,g,m⟩,_⟩:=Zo4 _ _ _ _ (show Job.goodW (.stmts 1 [])from .snil) (Zng _ _ (Yh _) (Ze7 Px)) _ _ hp;exact⟨l,g,m,by omega⟩
def LVal.ok(k:Nat)(v:LVal):Prop:=
 0<=v.kind∧v.kind<=5∧v.s.size<=500∧(v.kind≠5->-1000000000<=v.n∧v.n<=1000000000)∧(v.kind=5->0<=v.n∧v.n<k)
theorem LVal.ok.mono{k m:Nat}{v:LVal}(h:v.ok k)(hk:k<=m):v.ok m:=⟨h.1,h.2.1,h.2.2.1,h.2.2.2.1,λe=>⟨(h.2.2.2.2 e).1,by have:=(h.2.2.2.2 e).2;omega⟩⟩
theorem qC(k:Nat):LVal.zero.ok k:=⟨by decide,by decide,by decide,λ_=>by decide,λh=>by cases h⟩
theorem Xk{k:Nat}{t:ByteArray}(h:t.size<=500):(LVal.say t).ok k:=by refine⟨?_,?_,h,λ_=>?_,λh=>?_⟩<;>simp only[LVal.say]at * <;>omega
theorem Tq{k:Nat}(b:Bool):(LVal.is b).ok k:=by cases b<;>exact⟨by decide,by decide,by decide,λ_=>by decide,λh=>by cases h⟩
theorem Zps{k:Nat}:(⟨1,0,⟨#[]⟩⟩:LVal).ok k:=⟨by decide,by decide,by decide,λ_=>by decide,λh=>by cases h⟩
theorem Zgd{k:Nat}{n:Int}(g:-1000000000<=n)(m:n<=1000000000):(LVal.num n).ok k:=⟨by show(0:Int)<=3;decide,by show(3:Int)<=5;decide,by show(0:Nat)<=500;decide,λ_=>⟨g,m⟩,λh=>by cases h⟩
theorem N'{k:Nat}{n:Int}(g:0<=n)(m:n<k):(LVal.ref n).ok k:=⟨by show(0:Int)<=5;decide,by show(5:Int)<=5;decide,by show(0:Nat)<=500;decide,λh=>absurd rfl h,λ_=>⟨g,m⟩⟩
structure Near(H H':LHeap):Prop where
 lo:H'.objects.length=H.objects.length
 ls:H'.scopes.length=H.scopes.length
 obj:∀(i:Nat) (o':LObj),H'.objects[i]?=some o'->∃o:LObj,H.objects[i]?=some o∧o'.code=o.code∧o'.props.length<=o.props.length+1∧∀p∈o'.props,p.v.ok H.objects.length∨∃q∈o.props,q.v=p.v
 scp:∀(i:Nat) (o':LScope),H'.scopes[i]?=some o'->∃o:LScope,H.scopes[i]?=some o∧o'.outer=o.outer∧o'.object=o.object∧o'.names.length<=o.names.length+1∧
  ∀p∈o'.names,(p.v.ok H.objects.length∨∃q∈o.names,q.v=p.v)∧((0<=p.kind∧p.kind<=4)∨∃q∈o.names,q.kind=p.kind)
theorem Near.refl(H:LHeap):Near H H:=
 ⟨rfl,rfl,λi o h=>⟨o,h,rfl,by omega,λp hp=>.inr ⟨p,hp,rfl⟩⟩,λi o h=>⟨o,h,rfl,rfl,by omega,λp hp=>⟨.inr ⟨p,hp,rfl⟩,.inr ⟨p,hp,rfl⟩⟩⟩⟩
theorem Near.object{H:LHeap}{m:Nat}{o o':LObj}(g:H.objects[m]?=some o)(hc:o'.code=o.code)(hl:o'.props.length<=o.props.length+1)(hp:∀p∈o'.props,p.v.ok H.objects.length∨∃q∈o.props,q.v=p.v) :
 Near H {H with objects:=H.objects.set m o'}:=by
 refine⟨by simp,rfl,λi x h=>?_,(Near.refl H).scp⟩;simp only[List.getElem?_set]at h;split at h
 .split at h
  .rename_i u y;simp only[Option.some.injEq]at h;subst u;subst h;exact⟨o,g,hc,hl,hp⟩
  .cases h
 .exact(Near.refl H).obj i x h
theorem Near.scope{H:LHeap}{m:Nat}{o:LScope}{l:List LBind}(g:H.scopes[m]?=some o)(hl:l.length<=o.names.length+1)
 (hp:∀p∈l,(p.v.ok H.objects.length∨∃q∈o.names,q.v=p.v)∧((0<=p.kind∧p.kind<=4)∨∃q∈o.names,q.kind=p.kind)):Near H (H.setNames m o l):=by
 refine⟨rfl,by simp[LHeap.setNames],(Near.refl H).obj,λi x h=>?_⟩;simp only[LHeap.setNames,List.getElem?_set]at h;split at h
 .split at h
  .rename_i u y;simp only[Option.some.injEq]at h;subst u;subst h;exact⟨o,g,rfl,rfl,hl,hp⟩
  .cases h
 .exact(Near.refl H).scp i x h
theorem mem_modify{α:Type}{f:α->α}{l:List α}{k:Nat}{x:α}(h:x∈l.modify k f):x∈l∨∃y∈l,x=f y:=by
 induction l generalizing k with
 |nil=>simp at h
 | cons a l g =>
   cases k with
   | zero =>
     simp only[List.modify_zero_cons,List.mem_cons]at h;rcases h with rfl|h;·exact .inr ⟨a,by simp,rfl⟩
     .exact .inl (by simp[h])
   | succ k =>
     simp only[List.modify_succ_cons,List.mem_cons]at h;rcases h with rfl|h;·exact .inl Pg
     .rcases g h with h|⟨y,m,o⟩;·exact .inl (by simp[h])
      .exact .inr ⟨y,by simp[m],o⟩
theorem Vh{H:LHeap}{n:Int}{name:ByteArray}{v:LVal}{fixed:Bool}(g:v.ok H.objects.length):Near H (H.put n name v fixed).1:=by
 unfold LHeap.put;rcases hob:H.object? n with _|o;·exact Near.refl H
 obtain⟨m,rfl,u⟩:=LHeap.object?_some hob;simp only;split
 .rename_i k hk;refine Near.object (m:=m) u rfl Pg λp hp=>?_;rcases mem_modify hp with h|⟨y,E,rfl⟩;·exact .inr ⟨p,h,rfl⟩
  .exact .inl g
 .refine Near.object (m:=m) u rfl Pg λp hp=>?_;rcases List.mem_append.1 hp with h|h;·exact .inr ⟨p,h,rfl⟩
  .simp only[List.mem_singleton]at h;subst h;exact .inl g
theorem Zgb{H:LHeap}{n:Int}{name:ByteArray}:Near H (H.cut n name).1:=by
 unfold LHeap.cut;rcases hob:H.object? n with _|o;·exact Near.refl H
 obtain⟨m,rfl,g⟩:=LHeap.object?_some hob;simp only;split;·exact Near.refl H
 .split;·exact Near.refl H
  .split;·exact Near.refl H
   .refine Near.object (m:=m) g rfl ?_ λp hp=>.inr ⟨p,List.mem_of_mem_eraseIdx hp,rfl⟩;have:=List.length_eraseIdx_le o.props ‹Nat›;show(o.props.eraseIdx _).length<=_;omega
theorem Z5w{H:LHeap}{n:Int}{name:ByteArray}{v:LVal}{kind:Int}(g:v.ok H.objects.length)(hk:0<=kind)(u:kind<=4):Near H (H.declare n name kind v).1:=by
 unfold LHeap.declare;rcases hob:H.scope? n with _|o;·exact Near.refl H
 obtain⟨m,rfl,y⟩:=LHeap.scope?_some hob;simp only;split;·exact Near.refl H
 .split;·exact Near.refl H
  .refine Near.scope (m:=m) (l:=o.names++[⟨name,v,kind,_⟩]) y Pg λp hp=>?_;rcases List.mem_append.1 hp with h|h;·exact⟨.inr ⟨p,h,rfl⟩,.inr ⟨p,h,rfl⟩⟩
   .simp only[List.mem_singleton]at h;subst h;exact⟨.inl g,.inl ⟨hk,u⟩⟩
theorem Zh8{H:LHeap}{n:Int}{name:ByteArray}{v:LVal}(hv:v.ok H.objects.length):Near H (H.write n name v).1:=by
 unfold LHeap.write;rcases hob:H.scope? n with _|o;·exact Near.refl H
 obtain⟨m,rfl,hm⟩:=LHeap.scope?_some hob;simp only;split
 .split;·exact Near.refl H
  .rename_i k hk;split;·exact Near.refl H
   .rename_i b hb;split;·exact Near.refl H
    .split;·exact Near.refl H
     .split;·exact Near.refl H
      .exact Xg
 .split;·exact Vh hv
  .exact Near.refl H
theorem Zha{H:LHeap}{n:Int}{name:ByteArray}{v:LVal}(hv:v.ok H.objects.length):Near H (H.start n name v).1:=by
 unfold LHeap.start;rcases hob:H.scope? n with _|o;·exact Near.refl H
 obtain⟨m,rfl,hm⟩:=LHeap.scope?_some hob;simp only;split;·exact Near.refl H
 .split;·exact Near.refl H
  .split;·exact Near.refl H
   .rename_i b hb;exact Xg
theorem Zme{H:LHeap}{n:Int}{name:ByteArray}:Near H (H.drop n name).1:=by
 unfold LHeap.drop;rcases hob:H.scope? n with _|o;·exact Near.refl H
 obtain⟨m,rfl,g⟩:=LHeap.scope?_some hob;simp only;split
 .split;·exact Near.refl H
  .split;·exact Near.refl H
   .split
    .refine Near.scope (m:=m) g ?_ λp hp=>?_
     .have:=List.length_filter_le (λb=>!LBind.is name b) o.names;unfold unnamed;omega
     .have h:p∈o.names:=(List.mem_filter.1 hp).1;exact⟨.inr ⟨p,h,rfl⟩,.inr ⟨p,h,rfl⟩⟩
    .exact Near.refl H
 .split;·exact Zgb
  .exact Near.refl H
def NT.wf(c:Srt)(x:NT):Prop:=Wf c [x.tree]
def zU(x:NT):Prop:=(x.kind=5∧x.wf .s∨x.kind=37∧x.wf .v)∧x.tree.many<=1500
structure Inv(s:MSt)(d:Nat):Prop where
 wf:s.H.WF
 own:s.owners.length=s.H.scopes.length
 obj:∀o∈s.H.objects,0<=o.code∧o.code<3+s.clos.length∧(∀p∈o.props,p.v.ok s.H.objects.length)∧o.props.length+d<=20000*(s.steps.toNat+1)
 scp:∀c∈s.H.scopes,-1<=c.object∧c.object<s.H.objects.length∧(∀x∈c.names,x.v.ok s.H.objects.length∧0<=x.kind∧x.kind<=4)∧c.names.length+d<=20000*(s.steps.toNat+1)
 clo:∀c∈s.clos,zU c.node∧0<=c.scope∧c.scope<s.H.scopes.length
 last:s.last.ok s.H.objects.length
 calls:0<=s.calls∧s.calls<=40
 steps:0<=s.steps∧s.steps<=20001
 szO:s.H.objects.length+d<=20000*(s.steps.toNat+1)
 szS:s.H.scopes.length+d<=20000*(s.steps.toNat+1)
 szC:s.clos.length+d<=20000*(s.steps.toNat+1)
 szL:s.log.length+d<=20000*(s.steps.toNat+1)
 szN:s.seen.length+d<=20000*(s.steps.toNat+1)
structure Ext(s t:MSt):Prop where
 lo:s.H.objects.length<=t.H.objects.length
 scp:∀(i:Nat) (c:LScope),s.H.scopes[i]?=some c->∃c':LScope,t.H.scopes[i]?=some c'∧c'.outer=c.outer∧c'.object=c.object
 ls:s.H.scopes.length<=t.H.scopes.length
 own:∃l,t.owners=s.owners++l
 clo:∃l,t.clos=s.clos++l
 glob:t.glob=s.glob
 outer:t.outer=s.outer
 top:t.top=s.top
 steps:s.steps<=t.steps
 log:∃l,t.log=s.log++l
 seen:∃l,t.seen=s.seen++l
theorem Ext.refl(s:MSt):Ext s s:=⟨Y0 _,λi c h=>⟨c,h,rfl,rfl⟩,Y0 _,⟨[],by simp⟩,⟨[],by simp⟩,rfl,rfl,rfl,Int.le_refl _,⟨[],by simp⟩,⟨[],by simp⟩⟩
theorem Ext.trans{s t u:MSt}(a:Ext s t)(b:Ext t u):Ext s u:=by
 obtain⟨g,m⟩:=a.own;obtain⟨o,p⟩:=b.own;obtain⟨y,E⟩:=a.clo;obtain⟨F,G⟩:=b.clo;obtain⟨I,h5⟩:=a.log;obtain⟨J,O⟩:=b.log;obtain⟨U,X⟩:=a.seen;obtain⟨Y,Z⟩:=b.seen;refine⟨Y4 a.lo b.lo,λi c h=>?_,Y4 a.ls b.ls,⟨g++o,by rw[p,m,List.append_assoc]⟩,⟨y++F,by rw[G,E,List.append_assoc]⟩,b.glob.trans a.glob,b.outer.trans a.outer,b.top.trans a.top,Int.le_trans a.steps b.steps,⟨I++J,by rw[O,h5,List.append_assoc]⟩,⟨U++Y,by rw[Z,X,List.append_assoc]⟩⟩;obtain⟨c1,g1,g2,g3⟩:=a.scp i c h
 obtain⟨c2,k1,k2,k3⟩:=b.scp i c1 g1;exact⟨c2,k1,k2.trans g2,k3.trans g3⟩
section
variable {s:MSt}{d:Nat}
theorem Inv.less{d':Nat}(h:Inv s d)(hd:d'<=d):Inv s d' where
 wf:=h.wf
 own:=h.own
 obj:=λo ho=>by have:=h.obj o ho;exact⟨this.1,this.2.1,this.2.2.1,by omega⟩
 scp:=λo ho=>by have:=h.scp o ho;exact⟨this.1,this.2.1,this.2.2.1,by omega⟩
 clo:=h.clo
 last:=h.last
 calls:=h.calls
 steps:=h.steps
 szO:=by have:=h.szO;omega
 szS:=by have:=h.szS;omega
 szC:=by have:=h.szC;omega
 szL:=by have:=h.szL;omega
 szN:=by have:=h.szN;omega
theorem Zpt{H g:LHeap}(h:H.WF)(n:Near H g):g.WF:=by
 intro i o' hi;obtain⟨o,m,p,u,_⟩:=n.scp i o' hi;rw[p];exact h i o m
theorem Inv.near{m:LHeap}(h:Inv s (d+1))(n:Near s.H m):Inv (s.setH m) d∧Ext s (s.setH m):=by
 refine⟨⟨Zpt h.wf n,by rw[show(s.setH m).H=m from rfl,n.ls];exact h.own,λo' ho=>?_,λo' ho=>?_,?_,?_,h.calls,h.steps,?_,?_,?_,?_,?_⟩,⟨?_,λi c hc=>?_,?_,⟨[],(List.append_nil _).symm⟩,⟨[],(List.append_nil _).symm⟩,rfl,rfl,rfl,Int.le_refl _,⟨[],(List.append_nil _).symm⟩,⟨[],(List.append_nil _).symm⟩⟩⟩
 .obtain⟨i,hi⟩:=List.getElem?_of_mem ho;obtain⟨o,u,E,F,O⟩:=n.obj i o' hi;have g:=h.obj o (Yd u);refine⟨by rw[E];exact g.1,by rw[E];exact g.2.1,λp hp=>?_,by show o'.props.length+d<=20000*(s.steps.toNat+1);omega⟩;rw[show(s.setH m).H=m from rfl,n.lo];rcases O p hp with h5|⟨q,h5,y⟩;·exact h5
  .rw[<-y];exact g.2.2.1 q h5
 .obtain⟨i,hi⟩:=List.getElem?_of_mem ho;obtain⟨o,u,E,F,O,h5⟩:=n.scp i o' hi;have g:=h.scp o (Yd u);have e:(s.setH m).H.objects.length=s.H.objects.length:=n.lo;refine⟨by rw[F];exact g.1,by rw[F,e];exact g.2.1,λp hp=>?_,by show o'.names.length+d<=20000*(s.steps.toNat+1);omega⟩;rw[e];obtain⟨y,I⟩:=h5 p hp;refine⟨?_,?_⟩
  .rcases y with y|⟨q,y,J⟩;·exact y
   .rw[<-J];exact(g.2.2.1 q y).1
  .rcases I with I|⟨q,I,J⟩;·exact I
   .rw[<-J];exact(g.2.2.1 q I).2
 .intro c hc;have g:=h.clo c hc;exact⟨g.1,g.2.1,by rw[show(s.setH m).H=m from rfl,n.ls];exact g.2.2⟩
 .rw[show(s.setH m).H=m from rfl,n.lo];exact h.last
 .rw[show(s.setH m).H=m from rfl,n.lo];have:=h.szO;show _<=20000*(s.steps.toNat+1);omega
 .rw[show(s.setH m).H=m from rfl,n.ls];have:=h.szS;show _<=20000*(s.steps.toNat+1);omega
 .exact Zpg
 .exact Zq8
 .exact Zse
 .exact Nat.le_of_eq n.lo.symm
 .have hl:i<m.scopes.length:=by rw[n.ls];exact getElem?_lt hc
  obtain⟨o,u,E,F,_⟩:=n.scp i _ (Y6 hl);rw[hc]at u;simp only[Option.some.injEq]at u;subst u;exact⟨_,Y6 hl,E,F⟩
 .exact Nat.le_of_eq n.ls.symm
theorem Inv.opens{outer object owner:Int}(h:Inv s (d+1))(ho:-1<=outer)(F:outer<s.H.scopes.length)(hb:-1<=object)(y:object<s.H.objects.length):Inv (s.opens outer object owner) d∧Ext s (s.opens outer object owner):=by
 have m:(s.opens outer object owner).steps=s.steps:=rfl;have p:(s.opens outer object owner).H.scopes=s.H.scopes++[⟨outer,object,[]⟩]:=rfl;have hob:(s.opens outer object owner).H.objects=s.H.objects:=rfl;refine⟨⟨λi c hi=>?_,?_,λo ho=>?_,λc hc=>?_,λc hc=>?_,h.last,h.calls,h.steps,?_,?_,?_,?_,?_⟩,⟨Y0 _,λi c hc=>⟨c,?_,rfl,rfl⟩,?_,⟨[owner],rfl⟩,⟨[],(List.append_nil _).symm⟩,rfl,rfl,rfl,Int.le_refl _,⟨[],(List.append_nil _).symm⟩,⟨[],(List.append_nil _).symm⟩⟩⟩
 .rw[p,List.getElem?_append]at hi;split at hi;·exact h.wf i c hi
  .rename_i G;have u:=getElem?_lt hi;simp at u;have E:i-s.H.scopes.length=0:=by omega
   rw[E]at hi;simp only[List.getElem?_cons_zero,Option.some.injEq]at hi;subst hi;exact⟨ho,by show outer<i;omega⟩
 .rw[p];show(s.owners++[owner]).length=_;simp[h.own]
 .have g:=h.obj o ho;exact⟨g.1,g.2.1,g.2.2.1,by rw[m];omega⟩
 .rw[p]at hc;rcases List.mem_append.1 hc with u|u
  .have g:=h.scp c u;exact⟨g.1,g.2.1,g.2.2.1,by rw[m];omega⟩
  .simp only[List.mem_singleton]at u;subst u;exact⟨hb,y,(λx hx=>by cases hx),by rw[m];have:=h.szS;simp;omega⟩
 .have g:=h.clo c hc;exact⟨g.1,g.2.1,by rw[p];simp;have:=g.2.2;omega⟩
 .have:=h.szO;rw[m,hob];omega
 .have:=h.szS;rw[m,p];simp;omega
 .have:=h.szC;rw[m];show s.clos.length+d<=_;omega
 .have:=h.szL;rw[m];show s.log.length+d<=_;omega
 .have:=h.szN;rw[m];show s.seen.length+d<=_;omega
 .rw[p,List.getElem?_append_left (getElem?_lt hc)];exact hc
 .rw[p];simp
theorem Inv.object{code:Int}(h:Inv s (d+1))(hc:0<=code)(y:code<3+s.clos.length):Inv (s.object code) d∧Ext s (s.object code):=by
 have m:(s.object code).steps=s.steps:=rfl;have hob:(s.object code).H.objects=s.H.objects++[⟨[],code⟩]:=rfl;have E:(s.object code).H.scopes=s.H.scopes:=rfl;have hl:(s.object code).H.objects.length=s.H.objects.length+1:=by rw[hob];simp
 refine⟨⟨h.wf,h.own,λo ho=>?_,λc hc=>?_,h.clo,?_,h.calls,h.steps,?_,?_,?_,?_,?_⟩,⟨by omega,λi c hc=>⟨c,hc,rfl,rfl⟩,Y0 _,⟨[],(List.append_nil _).symm⟩,⟨[],(List.append_nil _).symm⟩,rfl,rfl,rfl,Int.le_refl _,⟨[],(List.append_nil _).symm⟩,⟨[],(List.append_nil _).symm⟩⟩⟩
 .rw[hob]at ho;rcases List.mem_append.1 ho with u|u
  .have g:=h.obj o u;exact⟨g.1,g.2.1,λp hp=>by rw[hl];exact(g.2.2.1 p hp).mono O',by rw[m];omega⟩
  .simp only[List.mem_singleton]at u;subst u;exact⟨hc,y,(λp hp=>by cases hp),by rw[m];have:=h.szO;simp;omega⟩
 .have g:=h.scp c hc;exact⟨g.1,by rw[hl];have:=g.2.1;omega,λx hx=>by rw[hl];exact⟨(g.2.2.1 x hx).1.mono O',(g.2.2.1 x hx).2⟩,by rw[m];omega⟩
 .rw[hl];exact h.last.mono O'
 .have:=h.szO;rw[m,hl];omega
 .have:=h.szS;rw[m,E];omega
 .have:=h.szC;rw[m];show s.clos.length+d<=_;omega
 .have:=h.szL;rw[m];show s.log.length+d<=_;omega
 .have:=h.szN;rw[m];show s.seen.length+d<=_;omega
theorem Inv.clos{c:Clo}(h:Inv s (d+1))(hc:zU c.node∧0<=c.scope∧c.scope<s.H.scopes.length):Inv {s with clos:=s.clos++[c]} d∧Ext s {s with clos:=s.clos++[c]}:=by
 refine⟨⟨h.wf,h.own,λo ho=>?_,λc hc=>?_,λx hx=>?_,h.last,h.calls,h.steps,?_,?_,?_,?_,?_⟩,⟨Y0 _,λi c hc=>⟨c,hc,rfl,rfl⟩,Y0 _,⟨[],(List.append_nil _).symm⟩,⟨[c],rfl⟩,rfl,rfl,rfl,Int.le_refl _,⟨[],(List.append_nil _).symm⟩,⟨[],(List.append_nil _).symm⟩⟩⟩
 .have g:=h.obj o ho;exact⟨g.1,by have:=g.2.1;simp;omega,g.2.2.1,by show _<=20000*(s.steps.toNat+1);omega⟩
 .have g:=h.scp c hc;exact Td
 .rcases List.mem_append.1 hx with m|m;·exact h.clo x m
  .simp only[List.mem_singleton]at m;subst m;exact hc
 .exact Zr3
 .exact Zq3
 .have:=h.szC;show(s.clos++[c]).length+d<=20000*(s.steps.toNat+1);simp;omega
 .exact Zq8
 .exact Zse
theorem Inv.log{t:ByteArray}(h:Inv s (d+1)):Inv {s with log:=s.log++[t]} d∧Ext s {s with log:=s.log++[t]}:=by
 refine⟨⟨h.wf,h.own,λo ho=>?_,λc hc=>?_,h.clo,h.last,h.calls,h.steps,?_,?_,?_,?_,?_⟩,⟨Y0 _,λi c hc=>⟨c,hc,rfl,rfl⟩,Y0 _,⟨[],(List.append_nil _).symm⟩,⟨[],(List.append_nil _).symm⟩,rfl,rfl,rfl,Int.le_refl _,⟨[t],rfl⟩,⟨[],(List.append_nil _).symm⟩⟩⟩
 .have g:=h.obj o ho;exact Td
 .have g:=h.scp c hc;exact Td
 .exact Zr3
 .exact Zq3
 .exact Zpg
 .have:=h.szL;show(s.log++[t]).length+d<=20000*(s.steps.toNat+1);simp;omega
 .exact Zse
theorem Inv.seen{t:Int×Int}(h:Inv s (d+1)):Inv {s with seen:=s.seen++[t]} d∧Ext s {s with seen:=s.seen++[t]}:=by
 refine⟨⟨h.wf,h.own,λo ho=>?_,λc hc=>?_,h.clo,h.last,h.calls,h.steps,?_,?_,?_,?_,?_⟩,⟨Y0 _,λi c hc=>⟨c,hc,rfl,rfl⟩,Y0 _,⟨[],(List.append_nil _).symm⟩,⟨[],(List.append_nil _).symm⟩,rfl,rfl,rfl,Int.le_refl _,⟨[],(List.append_nil _).symm⟩,⟨[t],rfl⟩⟩⟩
 .have g:=h.obj o ho;exact Td
 .have g:=h.scp c hc;exact Td
 .exact Zr3
 .exact Zq3
 .exact Zpg
 .exact Zq8
 .have:=h.szN;show(s.seen++[t]).length+d<=20000*(s.steps.toNat+1);simp;omega
theorem Inv.turn{k c:Int}{v:LVal}{d':Nat}(h:Inv s d)(hk:s.steps<=k)(m:k<=20001)(hc:0<=c∧c<=40)(p:v.ok s.H.objects.length)(hd:d'+20000*s.steps.toNat<=d+20000*k.toNat) :
 Inv {s with steps:=k,calls:=c,last:=v} d'∧Ext s {s with steps:=k,calls:=c,last:=v}:=by
 have u:=h.steps;refine⟨⟨h.wf,h.own,λo ho=>?_,λc hc=>?_,h.clo,p,hc,⟨Int.le_trans h.steps.1 hk,m⟩,?_,?_,?_,?_,?_⟩,⟨Y0 _,λi c hc=>⟨c,hc,rfl,rfl⟩,Y0 _,⟨[],(List.append_nil _).symm⟩,⟨[],(List.append_nil _).symm⟩,rfl,rfl,rfl,hk,⟨[],(List.append_nil _).symm⟩,⟨[],(List.append_nil _).symm⟩⟩⟩
 .have g:=h.obj o ho;exact⟨g.1,g.2.1,g.2.2.1,by show _<=20000*(k.toNat+1);omega⟩
 .have g:=h.scp c hc;exact⟨g.1,g.2.1,g.2.2.1,by show _<=20000*(k.toNat+1);omega⟩
 .have:=h.szO;show s.H.objects.length+d'<=20000*(k.toNat+1);omega
 .have:=h.szS;show s.H.scopes.length+d'<=20000*(k.toNat+1);omega
 .have:=h.szC;show s.clos.length+d'<=20000*(k.toNat+1);omega
 .have:=h.szL;show s.log.length+d'<=20000*(k.toNat+1);omega
 .have:=h.szN;show s.seen.length+d'<=20000*(k.toNat+1);omega
end
section
variable {t:Tree}
theorem Aaz(h:Wf .v [t])(hk:t.kind=17):0<=t.n∧t.n<=1000000000∧t.kids=[]:=by
 cases h
 all_goals first
  |(exfalso;simp only[Tree.kind]at hk;omega)
  |exact⟨‹_›,‹_›,rfl⟩
theorem AaA(h:Wf .v [t])(hk:t.kind=18):t.text.size<=500∧t.kids=[]:=by
 cases h
 all_goals first
  |(exfalso;simp only[Tree.kind]at hk;omega)
  |exact⟨‹_›,rfl⟩
theorem YW(h:Wf .v [t])(hk:t.kind=24):∃x y,t.kids=[x,y]∧(x.kind=23∨x.kind=36)∧Wf .v [x]∧Wf .v [y]:=by
 cases h
 all_goals first
  |(exfalso;simp only[Tree.kind]at hk;omega)
  |exact⟨_,_,rfl,‹_›,‹_›,‹_›⟩
theorem wv2(h:Wf .v [t])(g:25<=t.kind)(m:t.kind<=31):∃x y,t.kids=[x,y]∧Wf .v [x]∧Wf .v [y]:=by
 cases h
 all_goals first
  |(exfalso;simp only[Tree.kind]at g m;omega)
  |exact⟨_,_,rfl,‹_›,‹_›⟩
theorem wv1(h:Wf .v [t])(g:32<=t.kind)(m:t.kind<=34):∃x,t.kids=[x]∧Wf .v [x]:=by
 cases h
 all_goals first
  |(exfalso;simp only[Tree.kind]at g m;omega)
  |exact⟨_,rfl,‹_›⟩
theorem Xp(h:Wf .v [t])(hk:t.kind=35):∃x l,t.kids=x::l∧Wf .v [x]∧Wf .vl l:=by
 cases h
 all_goals first
  |(exfalso;simp only[Tree.kind]at hk;omega)
  |exact⟨_,_,rfl,‹_›,‹_›⟩
theorem RU(h:Wf .v [t])(hk:t.kind=36):r' t.text∧∃x,t.kids=[x]∧Wf .v [x]:=by
 cases h
 all_goals first
  |(exfalso;simp only[Tree.kind]at hk;omega)
  |exact⟨‹_›,_,rfl,‹_›⟩
theorem Aaq(h:Wf .v [t])(hk:t.kind=37):(t.text=ByteArray.empty∨r' t.text)∧∃l b,t.kids=[.mk 40 ByteArray.empty 0 l,b]∧Wf .pl l∧Wf .b [b]:=by
 cases h
 all_goals first
  |(exfalso;simp only[Tree.kind]at hk;omega)
  |exact⟨‹_›,_,_,rfl,‹_›,‹_›⟩
theorem WZ(h:Wf .v [t])(hk:t.kind=38):Wf .ol t.kids:=by
 cases h
 all_goals first
  |(exfalso;simp only[Tree.kind]at hk;omega)
  |assumption
theorem Zjy(h:Wf .v [t]):17<=t.kind∧t.kind<=38:=by
 cases h;all_goals simp only[Tree.kind]at *
 all_goals omega
theorem wb(h:Wf .b [t]):t.kind=6∧Wf .sl t.kids∧t.text=Ui t.kids:=by
 cases h;exact⟨rfl,‹_›,rfl⟩
theorem wk(h:Wf .k [t]):t.kind=6∧Wf .sl t.kids∧t.text=ByteArray.empty:=by
 cases h;exact⟨rfl,‹_›,rfl⟩
theorem Zk2(h:Wf .s [t]):2<=t.kind∧t.kind<=16∧t.kind≠13∧t.kind≠14:=by
 cases h;case blk h=>have:=(wk h).1;omega
 all_goals simp only[Tree.kind]at *
 all_goals omega
theorem Zgy(h:Wf .s [t])(hk:t.kind=6):Wf .k [t]:=by
 cases h;case blk h=>exact h
 all_goals simp only[Tree.kind]at hk
 all_goals omega
theorem ws2(h:Wf .s [t])(hk:t.kind=2∨t.kind=3∨t.kind=4):r' t.text∧(t.kids=[]∨∃x,t.kids=[x]∧Wf .v [x]):=by
 cases h;case blk h=>exfalso;have:=(wk h).1;omega
 all_goals first
  |(exfalso;simp only[Tree.kind]at hk;omega)
  |exact⟨‹_›,.inl rfl⟩
  |exact⟨‹_›,.inr ⟨_,rfl,‹_›⟩⟩
theorem ws5(h:Wf .s [t])(hk:t.kind=5):r' t.text∧∃l b,t.kids=[.mk 40 ByteArray.empty 0 l,b]∧Wf .pl l∧Wf .b [b]:=by
 cases h;case blk h=>exfalso;have:=(wk h).1;omega
 all_goals first
  |(exfalso;simp only[Tree.kind]at hk;omega)
  |exact⟨‹_›,_,_,rfl,‹_›,‹_›⟩
theorem ws7(h:Wf .s [t])(hk:t.kind=7):∃x y,Wf .v [x]∧Wf .s [y]∧(t.kids=[x,y]∨∃z,t.kids=[x,y,z]∧Wf .s [z]):=by
 cases h;case blk h=>exfalso;have:=(wk h).1;omega
 all_goals first
  |(exfalso;simp only[Tree.kind]at hk;omega)
  |exact⟨_,_,‹_›,‹_›,.inl rfl⟩
  |exact⟨_,_,‹Wf .v _›,‹_›,.inr ⟨_,rfl,‹_›⟩⟩
theorem ws8(h:Wf .s [t])(hk:t.kind=8∨t.kind=9):∃x y,t.kids=[x,y]∧Wf .v [x]∧Wf .s [y]:=by
 cases h;case blk h=>exfalso;have:=(wk h).1;omega
 all_goals first
  |(exfalso;simp only[Tree.kind]at hk;omega)
  |exact⟨_,_,rfl,‹_›,‹_›⟩
theorem XV(h:Wf .s [t])(hk:t.kind=10∨t.kind=11):t.kids=[]∧t.kind=10∨∃x,t.kids=[x]∧Wf .v [x]:=by
 cases h;case blk h=>exfalso;have:=(wk h).1;omega
 all_goals first
  |(exfalso;simp only[Tree.kind]at hk;omega)
  |exact .inl ⟨rfl,rfl⟩
  |exact .inr ⟨_,rfl,‹_›⟩
def Han(k:Tree):Prop:=(k.kind=13∧r' k.text∨k.kind=14)∧∃c,k.kids=[c]∧Wf .k [c]
theorem YZ(h:Wf .s [t])(hk:t.kind=12):∃b l,t.kids=b::l∧Wf .k [b]∧l.length<=2∧∀k∈l,Han k:=by
 cases h;case blk h=>exfalso;have:=(wk h).1;omega
 all_goals first
  |(exfalso;simp only[Tree.kind]at hk;omega)
  |exact⟨_,_,rfl,‹_›,by simp,λk g=>by(simp at g;subst g;exact⟨.inl ⟨rfl,‹_›⟩,_,rfl,‹_›⟩)⟩
  |exact⟨_,_,rfl,‹_›,by simp,λk g=>by(simp at g;subst g;exact⟨.inr rfl,_,rfl,‹_›⟩)⟩
  |exact⟨_,_,rfl,‹_›,by simp,λk g=>by(simp at g;rcases g with rfl|rfl<;>first|exact⟨.inl ⟨rfl,‹_›⟩,_,rfl,‹_›⟩|exact⟨.inr rfl,_,rfl,‹_›⟩)⟩
theorem X7(h:Wf .s [t])(hk:t.kind=15):∃x,t.kids=[x]∧Wf .v [x]:=by
 cases h;case blk h=>exfalso;have:=(wk h).1;omega
 all_goals first
  |(exfalso;simp only[Tree.kind]at hk;omega)
  |exact⟨_,rfl,‹_›⟩
theorem Aag(h:Wf .s [t])(hk:t.kind=16):t.kids=[]:=by
 cases h;case blk h=>exfalso;have:=(wk h).1;omega
 all_goals first
  |(exfalso;simp only[Tree.kind]at hk;omega)
  |rfl
end
theorem Zg9{t:Tree}{l:List Tree}(h:Wf .sl (t::l)):Wf .s [t]∧Wf .sl l:=by
 cases h;exact⟨‹_›,‹_›⟩
theorem Zgf{t:Tree}{l:List Tree}(h:Wf .vl (t::l)):Wf .v [t]∧Wf .vl l:=by
 cases h;exact⟨‹_›,‹_›⟩
theorem Zh0{t:Tree}{l:List Tree}(h:Wf .ol (t::l)):(t.kind=39∧r' t.text∧∃x,t.kids=[x]∧Wf .v [x])∧Wf .ol l:=by
 cases h;exact⟨⟨rfl,‹_›,_,rfl,‹_›⟩,‹_›⟩
theorem Zqn{l:List Tree}(h:Wf .sl l){t:Tree}(ht:t∈l):Wf .s [t]:=by
 induction l with
 |nil=>cases ht
 | cons x l g =>
   rcases List.mem_cons.1 ht with rfl|m;·exact(Zg9 h).1
   .exact g (Zg9 h).2 m
section
variable {s t:MSt}{d:Nat}
theorem zq{o:Int}{name:ByteArray}{v:LVal}{fx:Bool}(h:Inv s (d+1))(g:v.ok s.H.objects.length):Inv (s.put o name v fx) d∧Ext s (s.put o name v fx):=h.near (Vh g)
theorem Ta{sc kind:Int}{name:ByteArray}{v:LVal}(h:Inv s (d+1))(g:v.ok s.H.objects.length)(m:0<=kind)(o:kind<=4):Inv (s.declare sc name kind v) d∧Ext s (s.declare sc name kind v):=h.near (Z5w g m o)
theorem Z7r{sc:Int}{name:ByteArray}{v:LVal}(h:Inv s (d+1))(g:v.ok s.H.objects.length):Inv (s.write sc name v) d∧Ext s (s.write sc name v):=h.near (Zh8 g)
theorem YS{sc:Int}{name:ByteArray}{v:LVal}(h:Inv s (d+1))(g:v.ok s.H.objects.length):Inv (s.bindTo sc name v) d∧Ext s (s.bindTo sc name v):=by
 unfold MSt.bindTo;split;·exact Ta h g Pa Pa
 .exact Z7r h g
theorem Z7v{sc:Int}{name:ByteArray}(h:Inv s (d+1)):Inv (s.loose sc name) d∧Ext s (s.loose sc name):=by
 unfold MSt.loose;split;·exact⟨h.less O',Ext.refl _⟩
 .split;·exact zq h (qC _)
  .exact Ta h (qC _) Pa Pa
theorem V0{β:Type}(f:MSt->β->MSt)(c:Nat)(g:MSt)(P:β->Prop)(hf:∀s d b,P b->Ext g s->Inv s (d+c)->Inv (f s b) d∧Ext s (f s b)) :
 ∀(l:List β) (s:MSt) (d:Nat),(∀b∈l,P b)->Ext g s->Inv s (d+c*l.length)->Inv (l.foldl f s) d∧Ext s (l.foldl f s)
 | [],s,d,_,_,h=>⟨h.less Pg,Ext.refl _⟩
 | b :: l, s, d, m, o, h => by
   obtain⟨u,p⟩:=hf s (d+c*l.length) b (m b Pg) o (h.less (by rw[List.length_cons,Nat.mul_succ];omega));obtain⟨y,E⟩:=V0 f c g P hf l (f s b) d (λx hx=>m x (by simp[hx])) (o.trans p) u;exact⟨y,p.trans E⟩
theorem TC{l:List NT}{sc:Int}(h:Inv s (d+l.length)):Inv (s.lets l sc) d∧Ext s (s.lets l sc):=
 V0 _ 1 s (λ_=>True) (λs d b _ _ h=>Ta h (qC _) (by split<;>decide) (by split<;>decide)) l s d (λ_ _=>trivial) (Ext.refl _) Rs
theorem Zgl{l:List ByteArray}{sc:Int}(h:Inv s (d+l.length)):Inv (s.vars l sc) d∧Ext s (s.vars l sc):=
 V0 _ 1 s (λ_=>True) (λs d b _ _ h=>Ta h (qC _) Pa Pa) l s d (λ_ _=>trivial) (Ext.refl _) Rs
theorem Zbj{l:List ByteArray}{sc:Int}(h:Inv s (d+l.length)):Inv (s.looses l sc) d∧Ext s (s.looses l sc):=
 V0 _ 1 s (λ_=>True) (λs d b _ _ h=>Z7v h) l s d (λ_ _=>trivial) (Ext.refl _) Rs
theorem WU{n:NT}{sc:Int}{fr:Frm}(h:Inv s (d+4))(hn:zU n)(o:0<=sc)(m:sc<s.H.scopes.length) :
 Inv (s.funS n sc fr) d∧Ext s (s.funS n sc fr)∧(s.funS n sc fr).H.objects.length=s.H.objects.length+1:=by
 unfold MSt.funS;cases hnm:n.named with
 | true =>
   simp only[if_true];obtain⟨p,a2⟩:=h.opens (d:=d+3) (outer:=sc) (object:=-1) (owner:=n.num) O' m Pa O';have hl:(s.opens sc (-1) n.num).H.scopes.length=s.H.scopes.length+1:=by simp[MSt.opens]
   obtain⟨b1,b2⟩:=p.clos (d:=d+2) (c:=⟨n,s.next,fr.strict||(n.kid 1).strict⟩) ⟨hn,by show(0:Int)<=s.H.scopes.length;omega,by show(s.H.scopes.length:Int)<_;rw[hl];omega⟩;obtain⟨c1,c2⟩:=b1.object (d:=d+1) (code:=3+s.clos.length) O' (by simp[MSt.opens];omega);have g:((({s.opens sc (-1) n.num with clos:=(s.opens sc (-1) n.num).clos++[⟨n,s.next,fr.strict||(n.kid 1).strict⟩]}:MSt).object (3+s.clos.length))).H.objects.length=s.H.objects.length+1:=by simp[MSt.object,MSt.setH,MSt.opens]
   obtain⟨u,y⟩:=Ta (sc:=s.next) (kind:=3) (name:=n.text) (v:=.ref s.nextO) c1 (N' (by show(0:Int)<=s.H.objects.length;omega) (by rw[g];show(s.H.objects.length:Int)<_;omega)) Pa Pa;refine⟨u,((a2.trans b2).trans c2).trans y,?_⟩
   have:=(Z5w (H:=((({s.opens sc (-1) n.num with clos:=(s.opens sc (-1) n.num).clos++[⟨n,s.next,fr.strict||(n.kid 1).strict⟩]}:MSt).object (3+s.clos.length))).H) (n:=s.next) (name:=n.text) (kind:=3) (v:=.ref s.nextO) (N' (by show(0:Int)<=s.H.objects.length;omega) (by rw[g];show(s.H.objects.length:Int)<_;omega)) Pa Pa).lo;show(LHeap.declare _ _ _ _ _).1.objects.length=_;rw[this,g]
 | false =>
   simp only[Bool.false_eq_true,if_false];obtain⟨b1,b2⟩:=h.clos (d:=d+3) (c:=⟨n,sc,fr.strict||(n.kid 1).strict⟩) ⟨hn,o,m⟩;obtain⟨c1,c2⟩:=b1.object (d:=d+2) (code:=3+s.clos.length) O' Pe;exact⟨c1.less O',b2.trans c2,by simp[MSt.object,MSt.setH]⟩
theorem X1{p:MSt->ByteArray->MSt}{g:MSt->ByteArray->LVal->MSt}{l:List NT}{sc:Int}{fr:Frm}(h:Inv s (d+6*l.length))(hl:∀n∈l,zU n)(y:0<=sc)(G:sc<s.H.scopes.length)
 (hp:∀u e x,Ext s u->Inv u (e+1)->Inv (p u x) e∧Ext u (p u x))(E:∀u e x v,Ext s u->Inv u (e+1)->v.ok u.H.objects.length->Inv (g u x v) e∧Ext u (g u x v)) :
 Inv (s.funcs p g l sc fr) d∧Ext s (s.funcs p g l sc fr):=by
 unfold MSt.funcs;refine V0 _ 6 s zU (λu e n hn m hi=>?_) l s d hl (Ext.refl _) h;obtain⟨F,a2⟩:=hp u (e+5) n.text m hi;have o:=m.trans a2;obtain⟨b1,b2,b3⟩:=WU (d:=e+1) (sc:=sc) (fr:=fr) F hn y (by have:=o.ls;omega);obtain⟨c1,c2⟩:=E _ e n.text (.ref (p u n.text).nextO) (o.trans b2) b1 (N' (by show(0:Int)<=(p u n.text).H.objects.length;omega) (by rw[b3];show((p u n.text).H.objects.length:Int)<_;omega));exact⟨c1,(a2.trans b2).trans c2⟩
theorem Zce{n:NT}{sc:Int}{name:ByteArray}(h:Inv s (d+1)):Inv (s.look n sc name) d∧Ext s (s.look n sc name):=by
 unfold MSt.look;split;·exact h.seen
 .exact⟨h.less O',Ext.refl _⟩
theorem Zh5{n:NT}{sc:Int}{name:ByteArray}:(s.look n sc name).H=s.H∧(s.look n sc name).steps=s.steps∧(s.look n sc name).calls=s.calls:=by
 unfold MSt.look;split<;>exact⟨rfl,rfl,rfl⟩
theorem Z8g{sc:Int}:∀(l:List NT) (vs:List LVal) (s:MSt) (d:Nat),Inv s (d+l.length)->(∀v∈vs,v.ok s.H.objects.length)->Inv (MSt.params sc l vs s) d∧Ext s (MSt.params sc l vs s)
 | [],vs,s,d,h,_=>⟨h.less Pg,Ext.refl _⟩
 | p :: l, vs, s, d, h, g => by
   have m:(vs.headD LVal.zero).ok s.H.objects.length:=by
    cases vs with
    |nil=>exact qC _
    |cons v vs=>exact g v Pg
   obtain⟨o,a2⟩:=YS (d:=d+l.length) (sc:=sc) (name:=p.text) (h.less QK) m;obtain⟨b1,b2⟩:=Z8g l vs.tail _ d o (λv u=>(g v (List.mem_of_mem_tail u)).mono a2.lo);exact⟨b1,a2.trans b2⟩
theorem Za2{o:Int}:∀(vs:List LVal) (i:Nat) (s:MSt) (d:Nat),Inv s (d+vs.length)->(∀v∈vs,v.ok s.H.objects.length)->Inv (MSt.argsPut o i vs s) d∧Ext s (MSt.argsPut o i vs s)
 | [],i,s,d,h,_=>⟨h.less Pg,Ext.refl _⟩
 | v :: l, i, s, d, h, g => by
   obtain⟨m,a2⟩:=zq (d:=d+l.length) (o:=o) (name:=MSt.argN i) (fx:=false) (h.less QK) (g v Pg);obtain⟨b1,b2⟩:=Za2 l (i+1) _ d m (λx p=>(g x (by simp[p])).mono a2.lo);exact⟨b1,a2.trans b2⟩
theorem Zad{sc:Int}{vs:List LVal}(h:Inv s (d+vs.length+3))(g:∀v∈vs,v.ok s.H.objects.length)(hl:vs.length<=1000000000):Inv (s.argsObj sc vs) d∧Ext s (s.argsObj sc vs):=by
 unfold MSt.argsObj;obtain⟨m,a2⟩:=h.object (d:=d+vs.length+2) (code:=0) Pa O';have F:(s.object 0).H.objects.length=s.H.objects.length+1:=QU
 obtain⟨b1,b2⟩:=zq (d:=d+vs.length+1) (o:=s.nextO) (name:=VZ) (v:=.num vs.length) (fx:=false) m (Zgd O' O');obtain⟨c1,c2⟩:=Za2 (o:=s.nextO) vs 0 _ (d+1) (b1.less O') (λv p=>(g v p).mono (Y4 a2.lo b2.lo));have u:=((a2.trans b2).trans c2)
 obtain⟨y,E⟩:=Ta (sc:=sc) (kind:=0) (name:=Zd) (v:=.ref s.nextO) c1 (N' (by show(0:Int)<=s.H.objects.length;omega) (by
  have I:=b2.lo;have J:=c2.lo;show(s.H.objects.length:Int)<_;omega)) Pa Pa
 exact⟨y,u.trans E⟩
end
inductive Anc(H:LHeap)(v:Int):Int->Prop
 |refl:Anc H v v
 |up {sc:Int} {c:LScope}:H.scope? sc=some c->Anc H v c.outer->Anc H v sc
structure Root(s:MSt):Prop where
 glob:s.glob=0
 outer:s.outer=0
 top:s.top=1
 objs:0<s.H.objects.length
 many:2<=s.H.scopes.length
 one:∃c,s.H.scopes[1]?=some c∧c.outer=0
structure FAt(s:MSt)(sc:Int)(fr:Frm):Prop where
 root:Root s
 lo:0<=sc
 hi:sc<s.H.scopes.length
 anc:Anc s.H fr.vars sc
 vlo:0<=fr.vars
theorem scope?_ext{s t:MSt}(h:Ext s t){i:Int}{c:LScope}(hc:s.H.scope? i=some c):∃c',t.H.scope? i=some c'∧c'.outer=c.outer∧c'.object=c.object:=by
 obtain⟨m,rfl,g⟩:=LHeap.scope?_some hc;obtain⟨c',o,p,u⟩:=h.scp m c g;exact⟨c',by unfold LHeap.scope?;rw[Y3 O'];exact o,p,u⟩
theorem Anc.ext{s t:MSt}(h:Ext s t){v sc:Int}(a:Anc s.H v sc):Anc t.H v sc:=by
 induction a with
 |refl=>exact .refl
 | up hc _ g =>
   obtain⟨c',m,o,_⟩:=scope?_ext h hc;exact .up m (by rw[o];exact g)
theorem Root.ext{s t:MSt}(r:Root s)(h:Ext s t):Root t:=by
 obtain⟨c,g,m⟩:=r.one;obtain⟨c',o,p,_⟩:=h.scp 1 c g;exact⟨h.glob.trans r.glob,h.outer.trans r.outer,h.top.trans r.top,Y7 r.objs h.lo,Y4 r.many h.ls,c',o,p.trans m⟩
theorem FAt.ext{s t:MSt}{sc:Int}{fr:Frm}(a:FAt s sc fr)(h:Ext s t):FAt t sc fr:=⟨a.root.ext h,a.lo,by have:=h.ls;have:=a.hi;omega,a.anc.ext h,a.vlo⟩
theorem FAt.opens{s:MSt}{sc:Int}{fr:Frm}{object owner:Int}(a:FAt s sc fr)(h:Ext s (s.opens sc object owner)):FAt (s.opens sc object owner) s.next fr:=by
 have hl:(s.opens sc object owner).H.scopes.length=s.H.scopes.length+1:=by simp[MSt.opens]
 refine⟨a.root.ext h,by show(0:Int)<=s.H.scopes.length;omega,by rw[hl];show(s.H.scopes.length:Int)<_;omega,?_,a.vlo⟩;refine .up (c:=⟨sc,object,[]⟩) ?_ (a.anc.ext h);unfold LHeap.scope? MSt.next;rw[Y3 O'];simp[MSt.opens]
def Fin{α:Type}(s:MSt)(d:Nat)(Q:MSt->α->Prop)(r:MSt×Except Er α):Prop:=
 Inv r.1 d∧Ext s r.1∧r.1.calls=s.calls∧match r.2 with
  | .ok v=>Q r.1 v∧r.1.steps<=20000
  | .error .stop=>r.1.steps=20001
  | .error (.thr v)=>v.ok r.1.H.objects.length∧r.1.steps<=20000
section
variable {α β:Type}{s s1:MSt}{d e:Nat}{Q:MSt->α->Prop}{R:MSt->β->Prop}
theorem Fin.ok{v:α}(h:Inv s1 d)(x:Ext s s1)(hc:s1.calls=s.calls)(hs:s1.steps<=20000)(hq:Q s1 v):Fin s d Q (f7 v s1):=⟨h,x,hc,hq,hs⟩
theorem Fin.thr{v:LVal}(h:Inv s1 d)(x:Ext s s1)(hc:s1.calls=s.calls)(hs:s1.steps<=20000)(hq:v.ok s1.H.objects.length):Fin s d Q (tO (.thr v) s1):=⟨h,x,hc,hq,hs⟩
theorem Fin.raise{t:ByteArray}(h:Inv s1 d)(x:Ext s s1)(hc:s1.calls=s.calls)(hs:s1.steps<=20000)(ht:t.size<=500):Fin s d Q (tG t s1):=Fin.thr h x hc hs (Xk ht)
theorem Fin.bind{m:RM α}{k:α->RM β}(h:Fin s d Q (m s))(hk:∀t v,Inv t d->Ext s t->t.calls=s.calls->t.steps<=20000->Q t v->Fin t e R (k v t))(he:e<=d):Fin s e R (gE m k s):=by
 obtain⟨u,g,o,p⟩:=h;unfold gE;split
 .rename_i t v hr;rw[hr]at u g o p;obtain⟨y,E,F,G⟩:=hk t v u g o p.2 p.1;exact⟨y,g.trans E,F.trans o,G⟩
 .rename_i t x hr;rw[hr]at u g o p;refine⟨u.less he,g,o,?_⟩;cases x<;>exact p
theorem Fin.pre{r:MSt×Except Er α}(x:Ext s s1)(hc:s1.calls=s.calls)(h:Fin s1 d Q r):Fin s d Q r:=⟨h.1,x.trans h.2.1,h.2.2.1.trans hc,h.2.2.2⟩
theorem Fin.less{r:MSt×Except Er α}(h:Fin s d Q r)(he:e<=d):Fin s e Q r:=⟨h.1.less he,h.2⟩
theorem Fin.weak{m:MSt->α->Prop}{r:MSt×Except Er α}(h:Fin s d Q r)(hq:∀t v,Q t v->m t v):Fin s d m r:=by
 obtain⟨o,p,u,g⟩:=h;refine⟨o,p,u,?_⟩;cases hr:r.2 with
 |ok v=>rw[hr]at g;exact⟨hq _ _ g.1,g.2⟩
 |error x=>rw[hr]at g;cases x<;>exact g
end
def VQ(t:MSt)(v:LVal):Prop:=v.ok t.H.objects.length
def DQ(t:MSt)(r:Bool×LVal):Prop:=r.2.ok t.H.objects.length
theorem VQ.ext{s t:MSt}{v:LVal}(h:VQ s v)(x:Ext s t):VQ t v:=LVal.ok.mono h x.lo
def VH(V:VF)(b:Int):Prop:=∀n sc fr s d,n.wf .v->n.tree.many<=1500->Inv s d->FAt s sc fr->b<=s.steps->s.steps<=20000->Fin s d VQ (V n sc fr s)∧s.steps<(V n sc fr s).1.steps
def DH(D:DF)(b:Int):Prop:=∀n sc fr s d,n.wf .s->n.tree.many<=1500->Inv s d->FAt s sc fr->b<=s.steps->s.steps<=20000->Fin s d DQ (D n sc fr s)∧s.steps<(D n sc fr s).1.steps
