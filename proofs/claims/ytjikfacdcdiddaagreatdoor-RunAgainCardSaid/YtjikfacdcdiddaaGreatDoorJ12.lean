/- Package run, plain: what holds at all times, function by function. -/
import Derived.Test.YtjikfacdcdiddaaGreatDoorJ11
import Derived.WalkMore
import Derived.ScopeJumps
set_option maxRecDepth 100000
set_option maxHeartbeats 20000000
set_option linter.unusedVariables false
namespace Go.Proofs.YtjikfacdcdiddaaGreatDoor
open Go Go.RowKit
section
variable {n:NT}
theorem Z7:n.tree.kind=n.kind:=by cases n;rfl
theorem Ziy:n.tree.text=n.text:=by cases n;rfl
theorem Zpy:n.tree.n=n.n:=by cases n;rfl
theorem Zw:n.tree.kids=pL n.kids:=by cases n;rfl
theorem V2:∀l:List NT,pL l=l.map NT.tree
 | []=>rfl
 |x::l=>by rw[pL,V2 l];rfl
theorem Z6y{l:List NT}(h:pL l=[]):l=[]:=by cases l with|nil=>rfl|cons x l=>simp[pL]at h
theorem SF{l:List NT}{t:Tree}{r:List Tree}(h:pL l=t::r):∃x g,l=x::g∧x.tree=t∧pL g=r:=by
 cases l with
 |nil=>simp[pL]at h
 |cons x l=>simp only[pL,List.cons.injEq]at h;exact⟨x,l,rfl,h.1,h.2⟩
theorem YF(h:n.tree.kids=[]):n.kids=[]:=by rw[Zw]at h;exact Z6y h
theorem Lt{x:Tree}(h:n.tree.kids=[x]):∃a,n.kids=[a]∧a.tree=x:=by
 rw[Zw]at h;obtain⟨a,l,g,m,o⟩:=SF h;rw[Z6y o]at g;exact⟨a,g,m⟩
theorem SZ{x y:Tree}(h:n.tree.kids=[x,y]):∃a b,n.kids=[a,b]∧a.tree=x∧b.tree=y:=by
 rw[Zw]at h;obtain⟨a,l,g,o,p⟩:=SF h;obtain⟨b,F,m,u,E⟩:=SF p;rw[Z6y E]at m;rw[m]at g;exact⟨a,b,g,o,u⟩
theorem Zp6{x y z:Tree}(h:n.tree.kids=[x,y,z]):∃a b c,n.kids=[a,b,c]∧a.tree=x∧b.tree=y∧c.tree=z:=by
 rw[Zw]at h;obtain⟨a,l,g,p,u⟩:=SF h;obtain⟨b,J,m,E,F⟩:=SF u;obtain⟨c,O,o,G,I⟩:=SF F;rw[Z6y I]at o;rw[o]at m;rw[m]at g;exact⟨a,b,c,g,p,E,G⟩
theorem Z8i:pS (pL n.kids)+1=n.tree.many:=by cases n;simp only[NT.kids,NT.tree,Tree.many]
theorem Znp(t:Tree):1<=t.many:=by cases t;simp only[Tree.many];omega
theorem Zjr{l:List NT}{x:NT}(h:x∈l):x.tree.many<=pS (pL l):=by
 induction l with
 |nil=>cases h
 | cons y l g =>
   simp only[pL,pS];rcases List.mem_cons.1 h with rfl|h;·omega
   .have:=g h;omega
theorem Ac{x:NT}(h:x∈n.kids):x.tree.many<n.tree.many:=by have:=Zjr h;have:=Z8i (n:=n);omega
theorem Hv:n.kids.length<n.tree.many:=by
 have h:∀l:List Tree,l.length<=pS l:=by
  intro l;induction l with
  |nil=>simp[pS]
  |cons x l g=>have:=Znp x;simp only[pS,List.length_cons];omega
 have h:=h (pL n.kids);have m:=Z8i (n:=n);have o:(pL n.kids).length=n.kids.length:=by rw[V2,Ym]
 omega
mutual
theorem Zky:∀(x:NT) (g:List ByteArray),(Wq x g).length<=g.length+x.tree.many
 | .mk i k t m l, g => by
   unfold Wq;split;·omega
   .have h:=Z8h l (if k=2 then jn g t else g);have o:(if k=2 then jn g t else g).length<=g.length+1:=by
     split;·exact Zh2 g t
     .omega
    simp only[NT.tree,Tree.many];omega
theorem Z8h:∀(l:List NT) (g:List ByteArray),(Ur l g).length<=g.length+pS (pL l)
 | [],g=>by simp[Ur,pL,pS]
 | x :: l, g => by
   have m:=Zky x g;have o:=Z8h l (Wq x g);simp only[Ur,pL,pS];omega
end
theorem VI:n.vars.length<=n.tree.many:=by
 have h:=Z8h n.kids [];have g:=Z8i (n:=n);unfold NT.vars;simp only[List.length_nil]at h;omega
theorem UW:n.lets.length<=n.kids.length:=List.length_filter_le _ _
theorem VP:n.funcs.length<=n.kids.length:=List.length_filter_le _ _
def NT.stm(x:NT):Prop:=Wf .sl (pL x.kids)
theorem Zlm(h:n.stm){x:NT}(hx:x∈n.kids):x.wf .s:=Zqn h (by rw[V2];exact List.mem_map.2 ⟨x,hx,rfl⟩)
theorem TK(h:n.stm)(o:n.tree.many<=1500):∀x∈n.funcs,zU x:=by
 intro x hx;obtain⟨g,m⟩:=List.mem_filter.1 hx;have hk:=Ac g;exact⟨.inl ⟨by simpa using m,Zlm h g⟩,by omega⟩
theorem Z7x(h:zU n):∃p b,n.kids=[p,b]∧p.kids.length<=1500∧b.stm∧b.kind=6∧b.tree.many<=1500∧Wf .pl (pL p.kids):=by
 have g:∃l b,n.tree.kids=[.mk 40 ByteArray.empty 0 l,b]∧Wf .pl l∧Wf .b [b]:=by
  rcases h.1 with⟨hk,m⟩|⟨hk,m⟩;·exact(ws5 m PB).2
  .exact(Aaq m PB).2
 obtain⟨l,b,u,y,E⟩:=g;obtain⟨p,q,g1,F,o⟩:=SZ u;have hp:=Ac (n:=n) (x:=p) Pt;have hq:=Ac (n:=n) (x:=q) Pt;have I:=Hv (n:=p);have J:=h.2;obtain⟨b1,b2,b3⟩:=wb E;refine⟨p,q,g1,by omega,?_,by rw[<-Z7,o];exact b1,by omega,?_⟩;·unfold NT.stm;rw[<-Zw,o];exact b2
 .rw[<-Zw,F];exact y
end
section
variable {V:VF}{D:DF}{b:Int}{n:NT}{sc:Int}{fr:Frm}{s:MSt}{d:Nat}
theorem Ga:RO.size<=500∧wh.size<=500∧Sp.size<=500∧MK.size<=500∧UO.size<=500:=⟨by decide,by decide,by decide,by decide,by decide⟩
theorem Ls{x:NT}{l:List NT}(h:n.kids=x::l):n.kid 0=x:=by unfold NT.kid;rw[h];rfl
theorem Ub{x y:NT}{l:List NT}(h:n.kids=x::y::l):n.kid 1=y:=by unfold NT.kid;rw[h];rfl
theorem Zph{x y z:NT}{l:List NT}(h:n.kids=x::y::z::l):n.kid 2=z:=by unfold NT.kid;rw[h];rfl
theorem Zbc{a:Int}{name:ByteArray}{v:LVal}(h:Inv s (d+1))(p:v.ok s.H.objects.length)(hs:s.steps<=20000):Fin s d (λ_ _=>True) (Sx a name v fr s):=by
 unfold Sx;split
 .split;·exact Fin.raise (h.less O') (Ext.refl _) rfl hs Ga.1
  .obtain⟨g,m⟩:=zq (o:=(if 0<=a∧0<=s.H.objectOf a then s.H.objectOf a else s.glob)) (name:=name) (fx:=false) h p;exact Fin.ok g m rfl hs trivial
 .obtain⟨g,m⟩:=Z7r (sc:=a) (name:=name) h p;simp only;split;·exact Fin.raise g m rfl hs Ga.1
  .split;·exact Fin.raise g m rfl hs Ga.2.1
   .split;·exact Fin.raise g m rfl hs Ga.2.1
    .exact Fin.ok g m rfl hs trivial
theorem Zp7{H:LHeap}{o:Int}{name:ByteArray}{k:Nat}(h:∀x∈H.objects,∀p∈x.props,p.v.ok k):((H.get o name).getD LVal.zero).ok k:=by
 unfold LHeap.get;cases hob:H.object? o with
 |none=>exact qC _
 | some x =>
   obtain⟨m,rfl,g⟩:=LHeap.object?_some hob;simp only[Option.bind_some];cases hi:x.idx name with
   |none=>exact qC _
   | some i =>
     simp only[Option.bind_some];cases hp:x.props[i]? with
     |none=>exact qC _
     |some p=>exact h x (Yd g) p (Yd hp)
theorem Zqp {a:Int} {name:ByteArray} (h:Inv s d):(s.H.read a name).1.ok s.H.objects.length:=by
 unfold LHeap.read;cases hc:s.H.scope? a with
 |none=>exact qC _
 | some c =>
   obtain⟨m,rfl,g⟩:=LHeap.scope?_some hc;simp only;split
   .split;·exact qC _
    .rename_i x hx;split
     .cases hi:c.idx name with
      |none=>rw[hi]at hx;cases hx
      | some i =>
        rw[hi]at hx;exact((h.scp c (Yd g)).2.2.1 x (Yd hx)).1
     .exact qC _
   .split;·exact qC _
    .rename_i v p;have:=Zp7 (H:=s.H) (o:=c.object) (name:=name) (k:=s.H.objects.length) (λx hx=>(h.obj x hx).2.2.1);rw[p]at this;exact this
theorem Zn5(h:Inv s (d+1))(hs:s.steps<=20000):Fin s d VQ (Zo6 n sc s):=by
 unfold Zo6;obtain⟨g,m⟩:=Zce (n:=n) (sc:=sc) (name:=n.text) h;obtain⟨p,u,o⟩:=Zh5 (s:=s) (n:=n) (sc:=sc) (name:=n.text);split;·exact Fin.raise g m o O' Ga.1
 .split;·exact Fin.raise g m o O' Ga.1
  .exact Fin.ok g m o O' (by unfold VQ;rw[p];exact Zqp h)
theorem VH.at(g:VH V b){x:NT}(hx:x∈n.kids)(m:x.wf .v)(o:n.tree.many<=1500)(h:Inv s d)(a:FAt s sc fr)(hb:b<=s.steps)(hs:s.steps<=20000):Fin s d VQ (V x sc fr s):=
 (g x sc fr s d m (by have:=Ac hx;omega) h a hb hs).1
theorem Zqx(p:VH V b)(hw:n.wf .v)(hk:n.kind=24)(O:n.tree.many<=1500)(h:Inv s (d+2))(a:FAt s sc fr)(hb:b<=s.steps)(hs:s.steps<=20000):Fin s d VQ (t8 V n sc fr s):=by
 obtain⟨x',y',h1,h2,h3,U⟩:=YW hw PB;obtain⟨x,y,g1,rfl,rfl⟩:=SZ h1;unfold t8;rw[Ls g1,Ub g1];have X:y∈n.kids:=Pt
 have mx:x∈n.kids:=Pt
 split
 .obtain⟨E,i2⟩:=Zce (n:=x) (sc:=sc) (name:=x.text) (d:=d+1) h;obtain⟨e1,e2,e3⟩:=Zh5 (s:=s) (n:=x) (sc:=sc) (name:=x.text);refine Fin.pre i2 e3 (Fin.bind (p.at X U O E (a.ext i2) O' O') (λt v F j2 j3 I J=>?_) O');refine Fin.bind (Zbc F J I) (λu _ g Y k3 m _=>?_) (Y0 _);exact Fin.ok g (Ext.refl _) rfl m (VQ.ext J Y)
 .rename_i aR;have Ly:x.tree.kind=36:=by rw[Z7]at h2 ⊢;omega
  obtain⟨_,z',g3,g4⟩:=RU h3 Ly;obtain⟨z,Z,rfl⟩:=Lt g3;rw[Ls Z];have mz:z∈x.kids:=by rw[Z];simp
  have Of:=Ac mx;refine Fin.bind (p.at mz g4 O' h a hb hs) (λt o F j2 j3 I J=>?_) O';refine Fin.bind (p.at X U O F (a.ext j2) Qb I) (λu v g Y k3 m k5=>?_) O';split
  .obtain⟨E,i2⟩:=zq (d:=d+1) (o:=o.n) (name:=x.text) (fx:=false) g k5;exact Fin.ok (E.less O') i2 rfl m (VQ.ext k5 i2)
  .exact Fin.raise (g.less O') (Ext.refl _) rfl m Ga.2.1
theorem Zhu{x:NT}(u:VH V b)(y:x.wf .v)(E:x.tree.many<=1500)(h:Inv s (d+1))(a:FAt s sc fr)(hb:b<=s.steps)(hs:s.steps<=20000):Fin s d VQ (L2 V x sc fr s):=by
 unfold L2;split
 .dsimp only
  split;·exact Fin.ok (h.less O') (Ext.refl _) rfl hs (Tq _)
  .obtain⟨m,i2⟩:=h.near (Zme (n:=s.H.find sc x.text) (name:=x.text));exact Fin.ok m i2 rfl hs (Tq _)
 .split
  .rename_i hk;obtain⟨_,z',I,J⟩:=RU y PB;obtain⟨z,F,rfl⟩:=Lt I;rw[Ls F];refine Fin.bind (u.at (by rw[F];simp) J E h a hb hs) (λt o p O U g X=>?_) O';split
   .obtain⟨m,i2⟩:=p.near (Zgb (n:=o.n) (name:=x.text));simp only;split;·exact Fin.ok m i2 rfl g (Tq _)
    .split;·exact Fin.raise m i2 rfl g Ga.2.1
     .exact Fin.ok m i2 rfl g (Tq _)
   .exact Fin.raise (p.less O') (Ext.refl _) rfl g Ga.2.1
  .refine Fin.bind ((u x sc fr s (d+1) y E h a hb hs).1) (λt o p O U g X=>?_) O';exact Fin.ok (p.less O') (Ext.refl _) rfl g (Tq _)
theorem Z96{m:Int}(h:Inv s d)(hs:s.steps<=20000):Fin s d VQ (Tv m s):=by
 unfold Tv;split;·exact Fin.raise h (Ext.refl _) rfl hs Ga.2.2.1
 .exact Fin.ok h (Ext.refl _) rfl hs (Zgd O' O')
theorem Zj3{k:Int}{x y:LVal}(h:Inv s d)(hs:s.steps<=20000):Fin s d VQ (TF k x y s):=by
 unfold TF;split;·exact Fin.ok h (Ext.refl _) rfl hs (Tq _)
 .split
  .split;·exact Fin.ok h (Ext.refl _) rfl hs (Tq _)
   .split;·exact Z96 h hs
    .split;·exact Z96 h hs
     .exact Z96 h hs
  .split;·exact Fin.ok h (Ext.refl _) rfl hs (Tq _)
   .split
    .dsimp only
     split;·exact Fin.raise h (Ext.refl _) rfl hs Ga.2.2.1
     .exact Fin.ok h (Ext.refl _) rfl hs (Xk O')
    .exact Fin.raise h (Ext.refl _) rfl hs Ga.2.1
theorem Zj4(H:LHeap)(v:LVal):(SX H v).size<=500:=by
 unfold SX;repeat' split
 all_goals decide
end
section
variable {V:VF}{D:DF}{b:Int}{n:NT}{sc:Int}{fr:Frm}{s:MSt}{d:Nat}
theorem Zgv(m:VH V b):∀(l:List NT) (s:MSt),(∀x∈l,x.wf .v∧x.tree.many<=1500)->Inv s d->FAt s sc fr->b<=s.steps->s.steps<=20000->Fin s d (λt vs=>(∀v∈vs,VQ t v)∧vs.length=l.length) (Sn V sc fr l s)
 | [],s,_,h,a,hb,hs=>Fin.ok h (Ext.refl _) rfl hs ⟨(λv p=>by cases p),rfl⟩
 | x :: l, s, hl, h, a, hb, hs => by
   refine Fin.bind ((m x sc fr s d (hl x Pg).1 (hl x Pg).2 h a hb hs).1) (λt v E j2 X F I=>?_) (Y0 _);refine Fin.bind (Zgv m l t (λy hy=>hl y Ry) E (a.ext j2) Qb F) (λu vs J O Y U o=>?_) (Y0 _);refine Fin.ok J (Ext.refl _) rfl U ⟨λw g=>?_,by rw[List.length_cons,List.length_cons,o.2]⟩;rcases List.mem_cons.1 g with rfl|g;·exact VQ.ext I O
   .exact o.1 w g
theorem Zed(g:VH V b){o:Int}:∀(l:List NT) (s:MSt),(∀k∈l,∃x,k.kids=[x]∧x.wf .v∧x.tree.many<=1500)->Inv s (d+l.length)->FAt s sc fr->b<=s.steps->s.steps<=20000->Fin s d (λ_ _=>True) (Tr V sc fr o l s)
 | [],s,_,h,a,hb,hs=>Fin.ok (h.less Pg) (Ext.refl _) rfl hs trivial
 | k :: l, s, hl, h, a, hb, hs => by
   obtain⟨x,hx,p,u⟩:=hl k Pg;unfold Tr;rw[Ls hx];refine Fin.bind ((g x sc fr s _ p u h a hb hs).1) (λt v E m O F I=>?_) O';obtain⟨J,i2⟩:=zq (d:=d+l.length) (o:=o) (name:=k.text) (fx:=false) (E.less QK) I;exact Fin.pre i2 rfl (Zed g l _ (λy hy=>hl y Ry) J (a.ext (m.trans i2)) (by have:=m.steps;have:=i2.steps;omega) F)
theorem Vj(g:DH D b):∀(l:List NT) (s:MSt),(∀x∈l,x.wf .s∧x.tree.many<=1500)->Inv s d->FAt s sc fr->b<=s.steps->s.steps<=20000->Fin s d DQ (p' D sc fr l s)
 | [],s,_,h,a,hb,hs=>Fin.ok h (Ext.refl _) rfl hs (qC _)
 | x :: l, s, hl, h, a, hb, hs => by
   refine Fin.bind ((g x sc fr s d (hl x Pg).1 (hl x Pg).2 h a hb hs).1) (λt r m j2 u o p=>?_) (Y0 _);split;·exact Fin.ok m (Ext.refl _) rfl o p
   .exact Vj g l t (λy hy=>hl y Ry) m (a.ext j2) Qb o
theorem TG(h:n.stm)(g:n.tree.many<=1500):∀x∈n.kids,x.wf .s∧x.tree.many<=1500:=λx hx=>⟨Zlm h hx,by have:=Ac hx;omega⟩
theorem Zbp{c:Clo}{vs:List LVal}(h:Inv s (d+17000))(r:Root s)(hc:zU c.node∧0<=c.scope∧c.scope<s.H.scopes.length)(m:∀v∈vs,VQ s v)(hl:vs.length<=1500) :
 Inv (s.enterS c vs) d∧Ext s (s.enterS c vs)∧FAt (s.enterS c vs) s.next ⟨c.strict,s.next⟩:=by
 obtain⟨p,q,I,g2,Z,g4,g5,g6⟩:=Z7x hc.1;have hq:=Hv (n:=q);have l1:=VI (n:=q);have l2:=UW (n:=q);have l3:=VP (n:=q);unfold MSt.enterS;rw[Ls I,Ub I];dsimp only
 obtain⟨a1,a2⟩:=h.opens (d:=d+16999) (outer:=c.scope) (object:=-1) (owner:=c.node.num) O' hc.2.2 Pa O';have aH:(s.opens c.scope (-1) c.node.num).H.scopes.length=s.H.scopes.length+1:=by simp[MSt.opens]
 obtain⟨b1,b2⟩:=Z8g (sc:=s.next) p.kids vs _ (d+15499) (a1.less O') (λv E=>VQ.ext (m v E) a2);have F:=a2.trans b2;obtain⟨o,cO⟩:=zX (MSt.params s.next p.kids vs (s.opens c.scope (-1) c.node.num))
 rw[<-cO]at b1 b2 F ⊢;obtain⟨y,J⟩:=zX ((if(o.H.has s.next Zd||q.hasName Zd)=true then o else o.argsObj s.next vs))
 rw[<-J];have Ib:Inv y (d+13996)∧Ext o y:=by
  rw[J];split;·exact⟨b1.less O',Ext.refl _⟩
  .exact Zad (b1.less O') (λv E=>VQ.ext (m v E) F) O'
 obtain⟨c1,c2⟩:=Ib;have x3:=F.trans c2;obtain⟨d1,O⟩:=Zgl (l:=q.vars) (sc:=s.next) (d:=d+12496) (c1.less O');obtain⟨e1,U⟩:=TC (l:=q.lets) (sc:=s.next) (d:=d+10996) (d1.less O');have x5:=(x3.trans O).trans U;have be:s.next<((y.vars q.vars s.next).lets q.lets s.next).H.scopes.length:=by
  have h1:=((b2.trans c2).trans O).trans U;have h2:=h1.ls;show(s.H.scopes.length:Int)<_;omega
 obtain⟨f1,X⟩:=X1 (p:=λs _=>s) (g:=λt x v=>t.bindTo s.next x v) (s:=(y.vars q.vars s.next).lets q.lets s.next) (d:=d) (l:=q.funcs) (sc:=s.next) (fr:=⟨c.strict,s.next⟩) (e1.less O') (TK Z g5) (by show(0:Int)<=s.H.scopes.length;omega) be
  (λu e x _ hi=>⟨hi.less O',Ext.refl _⟩) (λu e x v _ hi m=>YS hi m)
 have Y:=x5.trans X;exact⟨f1,Y,r.ext Y,by show(0:Int)<=s.H.scopes.length;omega,by have:=X.ls;omega,.refl,by show(0:Int)<=s.H.scopes.length;omega⟩
theorem XH{n:NT}:(s.funS n sc fr).calls=s.calls∧(s.funS n sc fr).steps=s.steps:=by
 unfold MSt.funS;cases n.named<;>exact⟨rfl,rfl⟩
theorem Z56{x:ByteArray}{v:LVal}:(s.bindTo sc x v).calls=s.calls∧(s.bindTo sc x v).steps=s.steps:=by
 unfold MSt.bindTo;split<;>exact⟨rfl,rfl⟩
theorem Zb2{x:ByteArray}:(s.loose sc x).calls=s.calls∧(s.loose sc x).steps=s.steps:=by
 unfold MSt.loose;split;·exact⟨rfl,rfl⟩
 .split<;>exact⟨rfl,rfl⟩
theorem WK{β:Type}(f:MSt->β->MSt)(hf:∀s b,(f s b).calls=s.calls∧(f s b).steps=s.steps):∀(l:List β) (s:MSt),(l.foldl f s).calls=s.calls∧(l.foldl f s).steps=s.steps
 | [],s=>⟨rfl,rfl⟩
 | x :: l, s => by
   have h:=WK f hf l (f s x);exact⟨h.1.trans (hf s x).1,h.2.trans (hf s x).2⟩
theorem Z6s{p:MSt->ByteArray->MSt}{g:MSt->ByteArray->LVal->MSt}{l:List NT}(hp:∀s x,(p s x).calls=s.calls∧(p s x).steps=s.steps)(m:∀s x v,(g s x v).calls=s.calls∧(g s x v).steps=s.steps) :
 (s.funcs p g l sc fr).calls=s.calls∧(s.funcs p g l sc fr).steps=s.steps:=
 WK _ (λs k=>⟨(m _ _ _).1.trans (XH.1.trans (hp _ _).1),(m _ _ _).2.trans (XH.2.trans (hp _ _).2)⟩) l s
theorem Z75:∀(l:List NT) (vs:List LVal) (s:MSt),(MSt.params sc l vs s).calls=s.calls∧(MSt.params sc l vs s).steps=s.steps
 | [],vs,s=>⟨rfl,rfl⟩
 |p::l,vs,s=>⟨(Z75 l _ _).1.trans Z56.1,(Z75 l _ _).2.trans Z56.2⟩
theorem Z8r{o:Int}:∀(vs:List LVal) (i:Nat) (s:MSt),(MSt.argsPut o i vs s).calls=s.calls∧(MSt.argsPut o i vs s).steps=s.steps
 | [],i,s=>⟨rfl,rfl⟩
 |v::l,i,s=>Z8r l (i+1) (s.put o (MSt.argN i) v false)
theorem WH{l:List NT}:(s.lets l sc).calls=s.calls∧(s.lets l sc).steps=s.steps:=WK (λ(s:MSt) (k:NT)=>s.declare sc k.text (if k.kind=4 then 2 else 1) LVal.zero) (λ_ _=>⟨rfl,rfl⟩) l s
theorem Zm7{l:List ByteArray}:(s.vars l sc).calls=s.calls∧(s.vars l sc).steps=s.steps:=WK (λ(s:MSt) (t:ByteArray)=>s.declare sc t 0 LVal.zero) (λ_ _=>⟨rfl,rfl⟩) l s
theorem Zf6{l:List ByteArray}:(s.looses l sc).calls=s.calls∧(s.looses l sc).steps=s.steps:=WK (λ(s:MSt) (t:ByteArray)=>s.loose sc t) (λ_ _=>Zb2) l s
theorem Z9h{c:Clo}{vs:List LVal}:(s.enterS c vs).calls=s.calls∧(s.enterS c vs).steps=s.steps:=by
 unfold MSt.enterS;dsimp only
 have u:=Z75 (sc:=s.next) (c.node.kid 0).kids vs (s.opens c.scope (-1) c.node.num);obtain⟨m,I⟩:=zX (MSt.params s.next (c.node.kid 0).kids vs (s.opens c.scope (-1) c.node.num))
 rw[<-I]at u ⊢;obtain⟨o,y⟩:=zX ((if(m.H.has s.next Zd||(c.node.kid 1).hasName Zd)=true then m else m.argsObj s.next vs))
 rw[<-y];have E:o.calls=m.calls∧o.steps=m.steps:=by
  rw[y];split;·exact⟨rfl,rfl⟩
  .exact Z8r vs 0 ((m.object 0).put m.nextO VZ (.num vs.length) false)
 have F:=Zm7 (s:=o) (sc:=s.next) (l:=(c.node.kid 1).vars);have h5:=WH (s:=o.vars (c.node.kid 1).vars s.next) (sc:=s.next) (l:=(c.node.kid 1).lets);have G:=Z6s (s:=(o.vars (c.node.kid 1).vars s.next).lets (c.node.kid 1).lets s.next) (sc:=s.next) (fr:=⟨c.strict,s.next⟩) (p:=λs _=>s) (g:=λt x v=>t.bindTo s.next x v) (l:=(c.node.kid 1).funcs) (λ_ _=>⟨rfl,rfl⟩) (λ_ _ _=>Z56);exact⟨G.1.trans (h5.1.trans (F.1.trans (E.1.trans u.1))),G.2.trans (h5.2.trans (F.2.trans (E.2.trans u.2)))⟩
theorem Zm0{c:Clo}{vs:List LVal}(g:DH D b)(h:Inv s (d+17000))(r:Root s)(hc:zU c.node∧0<=c.scope∧c.scope<s.H.scopes.length)(m:∀v∈vs,VQ s v)(hl:vs.length<=1500)(hb:b<=s.steps)(hs:s.steps<=20000) :
 Fin s d VQ (Vr D c vs s):=by
 obtain⟨p,q,o,Y,u,Z,y,g6⟩:=Z7x hc.1;obtain⟨E,F,I⟩:=Zbp h r hc m hl;obtain⟨J,e2⟩:=Z9h (s:=s) (c:=c) (vs:=vs);unfold Vr;rw[Ub o];refine Fin.pre F J (Fin.bind (Vj g q.kids _ (TG u y) E I O' O') (λt r O j2 j3 U X=>?_) (Y0 _));refine Fin.ok O (Ext.refl _) rfl U ?_;split;·exact X
 .exact qC _
end
section
variable {V:VF}{D:DF}{b:Int}{n:NT}{sc:Int}{fr:Frm}{s:MSt}{d:Nat}
theorem Anc.le{H:LHeap}(g:H.WF){v sc:Int}(a:Anc H v sc):v<=sc:=by
 induction a with
 |refl=>exact Int.le_refl _
 | @up sc c hc _ p =>
   obtain⟨m,rfl,o⟩:=LHeap.scope?_some hc;have:=(g m c o).2;omega
theorem Zdb(h:Inv s (d+13600))(a:FAt s sc fr)(hst:n.stm)(Y:n.tree.many<=1500) :
 Inv (s.evalS n sc fr) d∧Ext s (s.evalS n sc fr)∧FAt (s.evalS n sc fr) (if n.lets.isEmpty then sc else s.next) fr:=by
 have hq:=Hv (n:=n);have l1:=VI (n:=n);have l2:=UW (n:=n);have l3:=VP (n:=n);unfold MSt.evalS;dsimp only
 obtain⟨s1,J⟩:=zX (s.looses n.vars fr.vars)
 obtain⟨F,a2⟩:=Zbj (l:=n.vars) (sc:=fr.vars) (d:=d+12100) (s:=s) (h.less O');have Z:s1.H.scopes.length=s.H.scopes.length:=by
  have m:∀(l:List ByteArray) (u:MSt),(u.looses l fr.vars).H.scopes.length=u.H.scopes.length:=by
   intro l;induction l with
   |nil=>intro u;rfl
   | cons x l ih =>
     intro u;refine(ih (u.loose fr.vars x)).trans ?_;exact Zwt
  rw[J];exact m _ _
 have O:s1.next=s.next:=by unfold MSt.next;rw[Z]
 rw[<-J]at F a2 ⊢;have E:FAt s1 sc fr:=a.ext a2;rw[O];obtain⟨o,U⟩:=zX ((if n.lets.isEmpty=true then s1 else(s1.opens sc (-1) (-3)).lets n.lets s.next))
 rw [← U];have m:Inv o (d + 9000)∧Ext s1 o∧FAt o (if n.lets.isEmpty=true then sc else s.next) fr:=by
  rw[U];cases n.lets.isEmpty with
  |true=>exact⟨F.less O',Ext.refl _,E⟩
  | false =>
    simp only[Bool.false_eq_true,if_false];obtain⟨b1,b2⟩:=F.opens (d:=d+12099) (outer:=sc) (object:=-1) (owner:=-3) (by have:=E.lo;omega) E.hi Pa O';obtain⟨c1,c2⟩:=TC (l:=n.lets) (sc:=s.next) (d:=d+10599) (b1.less O');have y:=E.opens b2;rw[O]at y;exact⟨c1.less O',b2.trans c2,y.ext c2⟩
 obtain⟨k1,k2,I⟩:=m
 obtain⟨y,f2⟩:=X1 (p:=λs t=>s.loose fr.vars t) (g:=λs t v=>if 0<=s.H.objectOf fr.vars then s.put (s.H.objectOf fr.vars) t v false else s.write fr.vars t v) (s:=o) (d:=d) (l:=n.funcs) (sc:=if n.lets.isEmpty=true then sc else s.next) (fr:=fr)
  (k1.less O') (TK hst Y) I.lo I.hi (fun u e x _ hi => Z7v hi) (fun u e x v _ hi X => by
   split;·exact zq hi X
   .exact Z7r hi X)
 obtain⟨g1,g2⟩:=Inv.turn (k:=(o.funcs (λs t=>s.loose fr.vars t) (λs t v=>if 0<=s.H.objectOf fr.vars then s.put (s.H.objectOf fr.vars) t v false else s.write fr.vars t v) n.funcs (if n.lets.isEmpty=true then sc else s.next) fr).steps) (c:=(o.funcs (λs t=>s.loose fr.vars t) (λs t v=>if 0<=s.H.objectOf fr.vars then s.put (s.H.objectOf fr.vars) t v false else s.write fr.vars t v) n.funcs (if n.lets.isEmpty=true then sc else s.next) fr).calls) (v:=LVal.zero) (d':=d) y (Int.le_refl _) y.steps.2 y.calls (qC _) (Y0 _);have x:=(f2.trans g2)
 exact⟨g1,(a2.trans k2).trans x,I.ext x⟩
theorem Zbd:(s.evalS n sc fr).calls=s.calls∧(s.evalS n sc fr).steps=s.steps:=by
 unfold MSt.evalS;dsimp only
 have m:=Zf6 (s:=s) (sc:=fr.vars) (l:=n.vars);obtain⟨s1,F⟩:=zX (s.looses n.vars fr.vars)
 rw[<-F]at m ⊢;obtain⟨o,u⟩:=zX ((if n.lets.isEmpty=true then s1 else(s1.opens sc (-1) (-3)).lets n.lets s1.next))
 rw[<-u];have y:o.calls=s1.calls∧o.steps=s1.steps:=by
  rw[u];split;·exact⟨rfl,rfl⟩
  .exact WH
 have E:=Z6s (s:=o) (p:=λs t=>s.loose fr.vars t) (g:=λs t v=>if 0<=s.H.objectOf fr.vars then s.put (s.H.objectOf fr.vars) t v false else s.write fr.vars t v) (l:=n.funcs) (sc:=if n.lets.isEmpty=true then sc else s1.next) (fr:=fr) (λ_ _=>Zb2) (λ_ _ _=>by split<;>exact⟨rfl,rfl⟩);exact⟨E.1.trans (y.1.trans m.1),E.2.trans (y.2.trans m.2)⟩
theorem Zb5(F:DH D b)(h:Inv s (d+13600))(a:FAt s sc fr)(hst:n.stm)(u:n.tree.many<=1500)(hb:b<=s.steps)(hs:s.steps<=20000):Fin s d VQ (S3 D n sc fr s):=by
 obtain⟨I,y,J⟩:=Zdb h a hst u;obtain⟨E,O⟩:=Zbd (s:=s) (n:=n) (sc:=sc) (fr:=fr);have hf:=Vj F n.kids _ (TG hst u) I J O' O';unfold S3;obtain⟨g,m,o,p⟩:=hf;split
 .rename_i t v hr;rw[hr]at g m o p;exact⟨g,y.trans m,o.trans E,g.last,p.2⟩
 .rename_i t x hr;rw[hr]at g m o p;exact⟨g,y.trans m,o.trans E,by cases x<;>exact p⟩
theorem Za1{text:ByteArray}(h:Ul text=some n):n.stm∧n.tree.many<=1500∧n.kind=1:=by
 unfold Ul at h;cases hp:xG text with
 |error x=>rw[hp]at h;cases h
 | ok t =>
   rw[hp]at h;simp only[Option.some.injEq]at h;subst h;obtain⟨l,m,g,o⟩:=Z79 hp;have hb:=Z9c t;refine⟨?_,by rw[hb];exact o,?_⟩
   .unfold NT.stm;rw[<-Zw,hb,g];exact m
   .rw[<-Z7,hb,g];rfl
theorem Zcr{text:ByteArray}(g:DH D b)(h:Inv s (d+13601))(a:FAt s sc fr)(hb:b<=s.steps)(hs:s.steps<=20000):Fin s d VQ (P0 D text sc fr s):=by
 unfold P0;split;·exact Zrg
 .rename_i n hn;obtain⟨m,o,_⟩:=Za1 hn;split;·exact Zrg
  .split
   .obtain⟨p,i2⟩:=h.opens (d:=d+13600) (outer:=sc) (object:=-1) (owner:=-3) Rt a.hi Pa O';have f:=a.opens i2;refine Fin.pre i2 rfl (Zb5 g p ⟨f.root,f.lo,f.hi,.refl,f.lo⟩ m o hb hs)
   .split;·exact Zrg
    .exact Zb5 g (h.less O') ⟨a.root,a.lo,a.hi,a.anc,a.vlo⟩ m o hb hs
theorem Zmj(a:FAt s sc fr):FAt s s.top ⟨false,s.outer⟩:=by
 have r:=a.root;obtain⟨c,g,m⟩:=r.one;refine⟨r,by rw[r.top];decide,by rw[r.top];have:=r.many;omega,?_,by show 0<=s.outer;rw[r.outer];exact Int.le_refl _⟩;show Anc s.H s.outer s.top;rw[r.outer,r.top];refine .up (c:=c) ?_ (by rw[m];exact .refl);unfold LHeap.scope?;rw[Y3 Pa];exact g
theorem Zml(h:Inv s d){o:Int}:0<=s.H.code o∧s.H.code o<3+s.clos.length:=by
 unfold LHeap.code;cases hob:s.H.object? o with
 |none=>exact⟨by decide,by show(0:Int)<_;omega⟩
 | some x =>
   obtain⟨m,rfl,g⟩:=LHeap.object?_some hob;have:=h.obj x (Yd g);exact⟨this.1,this.2.1⟩
theorem Zni{r:MSt×Except Er LVal}(h:Inv s d)(hr:Fin {s with calls:=s.calls+1} d VQ r):Fin s d VQ (TO s r):=by
 obtain⟨o,g,p,m⟩:=hr;have hc:r.1.calls=s.calls+1:=p;have hx:Ext s r.1:=⟨g.lo,g.scp,g.ls,g.own,g.clo,g.glob,g.outer,g.top,g.steps,g.log,g.seen⟩
 have E:=h.calls;obtain⟨u,y⟩:=Inv.turn (k:=r.1.steps) (c:=r.1.calls-1) (v:=s.last) (d':=d) o (Int.le_refl _) o.steps.2 ⟨by omega,by omega⟩ (h.last.mono hx.lo) (Y0 _);refine⟨u,hx.trans y,by show r.1.calls-1=s.calls;omega,?_⟩;unfold TO;cases hr2:r.2 with
 |ok v=>rw[hr2]at m;exact m
 |error x=>rw[hr2]at m;cases x<;>exact m
theorem Zgo{code:Int}{args:List LVal}(g:DH D b)(h:Inv s (d+17000))(a:FAt s sc fr)(hc:0<=code∧code<3+s.clos.length∧code≠0∧code≠1)(m:∀v∈args,VQ s v)(hl:args.length<=1500)(hb:b<=s.steps)(hs:s.steps<=20000) :
 Fin s d VQ (Uf D n sc fr code args s):=by
 unfold Uf;split
 .have o:(code-3).toNat<s.clos.length:=by omega
  rw[List.getD_eq_getElem?_getD,Y6 o,Option.getD_some];exact Zm0 g h a.root (h.clo _ (List.getElem_mem _)) m hl hb hs
 .split;·exact Zcr g (h.less O') a hb hs
  .exact Zcr g (h.less O') (Zmj a) hb hs
theorem Zid{code:Int}{args:List LVal}(m:DH D b)(h:Inv s (d+17000))(a:FAt s sc fr)(hc:0<=code∧code<3+s.clos.length)(g:∀v∈args,VQ s v)(hl:args.length<=1500)(hb:b<=s.steps)(hs:s.steps<=20000) :
 Fin s d VQ (UB D n sc fr code args s):=by
 unfold UB;split;·exact Fin.raise (h.less O') (Ext.refl _) rfl hs Ga.2.1
 .split
  .obtain⟨o,i2⟩:=(h.less (d':=d+1) O').log (t:=UR (args.map s.H.shown));exact Fin.ok o i2 rfl hs (qC _)
  .split;·exact Fin.ok (h.less O') (Ext.refl _) rfl hs (qC _)
   .split
    .refine Fin.ok (h.less O') (Ext.refl _) rfl hs ?_;cases args with
     |nil=>exact qC _
     |cons v vs=>exact g v Pg
    .split;·exact Fin.raise (h.less O') (Ext.refl _) rfl hs Ga.2.2.1
     .rename_i c0 c1 c2 c3 y;have E:=h.calls;obtain⟨p,u⟩:=Inv.turn (k:=s.steps) (c:=s.calls+1) (v:=s.last) (d':=d+17000) h (Int.le_refl _) h.steps.2 ⟨by omega,by omega⟩ h.last (Y0 _);exact Zni (h.less O') (Zgo m p (a.ext u) ⟨hc.1,hc.2,c0,c1⟩ g hl hb hs)
theorem Zos(E:VH V b)(J:DH D b)(O:n.wf .v)(hk:n.kind=35)(U:n.tree.many<=1500)(h:Inv s (d+17000))(a:FAt s sc fr)(hb:b<=s.steps)(hs:s.steps<=20000):Fin s d VQ (UG V D n sc fr s):=by
 obtain⟨x',l',F,X,p⟩:=Xp O PB;rw[Zw]at F;obtain⟨x,l,g1,rfl,rfl⟩:=SF F;have Y:∀(l:List NT),Wf .vl (pL l)->∀y∈l,y.wf .v:=by
  intro l;induction l with
  |nil=>intro _ y g;cases g
  | cons z l Z =>
    intro p y g;obtain⟨m,o⟩:=Zgf (t:=z.tree) (l:=pL l) p;rcases List.mem_cons.1 g with rfl|g;·exact m
    .exact Z o y g
 have tJ:∀y∈l,y.wf .v∧y.tree.many<=1500:=λy g=>⟨Y l p y g,by have:=Ac (n:=n) (x:=y) (by rw[g1];simp[g]);omega⟩;have aH:=Hv (n:=n);rw[g1,List.length_cons]at aH;unfold UG;rw[Ls g1,show n.kids.tail=l by rw[g1];rfl];refine Fin.bind (E.at Pt X U h a hb hs) (λt p7 j1 j2 j3 j4 j5=>?_) O';refine Fin.bind (Zgv E l t tJ j1 (a.ext j2) Qb j4) (λu args m o k3 k4 I=>?_) O'
 refine Zid J m ((a.ext j2).ext o) ?_ I.1 (by rw[I.2];omega) (by have:=j2.steps;have:=o.steps;omega) k4;unfold codeOf;split;·exact Zml m
 .exact⟨by decide,by omega⟩
end
section
variable {V:VF}{D:DF}{b:Int}{n:NT}{sc:Int}{fr:Frm}{s:MSt}{d:Nat}
theorem Zli (u:VH V b) (hD:DH D b) (F:n.wf .v) (Og:32≤n.kind) (lR:n.kind≠37) (I:n.tree.many≤1500) (h:Inv s (d + 17000)) (a:FAt s sc fr) (hb:b≤s.steps) (hs:s.steps≤20000):Fin s d VQ (xn V D n sc fr s):=by
 have one:n.kind=32∨n.kind=33∨n.kind=34->∃x,n.kids=[x]∧x.wf .v:=by
  intro hk;obtain⟨x',O,U⟩:=wv1 F Qw Qw;obtain⟨x,g1,rfl⟩:=Lt O;exact⟨x,g1,U⟩
 unfold xn;split
 .rename_i hk;obtain⟨x,g1,p⟩:=one O';rw[Ls g1];dsimp only
  split;·exact Fin.ok (h.less O') (Ext.refl _) rfl hs (Xk Ga.2.2.2.2)
  .refine Fin.bind (u.at Pt p I h a hb hs) (λt v g J X m Y=>?_) O';exact Fin.ok (g.less O') (Ext.refl _) rfl m (Xk (Zj4 _ _))
 .split
  .rename_i hk;obtain⟨x,g1,p⟩:=one O';rw[Ls g1];refine Fin.bind (u.at Pt p I h a hb hs) (λt v g J X m Y=>?_) O';exact Fin.ok (g.less O') (Ext.refl _) rfl m (Tq _)
  .split
   .rename_i hk;obtain⟨x,g1,p⟩:=one O';rw[Ls g1];have:=Ac (n:=n) (x:=x) Pt;exact Zhu u p O' (h.less O') a hb hs
   .split
    .rename_i hk;exact Zos u hD F hk I h a hb hs
    .split
     .rename_i hk;obtain⟨_,x',O,U⟩:=RU F PB;obtain⟨x,g1,rfl⟩:=Lt O;rw[Ls g1];refine Fin.bind (u.at Pt U I h a hb hs) (λt v g J X m Y=>?_) O';split;·exact Fin.ok (g.less O') (Ext.refl _) rfl m (Zp7 λx hx=>(g.obj x hx).2.2.1)
      .exact Fin.raise (g.less O') (Ext.refl _) rfl m Ga.2.1
     .split
      .rename_i hk;have Z:=WZ F PB;rw[Zw]at Z;have aU:∀(l:List NT),Wf .ol (pL l)->∀y∈l,∃x,y.kids=[x]∧x.wf .v:=by
        intro l;induction l with
        |nil=>intro _ y E;cases E
        | cons z l ih =>
          intro h3 y E;obtain⟨⟨_,_,x',k1,k2⟩,k3⟩:=Zh0 (t:=z.tree) (l:=pL l) h3;rcases List.mem_cons.1 E with rfl|E
          .obtain⟨x,g1,rfl⟩:=Lt k1;exact⟨x,g1,k2⟩
          .exact ih k3 y E
       have aH:=Hv (n:=n);obtain⟨i1,i2⟩:=h.object (d:=d+16999) (code:=0) Pa O';have jQ:(s.object 0).H.objects.length=s.H.objects.length+1:=QU
       refine Fin.pre i2 rfl (Fin.bind (Zed u (o:=s.nextO) n.kids _ (λk hk=>?_) (i1.less O') (a.ext i2) hb hs) (λt v g J X m Y=>?_) (Y0 _))
       .obtain⟨x,g1,p⟩:=aU _ Z k hk;have m1:=Ac hk;have m2:=Ac (n:=k) (x:=x) Pt;exact⟨x,g1,p,by omega⟩
       .refine Fin.ok g (Ext.refl _) rfl m (N' (by show(0:Int)<=s.H.objects.length;omega) ?_);have:=J.lo;show(s.H.objects.length:Int)<_;omega
      .exact Fin.ok (h.less O') (Ext.refl _) rfl hs (qC _)
theorem Zl6 (o:VH V b) (U:DH D b) (g:n.wf .v) (m:n.tree.many≤1500) (h:Inv s (d + 17000)) (a:FAt s sc fr) (hb:b≤s.steps) (hs:s.steps≤20000):Fin s d VQ (x4 V D n sc fr s):=by
 have hl:∀{e:Nat},e<=d+17000->Inv s e:=λhe=>h.less he;have X:=Zjy g;rw[Z7]at X;unfold x4;split
 .rename_i hk;have:=Aaz g PB;rw[Zpy]at this;exact Fin.ok (hl O') (Ext.refl _) rfl hs (Zgd O' O')
 .split
  .rename_i hk;have:=AaA g PB;rw[Ziy]at this;exact Fin.ok (hl O') (Ext.refl _) rfl hs (Xk this.1)
  ·split;·exact Fin.ok (hl O') (Ext.refl _) rfl hs (Tq _)
   ·split;·exact Fin.ok (hl O') (Ext.refl _) rfl hs Zps
    .split;·exact Fin.ok (hl O') (Ext.refl _) rfl hs (qC _)
     .split;·exact Zn5 (hl O') hs
      .split
       .rename_i hk;exact Zqx o g hk m (hl O') a hb hs
       .split
        .rename_i hk;obtain⟨x',y',F,I,J⟩:=wv2 g Qw Qw;obtain⟨x,y,g1,rfl,rfl⟩:=SZ F;rw[Ls g1,Ub g1];refine Fin.bind (o.at Pt I m h a hb hs) (λt v p j2 Y E O=>?_) O';split;·exact Fin.ok (p.less O') (Ext.refl _) rfl E O
         .exact o.at Pt J m (p.less O') (a.ext j2) Qb E
        .split
         .rename_i hk;obtain⟨x',y',F,I,J⟩:=wv2 g Qw Qw;obtain⟨x,y,g1,rfl,rfl⟩:=SZ F;rw[Ls g1,Ub g1];refine Fin.bind (o.at Pt I m h a hb hs) (λt v p j2 Y E O=>?_) O';refine Fin.bind (o.at Pt J m p (a.ext j2) Qb E) (λu w Z k2 k3 k4 k5=>?_) O';exact Zj3 (Z.less O') k4
         .split
          .rename_i hk;obtain⟨i1,i2,i3⟩:=WU (d:=d) (sc:=sc) (fr:=fr) (n:=n) (h.less O') ⟨.inr ⟨hk,g⟩,m⟩ a.lo a.hi;obtain⟨f1,f2⟩:=XH (s:=s) (n:=n) (sc:=sc) (fr:=fr);exact Fin.ok i1 i2 f1 O' (N' (by show(0:Int)<=s.H.objects.length;omega) (by rw[i3];show(s.H.objects.length:Int)<_;omega))
          .exact Zli o U g O' Px m h a hb hs
theorem Zgm{α:Type}{Q:MSt->α->Prop}{k:RM α}(h:Inv s d)(a:FAt s sc fr)(hs:s.steps<=20000)
 (hk:∀t,Inv t (d+20000)->FAt t sc fr->t.steps=s.steps+1->t.steps<=20000->Fin t d Q (k t)):Fin s d Q (yk k s)∧s.steps<(yk k s).1.steps:=by
 have m:=h.steps;obtain⟨g,i2⟩:=Inv.turn (k:=s.steps+1) (c:=s.calls) (v:=s.last) (d':=d+20000) h O' O' h.calls h.last O';unfold yk;split;·exact⟨⟨g.less O',i2,rfl,by show s.steps+1=20001;omega⟩,by show s.steps<s.steps+1;omega⟩
 .have hf:=hk {s with steps:=s.steps+1} g (a.ext i2) rfl (by show s.steps+1<=20000;omega);refine⟨Fin.pre i2 rfl hf,?_⟩;have:=hf.2.1.steps;have e:({s with steps:=s.steps+1}:MSt).steps=s.steps+1:=rfl;omega
theorem Fin.and{α:Type}{Q:MSt->α->Prop}{P:MSt->Prop}{r:MSt×Except Er α}(h:Fin s d Q r)(hp:P r.1):Fin s d (λt v=>Q t v∧P t) r:=by
 obtain⟨m,o,p,g⟩:=h;refine⟨m,o,p,?_⟩;cases hr:r.2 with
 |ok v=>rw[hr]at g;exact⟨⟨g.1,hp⟩,g.2⟩
 |error x=>rw[hr]at g;cases x<;>exact g
theorem Zd7(o:VH V b)(p:DH D b){x y:NT}(hx:n.kids=[x,y])(E:x.wf .v)(F:y.wf .s)(Y:n.tree.many<=1500) :
 ∀(g:Nat) (s:MSt),20001<=s.steps+g->Inv s d->FAt s sc fr->b<=s.steps->s.steps<=20000->Fin s d DQ (SU V D n sc fr g s)
 |0,s,Z,h,a,hb,hs=>by omega
 | g + 1, s, Z, h, a, hb, hs => by
   have mx:=Ac (n:=n) (x:=x) PC;have my:=Ac (n:=n) (x:=y) PC;unfold SU;rw[Ls hx,Ub hx];obtain⟨f1,f2⟩:=o x sc fr s d E O' h a hb hs;refine Fin.bind (f1.and (P:=λt=>s.steps<t.steps) f2) (λt v I m j3 J j5=>?_) (Y0 _);split
   .obtain⟨f3,f4⟩:=p y sc fr t d F O' I (a.ext m) (by have :=m.steps;omega) J;refine Fin.bind f3 (λu r O U k3 X k5=>?_) (Y0 _);split;·exact Fin.ok O (Ext.refl _) rfl X k5
    .have:=U.steps;have:=m.steps;exact Zd7 o p hx E F Y g u (by have:=j5.2;omega) O ((a.ext m).ext U) O' X
   .exact Fin.ok I (Ext.refl _) rfl J (qC _)
theorem Zl3(y:DH D b)(hst:n.stm)(m:n.tree.many<=1500)(h:Inv s (d+12000))(a:FAt s sc fr)(hb:b<=s.steps)(hs:s.steps<=20000):Fin s d DQ (Uu D n sc fr s):=by
 unfold Uu;split;·exact Vj y _ _ (TG hst m) (h.less O') a hb hs
 .have hq:=Hv (n:=n);have l2:=UW (n:=n);have l3:=VP (n:=n);obtain⟨O,i2⟩:=h.opens (d:=d+11999) (outer:=sc) (object:= -1) (owner:=n.num) (by have :=a.lo;omega) a.hi Pa O';have f:=a.opens i2;obtain⟨U,o⟩:=TC (l:=n.lets) (sc:=s.next) (d:=d+10000) (O.less O')
  obtain⟨X,E⟩:=X1 (p:=λs _=>s) (g:=λt a v=>t.declare s.next a 0 v) (d:=d) (l:=n.funcs) (sc:=s.next) (fr:=fr) (U.less O') (TK hst m) f.lo (by have:=o.ls;have:=f.hi;omega)
   (λu e x _ hi=>⟨hi.less O',Ext.refl _⟩) (λu e x v _ hi Y=>Ta hi Y Pa Pa)
  have F:=Z6s (s:=(s.opens sc (-1) n.num).lets n.lets s.next) (p:=λs _=>s) (g:=λt a v=>t.declare s.next a 0 v) (l:=n.funcs) (sc:=s.next) (fr:=fr) (λ_ _=>⟨rfl,rfl⟩) (λ_ _ _=>⟨rfl,rfl⟩);have I:=WH (s:=s.opens sc (-1) n.num) (l:=n.lets) (sc:=s.next);have x:=(i2.trans o).trans E;have Z:(s.blockS n sc fr).calls=s.calls:=F.1.trans I.1;have J:(s.blockS n sc fr).steps=s.steps:=F.2.trans I.2;exact Fin.pre x Z (Vj y _ _ (TG hst m) X (f.ext (o.trans E)) (J.symm▸hb) (J.symm▸hs))
end
section
variable {V:VF}{D:DF}{b:Int}{n:NT}{sc:Int}{fr:Frm}{s:MSt}{d:Nat}
theorem Fin.sort{α:Type}{Q:MSt->α->Prop}{t:MSt}{r:Except Er α}(h:Fin s d Q (t,r)):Inv t d∧Ext s t∧t.calls=s.calls:=⟨h.1,h.2.1,h.2.2.1⟩
theorem YC(p:DH D b):∀(l:List NT) (r:MSt×Except Er (Bool×LVal)),(∀k∈l,∃c,k.kids=[c]∧c.wf .s∧c.tree.many<=1500)->FAt s sc fr->b<=s.steps->Fin s (d+2*l.length) DQ r->Fin s d DQ (vH D sc fr l r)
 | [],r,_,_,_,h=>h.less O'
 | k :: l, (t, r), hl, a, hb, h => by
   obtain⟨c,hc,J,O⟩:=hl k Pg;obtain⟨u,m,E⟩:=h.sort;rw[List.length_cons]at h u;have U:b<=t.steps:=by have:=m.steps;omega
   have F:∀k∈l,∃c,k.kids=[c]∧c.wf .s∧c.tree.many<=1500:=λy hy=>hl y Ry;unfold vH;rw[Ls hc];have fin:∀(o:Except Er (Bool×LVal)),Fin s (d+2*l.length) DQ (t,o)->t.steps<=20000->Fin s d DQ (match D c sc fr t with
    |(s1,.ok (false,_))=>vH D sc fr l (s1,o)
    |x=>vH D sc fr l x):=by
    intro o ho hst;obtain⟨g,_⟩:=p c sc fr t (d+2*l.length) J O (u.less O') (a.ext m) U hst;split
    .rename_i s1 v hr;rw[hr]at g;refine YC p l _ F a hb ⟨g.1,m.trans g.2.1,g.2.2.1.trans E,?_⟩;have X:s1.steps<=20000:=g.2.2.2.2;obtain⟨_,_,_,I⟩:=ho;cases o with
     |ok v=>exact⟨LVal.ok.mono I.1 g.2.1.lo,X⟩
     | error x =>
       cases x with
       |stop=>exact absurd (show t.steps=20001 from I) O'
       |thr v=>exact⟨I.1.mono g.2.1.lo,X⟩
    .exact YC p l _ F a hb (Fin.pre m E g)
   cases r with
   | error x =>
     cases x with
     |stop=>exact h.less O'
     | thr v =>
       have Y:v.ok t.H.objects.length:=h.2.2.2.1;have hst:t.steps<=20000:=h.2.2.2.2;dsimp only
       split
       .obtain⟨i1,i2⟩:=u.opens (d:=d+2*l.length+1) (outer:=sc) (object:=-1) (owner:=k.num) Rt (a.ext m).hi Pa O';obtain⟨j1,Z⟩:=Ta (sc:=t.next) (kind:=0) (name:=k.text) (v:=v) i1 (Y.mono i2.lo) Pa Pa;have f:=((a.ext m).opens i2).ext Z;obtain⟨g,_⟩:=p c t.next fr _ (d+2*l.length) J O j1 f U hst;exact YC p l _ F a hb (Fin.pre (m.trans (i2.trans Z)) E g)
       .exact fin _ ⟨u.less O',m,E,Y,hst⟩ hst
   | ok v =>
     have hst:t.steps<=20000:=h.2.2.2.2;dsimp only
     split;·exact YC p l _ F a hb (h.less O')
     .exact fin _ (h.less O') hst
theorem Zqj(g:DH D b)(u:n.wf .s)(hk:n.kind=12)(J:n.tree.many<=1500)(h:Inv s (d+4))(a:FAt s sc fr)(hb:b<=s.steps)(hs:s.steps<=20000):Fin s d DQ (KE D n sc fr s):=by
 obtain⟨x',O,m,y,o,E⟩:=YZ u PB;rw[Zw]at m;obtain⟨x,l,g1,rfl,rfl⟩:=SF m;have U:l.length<=2:=by rw[V2,Ym]at o;exact o
 have mx:=Ac (n:=n) (x:=x) Pt;unfold KE;rw[Ls g1,show n.kids.tail=l by rw[g1];rfl];refine YC g l _ (λk hk=>?_) a hb ((g x sc fr s _ (Wf.blk y) O' (h.less O') a hb hs).1);obtain⟨_,c',F,I⟩:=E k.tree (by rw[V2];exact List.mem_map.2 ⟨k,hk,rfl⟩);obtain⟨c,p,rfl⟩:=Lt F;have X:=Ac (n:=n) (x:=k) (by rw[g1];simp[hk]);have Y:=Ac (n:=k) (x:=c) (by rw[p];simp);exact⟨c,p,Wf.blk I,by omega⟩
theorem ZN(h:Inv s d)(hs:s.steps<=20000):Fin s d DQ (f7 VV s):=Fin.ok h (Ext.refl _) rfl hs (qC _)
theorem Zr4 {f:Nat} {p:Int} {v:LVal} (X:VH V b) (m:DH D b) (u:n.wf .s) (J:n.tree.many≤1500) (h:Inv s (d + 12000)) (a:FAt s sc fr) (hb:b≤s.steps) (hs:s.steps≤20000) (hf:20001≤s.steps + f) (o:VQ s v) :
 Fin s d DQ (D9 V D f n sc fr p v s):=by
 unfold D9;split
 .split;·exact ZN (h.less O') hs
  .exact Fin.bind (Zbc (d:=d) (h.less O') o hs) (λt _ Y j2 j3 Z _=>ZN Y Z) (Y0 _)
 .split
  .obtain⟨E,i2⟩:=(h.less (d':=d+1) O').near (Zha (n:=sc) (name:=n.text) o);exact Fin.ok E i2 rfl hs (qC _)
  .split
   .rename_i hk;have h6:=Zgy u PB;have O:=(wk h6).2.1;rw[Zw]at O;exact Zl3 m O J h a hb hs
   .split
    .rename_i hk;obtain⟨x',y',I,F,g⟩:=ws7 u PB;rcases g with g|⟨z',g,h4⟩
     .obtain⟨x,y,g1,rfl,rfl⟩:=SZ g;have U:=Ac (n:=n) (x:=y) Pt;rw[Ub g1];split;·exact(m y sc fr s d F O' (h.less O') a hb hs).1
      .rw[Y5 (show n.kids.length<=2 by rw[g1];exact Y0 2)];exact ZN (h.less O') hs
     .obtain⟨x,y,z,g1,rfl,rfl,rfl⟩:=Zp6 g;have U:=Ac (n:=n) (x:=y) Pt;have mz:=Ac (n:=n) (x:=z) Pt;rw[Ub g1,Zph g1];split;·exact(m y sc fr s d F O' (h.less O') a hb hs).1
      .split;·exact ZN (h.less O') hs
       .exact(m z sc fr s d h4 O' (h.less O') a hb hs).1
    .split
     .rename_i hk;obtain⟨x',y',I,F,g⟩:=ws8 u (by rw[Z7];exact .inl hk);obtain⟨x,y,g1,rfl,rfl⟩:=SZ I;exact Zd7 X m g1 F g J f s hf (h.less O') a hb hs
     .split
      .rename_i hk;obtain⟨x',y',I,F,g⟩:=ws8 u (by rw[Z7];exact .inr hk);obtain⟨x,y,g1,rfl,rfl⟩:=SZ I;have U:=Ac (n:=n) (x:=y) Pt;rw[Ub g1];split
       .rename_i h5;have hr:=o.2.2.2.2 h5;obtain⟨E,i2⟩:=h.opens (d:=d+11999) (outer:=sc) (object:=v.n) (owner:=-2) Rt a.hi O' hr.2;exact Fin.pre i2 rfl ((m y s.next fr _ d g O' (E.less O') (a.opens i2) hb hs).1)
       .exact Fin.raise (h.less O') (Ext.refl _) rfl hs Ga.2.1
      .split;·exact Fin.ok (h.less O') (Ext.refl _) rfl hs o
       .split;·exact Fin.thr (h.less O') (Ext.refl _) rfl hs o
        .split
         .rename_i hk;exact Zqj m u hk J (h.less O') a hb hs
         .split
          .obtain⟨E,i2⟩:=Inv.turn (k:=s.steps) (c:=s.calls) (v:=v) (d':=d) h (Int.le_refl _) h.steps.2 h.calls o O';exact Fin.ok E i2 rfl hs (qC _)
          .exact ZN (h.less O') hs
theorem Zqk(u:VH V b)(g:n.wf .s)(E:n.tree.many<=1500)(h:Inv s d)(a:FAt s sc fr)(hb:b<=s.steps)(hs:s.steps<=20000) :
 Fin s d VQ ((if n.kids.isEmpty=true∨n.kind=5∨n.kind=6∨n.kind=12∨n.kind=8 then f7 LVal.zero else V (n.kid 0) sc fr) s):=by
 split;·exact Fin.ok h (Ext.refl _) rfl hs (qC _)
 .rename_i hk;have F:=Zk2 g;rw[Z7]at F;have m:∃x' p,n.tree.kids=x'::p∧Wf .v [x']:=by
   have o:n.tree.kids≠[]:=λe=>hk (.inl (by rw[YF e];rfl));by_cases I:n.kind=2∨n.kind=3∨n.kind=4
   .rcases(ws2 g (by rw[Z7];exact I)).2 with e|⟨x,e,w⟩;·exact absurd e o
    .exact⟨x,[],e,w⟩
   .by_cases J:n.kind=7
    .obtain⟨x,y,w,_,e⟩:=ws7 g (by rw[Z7];exact J);rcases e with e|⟨z,e,_⟩;·exact⟨x,_,e,w⟩
     .exact⟨x,_,e,w⟩
    .by_cases O:n.kind=9
     .obtain⟨x,y,e,w,_⟩:=ws8 g (by rw[Z7];exact .inr O);exact⟨x,_,e,w⟩
     .by_cases U:n.kind=10∨n.kind=11
      .rcases XV g (by rw[Z7];exact U)with e|⟨x,e,w⟩;·exact absurd e.1 o
       .exact⟨x,_,e,w⟩
      .by_cases X:n.kind=15
       .obtain⟨x,e,w⟩:=X7 g (by rw[Z7];exact X);exact⟨x,_,e,w⟩
       .exact absurd (Aag g Qw) o
  obtain⟨x',p,e,w⟩:=m;rw[Zw]at e;obtain⟨x,l,g1,rfl,rfl⟩:=SF e;rw[Ls g1];exact u.at Pt w E h a hb hs
theorem Zc2:∀f:Nat,VH (R9 f).1 (20001-f)∧DH (R9 f).2 (20001-f)
 |0=>⟨λn sc fr s d _ _ _ _ hb hs=>by simp at hb;omega,λn sc fr s d _ _ _ _ hb hs=>by simp at hb;omega⟩
 | f + 1 => by
   obtain⟨p,F⟩:=Zc2 f;refine⟨λn sc fr s d g m h a hb hs=>?_,λn sc fr s d g m h a hb hs=>?_⟩;·exact Zgm h a hs λt y o J E=>Zl6 p F g m (y.less O') o O' E
   .refine Zgm h a hs λt y o J E=>?_;refine Fin.bind (Zqk p g m y o O' E) (λu v O I Y U X=>?_) O';have:=I.steps;exact Zr4 p F g m (O.less O') (o.ext I) O' U O' X
end
section
variable {n:NT}{s:MSt}{d:Nat}
theorem Zl2:Inv MSt.new 20000 where
 wf:=λi c h=>by simp[MSt.new]at h
 own:=rfl
 obj:=λo h=>by cases h
 scp:=λo h=>by cases h
 clo:=λo h=>by cases h
 last:=qC _
 calls:=by decide
 steps:=by decide
 szO:=by decide
 szS:=by decide
 szC:=by decide
 szL:=by decide
 szN:=by decide
def Se:MSt:=(((((MSt.new.object 0).object 1).put 0 Sd (.ref 1) false).object 2).put 0 SP (.ref 2) false)
theorem Zi1:Inv Se 19995∧Se.H.objects.length=3∧Se.H.scopes=[]∧Se.steps=0∧Se.calls=0:=by
 obtain⟨m,a2⟩:=Zl2.object (d:=19999) (code:=0) Pa Pa;obtain⟨b1,b2⟩:=m.object (d:=19998) (code:=1) Pa Pa;have hp:(LVal.ref 1).ok ((MSt.new.object 0).object 1).H.objects.length:=N' Pa Pa;obtain⟨c1,c2⟩:=zq (d:=19997) (o:=0) (name:=Sd) (v:=.ref 1) (fx:=false) b1 hp;have p:(((MSt.new.object 0).object 1).put 0 Sd (.ref 1) false).H.objects.length=2:=(Vh hp).lo;obtain⟨u,F⟩:=c1.object (d:=19996) (code:=2) Pa Pa
 have g:((((MSt.new.object 0).object 1).put 0 Sd (.ref 1) false).object 2).H.objects.length=3:=by
  show((((MSt.new.object 0).object 1).put 0 Sd (.ref 1) false).H.objects++_).length=3;rw[Yi,p];rfl
 have hq:(LVal.ref 2).ok ((((MSt.new.object 0).object 1).put 0 Sd (.ref 1) false).object 2).H.objects.length:=N' Pa (by rw[g];decide);obtain⟨y,I⟩:=zq (d:=19995) (o:=0) (name:=SP) (v:=.ref 2) (fx:=false) u hq;refine⟨y,(Vh hq).lo.trans g,?_,rfl,rfl⟩;have:=(Vh (H:=((((MSt.new.object 0).object 1).put 0 Sd (.ref 1) false).object 2).H) (n:=0) (name:=SP) (fixed:=false) hq).ls;have E:=(Vh (H:=((MSt.new.object 0).object 1).H) (n:=0) (name:=Sd) (fixed:=false) hp).ls;refine List.length_eq_zero_iff.1 (this.trans ?_);exact E
def zg:MSt:={(Se.opens (-1) 0 (-1)).opens 0 (-1) 0 with glob:=0,outer:=0,top:=1}
theorem Zbe:Inv zg 19993∧FAt zg 1 ⟨s.calls==0,0⟩∧zg.steps=0∧zg.calls=0:=by
 obtain⟨p,E,o,u,h5⟩:=Zi1;have z:Se.H.scopes.length=0:=by rw[o];rfl
 obtain⟨y,i2⟩:=p.opens (d:=19994) (outer:=-1) (object:=0) (owner:=-1) Pa O' Pa O';have z2:(Se.opens (-1) 0 (-1)).H.scopes.length=1:=by simp[MSt.opens,o]
 obtain⟨g,F⟩:=y.opens (d:=19993) (outer:=0) (object:=-1) (owner:=0) Pa O' Pa O';have m:zg.H.scopes=[⟨-1,0,[]⟩,⟨0,-1,[]⟩]:=by
  show(Se.H.scopes++_)++_=_;rw[o];rfl
 refine⟨⟨g.wf,g.own,g.obj,g.scp,g.clo,g.last,g.calls,g.steps,g.szO,g.szS,g.szC,g.szL,g.szN⟩,⟨⟨rfl,rfl,rfl,?_,?_,?_⟩,by decide,?_,?_,by show(0:Int)<=0;decide⟩,u,h5⟩
 .show 0<Se.H.objects.length;omega
 .rw[m];decide
 .rw[m];exact⟨_,rfl,rfl⟩
 .rw[m];decide
 .refine .up (c:=⟨0,-1,[]⟩) ?_ .refl;unfold LHeap.scope?;rw[Y3 Pa,m];rfl
theorem Zeh(hst:n.stm)(O:n.tree.many<=1500):Inv (SD n) 0∧FAt (SD n) 1 ⟨n.strict,0⟩∧(SD n).steps=0∧(SD n).calls=0:=by
 have hq:=Hv (n:=n);have l1:=VI (n:=n);have l2:=UW (n:=n);have l3:=VP (n:=n);obtain⟨U,m,X,Y⟩:=Zbe (s:=Se);have Z:FAt zg 1 ⟨n.strict,0⟩:=⟨m.root,m.lo,m.hi,m.anc,m.vlo⟩
 obtain⟨E,i2⟩:=V0 (λ(s:MSt) (t:ByteArray)=>if s.H.has 0 t then s else s.put 0 t LVal.zero true) 1 zg (λ_=>True) (λs d b _ _ h=>by
  split;·exact⟨h.less O',Ext.refl _⟩
  .exact zq h (qC _)) n.vars zg 18000 (λ_ _=>trivial) (Ext.refl _) (U.less O')
 have i3:=WK (λ(s:MSt) (t:ByteArray)=>if s.H.has 0 t then s else s.put 0 t LVal.zero true) (λs b=>by split<;>exact⟨rfl,rfl⟩) n.vars zg;obtain⟨o,F⟩:∃o,o=n.vars.foldl (λ(s:MSt) (t:ByteArray)=>if s.H.has 0 t then s else s.put 0 t LVal.zero true) zg:=⟨_,rfl⟩
 have e:SD n=(o.lets n.lets 1).funcs (λs _=>s) (λs t v=>s.put 0 t v true) n.funcs 1 ⟨n.strict,0⟩:=by rw[F];rfl
 rw[<-F]at E i2 i3;obtain⟨j1,j2⟩:=TC (l:=n.lets) (sc:=1) (d:=16000) (E.less O');have y:=(Z.ext i2).ext j2
 obtain⟨k1,k2⟩:=X1 (p:=λs _=>s) (g:=λs t v=>s.put 0 t v true) (d:=0) (l:=n.funcs) (sc:=1) (fr:=⟨n.strict,0⟩) (j1.less O') (TK hst O) y.lo y.hi
  (λu e x _ hi=>⟨hi.less O',Ext.refl _⟩) (λu e x v _ hi hv=>zq hi hv)
 have I:=Z6s (s:=o.lets n.lets 1) (p:=λs _=>s) (g:=λs t v=>s.put 0 t v true) (l:=n.funcs) (sc:=1) (fr:=⟨n.strict,0⟩) (λ_ _=>⟨rfl,rfl⟩) (λ_ _ _=>⟨rfl,rfl⟩);have J:=WH (s:=o) (l:=n.lets) (sc:=1);rw[e];exact⟨k1,y.ext k2,(I.2.trans (J.2.trans i3.2)).trans X,(I.1.trans (J.1.trans i3.1)).trans Y⟩
theorem Zrq(hst:n.stm)(g:n.tree.many<=1500):Fin (SD n) 0 DQ (p' (R9 T4).2 1 ⟨n.strict,0⟩ n.kids (SD n)):=by
 obtain⟨o,p,m,u⟩:=Zeh hst g;exact Vj (Zc2 T4).2 n.kids _ (TG hst g) o p (by rw[m];decide) (by rw[m];decide)
theorem Zff(hst:n.stm)(o:n.tree.many<=1500):((ow n).code=3↔(ow n).steps=20001)∧0<=(ow n).steps∧(ow n).steps<=20001∧1<=(ow n).code∧(ow n).code<=3:=by
 obtain⟨m,p,u,g⟩:=Zrq hst o;have h5:=m.steps;unfold ow;obtain⟨t,ht⟩:=zX (p' (R9 T4).2 1 ⟨n.strict,0⟩ n.kids (SD n))
 rw[<-ht]at m p u g h5 ⊢;obtain⟨t,r⟩:=t;have lit:¬(1:Int)=3∧¬(2:Int)=3∧(1:Int)<=1∧(1:Int)<=3∧(1:Int)<=2∧(2:Int)<=3∧(3:Int)<=3:=Pa
 cases r with
 | ok v =>
   have y:t.steps<=20000:=g.2;exact⟨⟨λe=>absurd e lit.1,λe=>by have E:t.steps=20001:=e;omega⟩,h5.1,h5.2,lit.2.2.1,lit.2.2.2.1⟩
 | error x =>
   cases x with
   |stop=>exact⟨⟨λ_=>g,λ_=>rfl⟩,h5.1,h5.2,lit.2.2.2.1,lit.2.2.2.2.2.2⟩
   | thr v =>
     have y:t.steps<=20000:=g.2;exact⟨⟨λe=>absurd e lit.2.1,λe=>by have E:t.steps=20001:=e;omega⟩,h5.1,h5.2,lit.2.2.2.2.1,lit.2.2.2.2.2.1⟩
end
end Go.Proofs.YtjikfacdcdiddaaGreatDoor
namespace Go.Proofs.YtjikfacdcdiddaaGreatDoor
open Go Go.RowKit Go.Maps
theorem Zok(w:World)(s:ByteArray)(g:s.size<=maxLen)(c0:Int)(hc:(SR Zte).atKey (.string s.data.toList) (.lit (.int .i64 0))=.lit (.int .i64 c0)) :
 Calls Tryz.prog 150 #[.string s] w λe w'=>e=.returned (vI c0)∧Below w.heap.size w w':=by
 have mm:=@run_makeMap Tryz.prog;have I:=World.ownsMap_made (H:=Unit) w Tryz.prog 9 (plainElem Tryz.prog 3);have m:Below w.heap.size w (w.alloc (.map #[] 0)):=(Y2 _ _).alloc (Y0 _) _;have HL:=lh g;have J:=lh hc;clear g hc;go_enter Tryz.func150,Tryz.ntmps150
 go_wp2_with (first|(refine Zo _ rfl _ _ _ 237 rfl 9 3 Tryz.keyedS Tryz.underlying237 _ _ 0 _ rfl I Pc _ _ _ rfl rfl (Yo Yj Pa) _ [] (plainElem_int Yk Pa) ?_;intro w1 O U)|(refine Zo _ rfl _ _ _ 237 rfl 9 3 Tryz.keyedS Tryz.underlying237 _ _ 1 _ rfl O Pc _ _ _ rfl rfl (Yo Yj Pa) _ [] (plainElem_int Yk Pa) ?_;intro w2 X Y)|(refine Zo _ rfl _ _ _ 237 rfl 9 3 Tryz.keyedS Tryz.underlying237 _ _ 2 _ rfl X Pc _ _ _ rfl rfl (Yo Yj Pa) _ [] (plainElem_int Yk Pa) ?_;intro w3 Z g3)|(refine Zo _ rfl _ _ _ 237 rfl 9 3 Tryz.keyedS Tryz.underlying237 _ _ 3 _ rfl Z Pc _ _ _ rfl rfl (Yo Yj Pa) _ [] (plainElem_int Yk Pa) ?_;intro w4 h4 g4)|(refine Zo _ rfl _ _ _ 237 rfl 9 3 Tryz.keyedS Tryz.underlying237 _ _ 4 _ rfl h4 Pc _ _ _ rfl rfl (Yo Yj Pa) _ [] (plainElem_int Yk Pa) ?_;intro w5 h5 g5)|(refine Zo _ rfl _ _ _ 237 rfl 9 3 Tryz.keyedS Tryz.underlying237 _ _ 5 _ rfl h5 Pc _ _ _ rfl rfl (Yo Yj Pa) _ [] (plainElem_int Yk Pa) ?_;intro w6 h6 g6)|(refine Zo _ rfl _ _ _ 237 rfl 9 3 Tryz.keyedS Tryz.underlying237 _ _ 6 _ rfl h6 Pc _ _ _ rfl rfl (Yo Yj Pa) _ [] (plainElem_int Yk Pa) ?_;intro w7 h7 g7)|(at_lookup;refine wpList_lookup_own_int _ rfl _ _ 237 rfl 9 3 .i64 Tryz.keyedS Tryz.underlying237 Yk (Tryz.zeroI _) _ 7 _ rfl h7 _ _ rfl (Yo Yj HL.o) ?_;intro c fU Lz))
 go_ret;have e:=J.o.symm.trans fU;obtain rfl:c0=c:=by
  have:(DataW.lit (.int .i64 c0):DataW Unit)=.lit (.int .i64 c):=e;simpa using this
 have s0:w.heap.size<=(w.alloc (.map #[] 0)).heap.size:=m.size;have o:=So m U (Y0 _) s0;have p:=So o Y (Y0 _) o.size;have u:=So p g3 (Y0 _) p.size;have y:=So u g4 (Y0 _) u.size;have E:=So y g5 (Y0 _) y.size;have F:=So E g6 (Y0 _) E.size;exact⟨rfl,So F g7 (Y0 _) F.size⟩
theorem Zrs(w:World)(s:ByteArray)(hs:UJ s≠0):Calls Tryz.prog 150 #[.string s] w λe w'=>e=.returned (vI (UJ s))∧Below w.heap.size w w':=by
 have g:s=BN∨s=TZ∨s=T8∨s=TQ∨s=Tp∨s=T2∨s=T7:=by
  exact Z'
 rcases g with rfl|rfl|rfl|rfl|rfl|rfl|rfl;all_goals exact Zok w _ Pa _ Pb
end Go.Proofs.YtjikfacdcdiddaaGreatDoor
namespace Go.Proofs.YtjikfacdcdiddaaGreatDoor
open Go Go.RowKit
def yS(lv:Nat)(rb:Nat):Array Value:=#[vP rb,vI lv]
theorem Zhg{lv:Nat}{ts:List Tok}(h:∀(i:Nat) (x:ByteArray),(ky lv)[i]?=some x->aa x ts=false):wK lv ts=0:=by
 match lv with
 |0=>have g:=h 0 BN rfl;simp[wK,g]
 |1=>have g:=h 0 TZ rfl;simp[wK,g]
 |2=>have g:=h 0 T8 rfl;simp[wK,g]
 |3=>have g:=h 0 TQ rfl;simp[wK,g]
 |4=>have g:=h 0 Tp rfl;have m:=h 1 T2 rfl;simp[wK,g,m]
 |5=>have g:=h 0 T7 rfl;simp[wK,g]
 |n+6=>rfl
theorem Zio{lv:Nat}{ts:List Tok}{k:Nat}{x:ByteArray}(hk:(ky lv)[k]?=some x)(hx:aa x ts=true)(h:∀(i:Nat) (y:ByteArray),i<k->(ky lv)[i]?=some y->aa y ts=false):wK lv ts=UJ x∧UJ x≠0:=by
 match lv with
 | 0 =>
   match k with
   | 0 => obtain rfl : BN = x := by simpa [ky] using hk
          exact⟨by simp[wK,hx];decide,by decide⟩
   |k+1=>simp[ky]at hk
 | 1 =>
   match k with
   | 0 => obtain rfl : TZ = x := by simpa [ky] using hk
          exact⟨by simp[wK,hx];decide,by decide⟩
   |k+1=>simp[ky]at hk
 | 2 =>
   match k with
   | 0 => obtain rfl : T8 = x := by simpa [ky] using hk
          exact⟨by simp[wK,hx];decide,by decide⟩
   |k+1=>simp[ky]at hk
 | 3 =>
   match k with
   | 0 => obtain rfl : TQ = x := by simpa [ky] using hk
          exact⟨by simp[wK,hx];decide,by decide⟩
   |k+1=>simp[ky]at hk
 | 4 =>
   match k with
   | 0 => obtain rfl : Tp = x := by simpa [ky] using hk
          exact⟨by simp[wK,hx];decide,by decide⟩
   | 1 => obtain rfl : T2 = x := by simpa [ky] using hk
          have g:=h 0 Tp O' rfl;exact⟨by simp[wK,hx,g];decide,by decide⟩
   |k+2=>simp[ky]at hk
 | 5 =>
   match k with
   | 0 => obtain rfl : T7 = x := by simpa [ky] using hk
          exact⟨by simp[wK,hx];decide,by decide⟩
   |k+1=>simp[ky]at hk
 |n+6=>simp[ky]at hk
theorem Zkp(f:Nat)(o:c9 149 cQ .unary f):c9 137 (yS 6) (.bin 6) (f+1):=by
 intro w rb B d ts r u hp;have y:Z3 f .unary d ts=some r:=hp;have m:=lh (o w rb B d ts r u y);clear u hp y o;unfold cQ at m;unfold yS;go_enter Tryz.func137,Tryz.ntmps137
 go_wp2;go_step3
 go_wp2_with fail
 refine m.o.mono ?_;rcases r with⟨c,p⟩|⟨t,ts'⟩
 .rintro e w2⟨⟨b,rfl,G,I⟩,g⟩;exact⟨rfl,⟨b,rfl,G,I⟩,g⟩
 .rintro e w2⟨a,rfl,E,F,g⟩;have J:=lh E;have O:=lh F;have U:=lh g;clear E F g m;go_wp2;try rw[Exit.noGoto_ret]
  go_ret;exact⟨a,rfl,J.o,O.o,U.o⟩
theorem Zcb{P:Program}{a:Act}{w:World}{Q:Exit->Act->World->Prop}{c g:Code}(l:Nat)(J:Act->World->Prop)(μ:Act->World->Nat)(hf:findLabel c l=some (Code.skip.seq g))
 (first:(∀a w,J a w->g.wp P (Exit.jump l J Q) a w)->c.wp P (Exit.jump l J Q) a w)
 (m:∀a w,J a w->g.wp P (Exit.jump l (λa' w'=>J a' w'∧μ a' w'<μ a w) Q) a w):(Code.scope c).wp P Q a w:=
 wp_scope_jumps l J μ hf (first λa w h=>Code.wp_mono (λe a' w' hq=>by cases e<;>first|exact hq|exact⟨hq.1,hq.2.1⟩) (m a w h)) λa w h=>wp_seq (wp_skip (m a w h))
def Xm(f lv d:Nat)(w:World)(rb B:Nat)(r:Except (Int×Nat) (Tree×List Tok))(n:Nat)(a:ATree)(w':World):Prop:=
 ∃(g:Nat) (us:List Tok) (t:Tree),g<=f∧Z3 g (.binLoop lv t) d us=some r∧Got w B w' a t∧Pre w' rb B d us∧RFr w w' rb∧us.length<=n
theorem Zoq(f lv:Nat)(dR:lv<6)(hB:∀g,g<=f->c9 137 (yS (lv+1)) (.bin (lv+1)) g):c9 137 (yS lv) (.bin lv) (f+1):=by
 intro w rb B d ts r hP hp;have hw:Zr (Z3 f (.bin (lv+1)) d ts) (λx ts=>Z3 f (.binLoop lv x) d ts)=some r:=by rw[<-hp,Z3,Y3 O']
 have X:=lh hP;have Y:=lh hB;have H1:=lh hw;have l6:((lv:Int)==6)=false:=Pe
 have l0:0<=(lv:Int):=O'
 have l1:(lv:Int)<6:=O'
 have o:((lv+1:Nat):Int)=(lv:Int)+1:=O'
 clear hP hp hw hB;unfold yS;go_enter Tryz.func137,Tryz.ntmps137
 go_wp2;refine Zcb 0 (λa' w'=>∃(a:ATree) (u2 u3 u6 u7 u8 u9 Ic Id Ie If Ig Ih Ii Ij u18 Ik Il Im In Io u24 u25 Ip Iq Ir Is It Iu Iv Iw Ix Iy Iz IA IB:Value),a'={tmps:=#[vP rb,vI lv,u2,u3,.pointer none,vP a.b,u6,u7,u8,u9,Ic,Id,Ie,If,Ig,Ih,Ii,Ij,u18,Ik,Il,Im,In,Io,u24,u25,Ip,Iq,Ir,Is,It,Iu,Iv,Iw,Ix,Iy,Iz,IA,IB],defers:=[]}∧Xm f lv d w rb B r ts.length a w') (λ_ w'=>leftOf w' rb) rfl (λvi=>?_) ?_
 .have vi:=lh vi;rcases Zf H1.o with⟨⟨c,p⟩,m,rfl⟩|⟨t,us,m,h2⟩
  .have HV:=(Y.o f (Y0 _)) w rb B d _ _ X.o m;unfold yS at HV;rw[o]at HV;have HV:=lh HV;clear m o;exact Zuq
  .have HV:=(Y.o f (Y0 _)) w rb B d _ _ X.o m;unfold yS at HV;rw[o]at HV;have HV:=lh HV;have hl:=RX m;have H2:=lh h2;clear m h2 o;go_wp2_with fail
   refine HV.o.mono ?_;rintro e w2⟨a,rfl,J,O,F⟩;have hJ:Xm f lv d w rb B r ts.length a w2:=⟨f,us,t,Y0 _,H2.o,J,X.o.next O F hl,F,hl⟩
   have HJ:=lh hJ;clear J O F hl hJ;go_wp2_with fail
   go_step3
   rename_i Q1 K1 LA;refine LA _ _ (vi.o _ _ ?_);exact⟨a,_,_,_,_,_,_,_,_,_,_,_,_,_,_,_,_,_,_,_,_,_,_,_,_,_,_,_,_,_,_,_,_,_,_,_,rfl,HJ.o⟩
 .rintro a' w1⟨a,u2,u3,u6,u7,u8,u9,Ic,Id,Ie,If,Ig,Ih,Ii,Ij,u18,Ik,Il,Im,In,Io,u24,u25,Ip,Iq,Ir,Is,It,Iu,Iv,Iw,Ix,Iy,Iz,IA,IB,rfl,g,us,t,hg,hq,J,Z,hF,hl⟩;have G1:=lh J;have I:=lh Z;have F1:=lh hF;have RL:=lh Z.rd.left;have HL:=lh hl;have HQ:=lh hq;obtain⟨tb,off,cap,hR⟩:=Z.rd;obtain⟨sb,so,sc,cY,cf,gB,iZ,iF⟩:=hR.lev lv dR;have D':=lh iF;obtain⟨n,hn⟩:=zX ((ky lv).length)
  have n2:n<=2:=by rw[hn];match lv,dR with|0,_=>decide|1,_=>decide|2,_=>decide|3,_=>decide|4,_=>decide|5,_=>decide
  rw[<-hn]at gB iZ;have HN:=lh hn;have be:sb<w1.heap.size:=Nat.lt_trans cf hR.rlt;obtain⟨ab,bY⟩:=zX a.b
  rw[<-bY];have sr:=lh bY;clear J Z hF hl hR iF hn hq bY o;go_wp2_with fail
  go_loopw [5,20] (λv5 i wr=>v5=(vP ab)∧∃k:Nat,k<=n∧i=(vI k)∧Hid (∀(j:Nat) (y:ByteArray),j<k->(ky lv)[j]?=some y->aa y us=false)∧Hid (Below w1.heap.size w1 wr)) (λ_ i _=>n-(intOf i).toNat)
  case atStart=>exact⟨rfl,0,Yh _,rfl,lh (λj y hj=>by omega),lh (Y2 _ _)⟩
  case round=>
   obtain⟨rfl,k,hk,rfl,NO,E⟩:=hrel;by_cases bV:k<n
   .obtain⟨x,hx⟩:∃x,(ky lv)[k]? =some x:=⟨_,Y6 Pu⟩
    have cx:=(E.o.cell (p:=⟨sb,so+k,none⟩) be).trans (D'.o k x hx);have HX:=lh hx;have R2:=I.o.rd.below E.o;clear hx;by_cases hs:aa x us=true
    .have aA:=Zio HX.o hs (λj y hj hy=>NO.o j y hj hy);have HT:=lh (wR wr rb us d x R2 hs);have HS:=lh hs;have LT:=lh aA;have fW:=Zm hs;have kH:=lh fW;clear hs R2 aA fW;cases g with
     |zero=>cases HQ.o
     |succ g=>
     have hq:Zr (Z3 g (.bin (lv+1)) d us.tail) (λy ts'=>Z3 g (.binLoop lv (.mk (wK lv us) ByteArray.empty 0 [t,y])) d ts')=some r:=by
      have hq:=HQ.o;rw[Z3,Y3 (by rw[LT.o.1];exact LT.o.2)]at hq;exact hq
     rw[LT.o.1]at hq;have cC:=lh hq;clear hq;go_wp2_with fail
     refine HT.o.mono ?_;rintro e w2⟨rfl,O,F⟩;have P2:=lh ((I.o.below E.o).tail O F);have rq:=lh ((RFr.below (rb:=rb) E.o).trans F);have Ea:=lh (Zrs w2 x LT.o.2);obtain⟨U,xI⟩:=zX (UJ x)
     rw[<-xI]at Ea;have Eb:=lh xI;clear O F HT xI;go_wp2_with fail
     refine Ea.o.mono ?_;rintro e w3⟨rfl,aB⟩;have P3:=lh (P2.o.below aB);have Cc:=lh (rq.o.trans (RFr.below (rb:=rb) aB));have o:((lv+1:Nat):Int)=(lv:Int)+1:=O'
     clear aB Ea;rcases Zf cC.o with⟨⟨c,p⟩,m,rfl⟩|⟨y,vs,m,h4⟩
     .have HV:=(Y.o g O') w3 rb B d _ _ P3.o m;unfold yS at HV;rw[o]at HV;have HV:=lh HV;clear m o;go_wp2_with fail
      refine HV.o.mono ?_;rintro e u⟨⟨b,rfl,h1,h2⟩,hF⟩;exact⟨rfl,ll.pre (F1.o.trans Cc.o) (r:=.error (c,p)) ⟨⟨b,rfl,h1,h2⟩,hF⟩⟩
     .have HV:=(Y.o g O') w3 rb B d _ _ P3.o m;unfold yS at HV;rw[o]at HV;have HV:=lh HV;have nC:=RX m;have H4:=lh h4;clear m o h4;go_wp2_with fail
      refine HV.o.mono ?_;rintro e u⟨c,rfl,hC,eZ,bh⟩;have vj:=G1.o.rfr I.o.lt Cc.o;have IC:=vj.rfr I.o.lt bh;have F4:=(F1.o.trans Cc.o).trans bh;have aj:=Got.two (k:=U) (t:=⟨#[]⟩) X.o.le F4 IC (wA:=w3) (λx hx=>(vj.new x hx).2) (F1.o.trans Cc.o).size hC;have ai:Below u.heap.size u (u.alloc (.cells #[vP ab,vP c.b] 22)):=(Y2 _ _).alloc (Y0 _) _
      have ax:Below u.heap.size u ((u.alloc (.cells #[vP ab,vP c.b] 22)).alloc (.cells #[vI U,.string ⟨#[]⟩,vI 0,.slice (some ⟨u.heap.size,0,none⟩) 2 2] 42)):=ai.alloc Pg _;have F6:=lh (F4.trans (RFr.below (rb:=rb) ax));have P6:=lh (((P3.o.next eZ bh nC).below ax));have ca:=lh aj;have zc:=lh nC;clear hC eZ bh IC vj F4 HV ai ax aj nC;go_wp2_with fail
      refine(Zv _ rb U ⟨#[]⟩ _ 2 2).mono ?_;rintro e w7⟨rfl,rfl⟩;go_wp2;go_step3
      refine⟨rfl,⟨.mk (u.heap.size+1) (.slice (some ⟨u.heap.size,0,none⟩) 2 2) U ⟨#[]⟩ 0 [a,c],_,_,_,_,_,_,_,_,_,_,_,_,_,_,_,_,_,_,_,_,_,_,_,_,_,_,_,_,_,_,_,_,_,_,_,rfl,g,vs,.mk U ByteArray.empty 0 [t,y],by omega,?_,?_,P6.o,F6.o,?_⟩,?_⟩;·rw[Eb.o];exact H4.o
      .rw[sr.o];exact ca.o
      .have:=zc.o;have:=HL.o;have:=Zu us;omega
      .rw[P6.o.rd.left,RL.o];have:=zc.o;have:=kH.o;omega
    .have dZ:aa x us=false:=by simpa using hs
     have HT:=lh (xk wr rb us d x R2 dZ);have HS:=lh dZ;clear hs dZ R2;go_wp2_with fail
     refine HT.o.mono ?_;rintro e w2⟨rfl,au⟩;have B2:=lh au;clear au;go_wp2;go_roundw
     case rel=>exact⟨rfl,k+1,by omega,by go_num,lh (λj y hj hy=>by
      by_cases e:j=k;·subst e;obtain rfl:=Yc (HX.o.symm.trans hy);exact HS.o
      .exact NO.o j y O' hy),lh (E.o.trans (B2.o.mono E.o.size))⟩
     case measure=>simp[intOf];omega
   .have cB:k=n:=by omega
    have LC:Hid (wK lv us=0):=lh (Zhg λi y hi=>NO.o i y (by rw[cB,HN.o];exact(List.getElem?_eq_some_iff.1 hi).1) hi);clear cB;go_wp2_with fail
    simp only[Exit.jump];go_ret;cases g with
    |zero=>cases HQ.o
    | succ g =>
      have hq:=HQ.o;rw[Z3,Y5 LC.o]at hq;obtain rfl:=Yc hq;rw[sr.o];exact⟨a,rfl,G1.o.rfr I.o.lt (RFr.below E.o),I.o.rd.below E.o,F1.o.trans (RFr.below E.o)⟩
end Go.Proofs.YtjikfacdcdiddaaGreatDoor
namespace Go.Proofs.YtjikfacdcdiddaaGreatDoor
open Go
section
variable {P:Program}{ah:Array Oper}{md:Region.Mode}
def VC(P:Program)(ah:Array Oper)(K:Act->Prop):List Oper->Act->Prop
 | [],a=>K a
 |o::r,a=>∃v,YieldsIf P ah (λ_=>True) o v a∧VC P ah K r (a.put o.dst v)
theorem Ziu{K:Act->Prop}{o:Oper}{r:List Oper}{a:Act}(v:Value)
 (g:Region.wanted o (yielded ah a.tmps)=true)(m:∀w',True->(execOp a.eval o).run P w'=.ok (.value v) w')(h:VC P ah K r (a.put o.dst v)):VC P ah K (o::r) a:=
 ⟨v,.inl ⟨g,m⟩,h⟩
def Znk(md:Region.Mode)(ah:Array Oper):List Nat->Array Bool->Bool
 | [],_=>true
 |i::r,g=>(Region.ready md ah g).contains i&&Region.free md ah g i&&Znk md ah r (g.setIfInBounds i true)
def Yy(md:Region.Mode)(ah:Array Oper)(pre L g:List Nat):Bool:=
 Region.noSelect ah&&Oy md ah g&&U9 md ah g (((List.range ah.size).map λj=>!g.contains j).toArray)&&Znk md ah pre (tm g (Array.replicate ah.size false))&&
  decide (pre.length+L.length+g.length=ah.size)&&(pre.all λi=>decide (i<ah.size))&&((List.range ah.size).all λj=>pre.contains j||L.contains j||g.contains j)
theorem Uq{m:Array Bool}{i j:Nat}(h:i<m.size):(m.setIfInBounds i true).getD j false=if i=j then true else m.getD j false:=by
 by_cases e:i=j;·subst e;simp[h]
 .rw[getD_set_ne false e,Y3 e]
theorem Zkn {Q:Exit→Act→World→Prop} {L:List Nat} (Inv:Array Bool→Act→World→Prop) (U:Xn md ah=true)
 (X:∀g i a w,g.size=ah.size->i∈L->i<ah.size->g.getD i false=false->(∀j,waits md ah i j=true->g.getD j false=true)->Inv g a w->wpOp P ah Q i (λa' w'=>Inv (g.setIfInBounds i true) a' w') a w)
 (J:∀g a w,(∀j,j<ah.size->g.getD j false=true)->Inv g a w->Q .normal a w) :
 ∀(k:Nat) (g:Array Bool) (a:Act) (w:World),g.size=ah.size->(∀j,j<ah.size->g.getD j false=true∨j∈L)->(L.filter λj=>!g.getD j true).length<=k->Inv g a w->wpAnyH P md ah Q (λ_=>True) k g a w:=by
 have done:∀g:Array Bool,g.size=ah.size->Region.ready md ah g=[]->∀j,j<ah.size->g.getD j false=true:=by
  intro g hs hr j m;cases h:g.getD j false with
  |true=>rfl
  |false=>exact absurd hr (Z8l U hs j m h)
 intro k;induction k with
 | zero =>
   intro g a w hs u hk hI;have hr:Region.ready md ah g=[]:=by
    refine List.eq_nil_iff_forall_not_mem.2 λi hi=>?_;obtain⟨p,o,ho,_⟩:=mem_ready.1 hi;have y:i<ah.size:=(Y1.1 ho).1;have E:i∈L:=(u i y).resolve_left (by rw[<-Zca O',p];simp);have:i∈L.filter λj=>!g.getD j true:=List.mem_filter.2 ⟨E,by rw[p];rfl⟩;have:=List.length_pos_of_mem this;omega
   exact⟨hr,J g a w (done g hs hr) hI⟩
 | succ k Y =>
   intro g a w hs u hk hI;refine⟨λhr=>J g a w (done g hs hr) hI,λi hi=>?_⟩;obtain⟨p,o,ho,Z⟩:=mem_ready.1 hi;have y:i<ah.size:=(Y1.1 ho).1;have O:g.getD i false=false:=by rw[<-Zca O'];exact p
   have E:i∈L:=(u i y).resolve_left (by rw[O];simp);refine wpOp_mono (λa' w' h=>⟨trivial,Y _ a' w' (by simpa using hs) (λj m=>?_) ?_ h⟩) (X g i a w hs E y O (λj m=>Z8c m hi) hI)
   .rw[Uq O'];by_cases e:i=j;·rw[Y5 e];exact .inl rfl
    .rw[Y3 e];exact u j m
   ·have aA:(L.filter fun j=>!(g.setIfInBounds i true).getD j true).length < (L.filter fun j=>!g.getD j true).length:=by
     have sub:∀l:List Nat,(l.filter λj=>!(g.setIfInBounds i true).getD j true).length<=(l.filter λj=>!g.getD j true).length∧(i∈l->(l.filter λj=>!(g.setIfInBounds i true).getD j true).length<(l.filter λj=>!g.getD j true).length):=by
      intro l;induction l with
      |nil=>exact⟨Y0 _,λh=>by cases h⟩
      | cons x l F =>
        by_cases e:i=x
        .subst e;have I:(g.setIfInBounds i true).getD i true=true:=by simp[show i<g.size by omega]
         simp only[List.filter_cons,I,p,Bool.not_true,Bool.not_false,if_true,Bool.false_eq_true,if_false,List.length_cons];exact⟨by omega,λ_=>by omega⟩
        .have I:(g.setIfInBounds i true).getD x true=g.getD x true:=getD_set_ne true e;simp only[List.filter_cons,I];cases g.getD x true
         .simp only[Bool.not_false,if_true,List.length_cons];exact⟨by omega,λh=>by have:=F.2 Qc;omega⟩
         .simp only[Bool.not_true,Bool.false_eq_true,if_false];exact⟨F.1,λh=>F.2 Qc⟩
     exact(sub L).2 E
    omega
theorem Zcy{Q:Exit->Act->World->Prop}(m:Region.noSelect ah=true)(o:∀c a d v w,Q (.panic c) (Act.put a d v) w->Q (.panic c) a w){w:World}{fuel:Nat} :
 ∀(l:List Nat) (g:Array Bool) (a:Act),Znk md ah l g=true->(∀i∈l,i<ah.size)->VC P ah (λa'=>wpAnyH P md ah Q (λ_=>True) fuel (tm l g) a' w) (l.filterMap (ah[·]?)) a->wpAnyH P md ah Q (λ_=>True) (fuel+l.length) g a w
 | [],g,a,_,_,h=>h
 | i :: l, g, a, p, u, h => by
   simp only[Znk,Bool.and_eq_true]at p;obtain⟨⟨hr,hf⟩,y⟩:=p;have E:=u i (List.mem_cons_self ..);have ho:ah[i]?=some ah[i]:=Array.getElem?_eq_getElem E;rw[List.filterMap_cons,ho]at h;obtain⟨v,F,I⟩:=h;have e:fuel+(i::l).length=(fuel+l.length)+1:=Pe
   rw[e];exact wpAnyH_take ho m hf hr (λc a w=>o c a _ _ w) F trivial (Zcy m o l _ _ y (λj J=>u j (List.mem_cons_of_mem _ J)) I)
theorem Zby{Q:Exit->Act->World->Prop}{id:Nat}{l:List Oper}{a:Act}{w:World}(pre L ph:List Nat)(F:P.follows .mixedOrders=true)
 (E:Yy .any l.toArray pre L ph=true)(I:∀c a d v w,Q (.panic c) (Act.put a d v) w->Q (.panic c) a w)(Inv:Array Bool->Act->World->Prop)
 (J:VC P l.toArray (λa'=>Inv (tm pre (tm ph (Array.replicate l.toArray.size false))) a' w.drew) (pre.filterMap (l.toArray[·]?)) a)
 (O:∀g i a w,g.size=l.toArray.size->i∈L->i<l.toArray.size->g.getD i false=false->(∀j,waits .any l.toArray i j=true->g.getD j false=true)->Inv g a w->wpOp P l.toArray (Ends (wpList P l.toArray Q (ph.filterMap (l.toArray[·]?))) Q) i (λa' w'=>Inv (g.setIfInBounds i true) a' w') a w)
 (U:∀g a w,(∀j,j<l.toArray.size->g.getD j false=true)->Inv g a w->wpList P l.toArray Q (ph.filterMap (l.toArray[·]?)) a w):(Code.region id l.toArray true).wp P Q a w:=by
 simp only[Yy,Bool.and_eq_true,decide_eq_true_eq]at E;obtain⟨⟨⟨⟨⟨⟨X,rV⟩,rT⟩,Y⟩,aH⟩,Z⟩,Ef⟩:=E;refine wp_region_any F ?_;have j8:Xn .any l.toArray=true:=by
  cases ph with
  |nil=>simp[Oy]at rV
  |cons t r=>simp only[Oy,Bool.and_eq_true]at rV;exact rV.1.1.1
 have jz:∀t∈ph,t<l.toArray.size:=by
  exact Zty
 have be:(tm pre (tm ph (Array.replicate l.toArray.size false))).size=l.toArray.size:=by rw[ZP,ZP];simp
 have G:∀a w,Inv (tm pre (tm ph (Array.replicate l.toArray.size false))) a w->wpAnyH P .any l.toArray (Ends (wpList P l.toArray Q (ph.filterMap (l.toArray[·]?))) Q) (λ_=>True) L.length (tm pre (tm ph (Array.replicate l.toArray.size false))) a w:=λa w h=>
  Zkn (P:=P) (Q:=Ends (wpList P l.toArray Q (ph.filterMap (l.toArray[·]?))) Q) Inv j8 O U L.length _ a w be (λj y=>by
   have h1:=List.all_eq_true.1 Ef j (List.mem_range.2 y);simp only[Bool.or_eq_true,List.contains_eq_mem,decide_eq_true_eq]at h1;rcases h1 with(h1|h1)|h1;·exact .inl (Z47 h1 (by rw[ZP];simpa using y))
   .exact .inr h1
   .exact .inl (Z36 (Z47 h1 (by simpa using y)))) (List.length_filter_le _ _) h
 have mono:∀(os:List Oper) (a:Act),VC P l.toArray (λa'=>Inv (tm pre (tm ph (Array.replicate l.toArray.size false))) a' w.drew) os a->VC P l.toArray (λa'=>wpAnyH P .any l.toArray (Ends (wpList P l.toArray Q (ph.filterMap (l.toArray[·]?))) Q) (λ_=>True) L.length (tm pre (tm ph (Array.replicate l.toArray.size false))) a' w.drew) os a:=by
  intro os;induction os with
  |nil=>intro a h;exact G a w.drew h
  |cons o os ih=>intro a h;obtain⟨v,hy,h⟩:=h;exact⟨v,hy,ih _ h⟩
 have H:=Zcy (P:=P) (md:=.any) (Q:=Ends (wpList P l.toArray Q (ph.filterMap (l.toArray[·]?))) Q) X I pre _ a Y (λi hi=>by simpa using List.all_eq_true.1 Z i hi) (mono _ a J);have p:=Z9k (Q:=Q) rV (λm hs rS=>?_) (L.length+pre.length) (Array.replicate l.toArray.size false) a w.drew Pg ?_ ?_ (wpAny_of_held _ _ _ _ H);·rw[show L.length+pre.length+ph.length=l.toArray.size by omega]at p;exact p
 .exact ZK
 .intro j o _ hl;rw[Xy]at hl;cases hl
 .intro t _;exact Xy _ _
end
