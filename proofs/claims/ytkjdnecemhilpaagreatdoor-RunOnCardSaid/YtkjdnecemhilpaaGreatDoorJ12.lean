import Derived.Test.YtkjdnecemhilpaaGreatDoorJ11
set_option maxRecDepth 100000
set_option linter.all false
namespace Go.Proofs.YtkjdnecemhilpaaGreatDoor
open Go Go.RowKit Go.Proofs.Tryz Tryz
section
variable {V:VF}{D:DF}{b:Int}{n:NT}{sc:Int}{fr:Frm}{s:MSt}{d:Nat}
theorem Zho(g:VH V b):∀(l:List NT) (s:MSt),(∀x∈l,x.wf .v/\x.tree.many<=1500)->Inv s d->FAt s sc fr->b<=s.steps->s.steps<=20000->Fin s d (λt vs=>(∀v∈vs,VQ t v)/\vs.length=l.length) (Uq V sc fr l s)
 | [],s,_,h,a,hb,hs=>Fin.ok h (Ext.refl _) rfl hs ⟨(λv o=>by cases o),rfl⟩
 |x::l,s,hl,h,a,hb,hs=>by
   refine Fin.bind ((g x sc fr s d (hl x Qm).1 (hl x Qm).2 h a hb hs).1) (λt v p j2 X F I=>?_) (Y0 _);refine Fin.bind (Zho g l t (λy hy=>hl y SE) p (a.ext j2) Q5 F) (λu vs J O Y U m=>?_) (Y0 _);refine Fin.ok J (Ext.refl _) rfl U ⟨λw hw=>?_,by rw[List.length_cons,List.length_cons,m.2]⟩;rcases List.mem_cons.1 hw with rfl|hw;·exact VQ.ext I O
   .exact m.1 w hw
theorem Zdz(g:VH V b){o:Int}:∀(l:List NT) (s:MSt),(∀k∈l,∃x,k.kids=[x]/\x.wf .v/\x.tree.many<=1500)->Inv s (d+l.length)->FAt s sc fr->b<=s.steps->s.steps<=20000->Fin s d (λ_ _=>True) (Vh V sc fr o l s)
 | [],s,_,h,a,hb,hs=>Fin.ok (h.less Qm) (Ext.refl _) rfl hs trivial
 |k::l,s,hl,h,a,hb,hs=>by
   obtain⟨x,hx,hw,p⟩:=hl k Qm;unfold Vh;rw[Q' hx];refine Fin.bind ((g x sc fr s _ hw p h a hb hs).1) (λt v u m O F I=>?_) Qe;obtain⟨J,i2⟩:=CC (d:=d+l.length) (o:=o) (name:=k.text) (fx:=false) (u.less RI) I;exact Fin.pre i2 rfl (Zdz g l _ (λy hy=>hl y SE) J (a.ext (m.trans i2)) (by have:=m.steps;have:=i2.steps;omega) F)
theorem WR(g:DH D b):∀(l:List NT) (s:MSt),(∀x∈l,x.wf .s/\x.tree.many<=1500)->Inv s d->FAt s sc fr->b<=s.steps->s.steps<=20000->Fin s d DQ (pZ D sc fr l s)
 | [],s,_,h,a,hb,hs=>Fin.ok h (Ext.refl _) rfl hs (sP _)
 |x::l,s,hl,h,a,hb,hs=>by
   refine Fin.bind ((g x sc fr s d (hl x Qm).1 (hl x Qm).2 h a hb hs).1) (λt r m j2 u o p=>?_) (Y0 _);split;·exact Fin.ok m (Ext.refl _) rfl o p
   .exact WR g l t (λy hy=>hl y SE) m (a.ext j2) Q5 o
theorem Wd(h:n.stm)(g:n.tree.many<=1500):∀x∈n.kids,x.wf .s/\x.tree.many<=1500:=λx hx=>⟨Zkp h hx,by have:=Dv hx;omega⟩
def Zcd{c:Clo}{vs:List LVal}(h:Inv s (d+17000))(r:Root s)(hc:Lp c.node/\0<=c.scope/\c.scope<s.H.scopes.length)(m:∀v∈vs,VQ s v)(hl:vs.length<=1500) :
 Inv (s.enterS c vs) d/\Ext s (s.enterS c vs)/\FAt (s.enterS c vs) s.next ⟨c.strict,s.next⟩:=by
 obtain⟨p,q,J,g2,g3,g4,g5,g6⟩:=Z86 hc.1;have hq:=Td (n:=q);have l1:=Z8a (n:=q);have l2:=Z73 (n:=q);have l3:=Z6u (n:=q);unfold MSt.enterS;rw[Q' J,Wo J];dsimp only
 obtain⟨a1,a2⟩:=h.opens (d:=d+16999) (outer:=c.scope) (object:=-1) (owner:=c.node.num) Qe hc.2.2 Qg Qe;have aG:(s.opens c.scope (-1) c.node.num).H.scopes.length=s.H.scopes.length+1:=by simp[MSt.opens]
 obtain⟨b1,b2⟩:=Z8q (sc:=s.next) p.kids vs _ (d+15499) (a1.less Qe) (λv F=>VQ.ext (m v F) a2);have I:=a2.trans b2;obtain⟨o,dp⟩:=zX (MSt.params s.next p.kids vs (s.opens c.scope (-1) c.node.num))
 rw[<-dp]at b1 b2 I ⊢;obtain⟨y,O⟩:=zX ((if(o.H.has s.next Zc||q.hasName Zc)=true then o else o.argsObj s.next vs))
 rw[<-O];have IS:Inv y (d+13996)/\Ext o y:=by
  rw[O];split;·exact⟨b1.less Qe,Ext.refl _⟩
  .exact Zaw (b1.less Qe) (λv F=>VQ.ext (m v F) I) Qe
 obtain⟨c1,c2⟩:=IS;have x3:=I.trans c2;obtain⟨d1,U⟩:=Zhj (l:=q.vars) (sc:=s.next) (d:=d+12496) (c1.less Qe);obtain⟨e1,X⟩:=Wi (l:=q.lets) (sc:=s.next) (d:=d+10996) (d1.less Qe);have x5:=(x3.trans U).trans X;have ba:s.next<((y.vars q.vars s.next).lets q.lets s.next).H.scopes.length:=by
  have h1:=((b2.trans c2).trans U).trans X;have h2:=h1.ls;show(s.H.scopes.length:Int)<_;omega
 obtain⟨f1,Y⟩:=Z6m (p:=λs _=>s) (g:=λt x v=>t.bindTo s.next x v) (s:=(y.vars q.vars s.next).lets q.lets s.next) (d:=d) (l:=q.funcs) (sc:=s.next) (fr:=⟨c.strict,s.next⟩) (e1.less Qe) (Wq g3 g5) (by show(0:Int)<=s.H.scopes.length;omega) ba
  (λu e x _ hi=>⟨hi.less Qe,Ext.refl _⟩) (λu e x v _ hi m=>Z5a hi m)
 have Z:=x5.trans Y;exact⟨f1,Z,r.ext Z,by show(0:Int)<=s.H.scopes.length;omega,by have:=Y.ls;omega,.refl,by show(0:Int)<=s.H.scopes.length;omega⟩
def Z6t{n:NT}:(s.funS n sc fr).calls=s.calls/\(s.funS n sc fr).steps=s.steps:=by
 unfold MSt.funS;cases n.named<;>exact⟨rfl,rfl⟩
def Z5o{x:kB}{v:LVal}:(s.bindTo sc x v).calls=s.calls/\(s.bindTo sc x v).steps=s.steps:=by
 unfold MSt.bindTo;split<;>exact⟨rfl,rfl⟩
def Zbu{x:kB}:(s.loose sc x).calls=s.calls/\(s.loose sc x).steps=s.steps:=by
 unfold MSt.loose;split;·exact⟨rfl,rfl⟩
 .split<;>exact⟨rfl,rfl⟩
theorem Z54{β:Type}(f:MSt->β->MSt)(hf:∀s b,(f s b).calls=s.calls/\(f s b).steps=s.steps):∀(l:List β) (s:MSt),(l.foldl f s).calls=s.calls/\(l.foldl f s).steps=s.steps
 | [],s=>⟨rfl,rfl⟩
 |x::l,s=>by
   have h:=Z54 f hf l (f s x);exact⟨h.1.trans (hf s x).1,h.2.trans (hf s x).2⟩
def Z6y{p:MSt->kB->MSt}{g:MSt->kB->LVal->MSt}{l:List NT}(hp:∀s x,(p s x).calls=s.calls/\(p s x).steps=s.steps)(m:∀s x v,(g s x v).calls=s.calls/\(g s x v).steps=s.steps) :
 (s.funcs p g l sc fr).calls=s.calls/\(s.funcs p g l sc fr).steps=s.steps:=
 Z54 _ (λs k=>⟨(m _ _ _).1.trans (Z6t.1.trans (hp _ _).1),(m _ _ _).2.trans (Z6t.2.trans (hp _ _).2)⟩) l s
theorem Z7k:∀(l:List NT) (vs:List LVal) (s:MSt),(MSt.params sc l vs s).calls=s.calls/\(MSt.params sc l vs s).steps=s.steps
 | [],vs,s=>⟨rfl,rfl⟩
 |p::l,vs,s=>⟨(Z7k l _ _).1.trans Z5o.1,(Z7k l _ _).2.trans Z5o.2⟩
theorem Z93{o:Int}:∀(vs:List LVal) (i:Nat) (s:MSt),(MSt.argsPut o i vs s).calls=s.calls/\(MSt.argsPut o i vs s).steps=s.steps
 | [],i,s=>⟨rfl,rfl⟩
 |v::l,i,s=>Z93 l (i+1) (s.put o (MSt.argN i) v false)
theorem Z57{l:List NT}:(s.lets l sc).calls=s.calls/\(s.lets l sc).steps=s.steps:=Z54 (λ(s:MSt) (k:NT)=>s.declare sc k.text (if k.kind=4 then 2 else 1) LVal.zero) (λ_ _=>⟨rfl,rfl⟩) l s
theorem Zld{l:List kB}:(s.vars l sc).calls=s.calls/\(s.vars l sc).steps=s.steps:=Z54 (λ(s:MSt) (t:kB)=>s.declare sc t 0 LVal.zero) (λ_ _=>⟨rfl,rfl⟩) l s
theorem Zhe{l:List kB}:(s.looses l sc).calls=s.calls/\(s.looses l sc).steps=s.steps:=Z54 (λ(s:MSt) (t:kB)=>s.loose sc t) (λ_ _=>Zbu) l s
def Zb8{c:Clo}{vs:List LVal}:(s.enterS c vs).calls=s.calls/\(s.enterS c vs).steps=s.steps:=by
 unfold MSt.enterS;dsimp only
 have u:=Z7k (sc:=s.next) (c.node.kid 0).kids vs (s.opens c.scope (-1) c.node.num);obtain⟨m,J⟩:=zX (MSt.params s.next (c.node.kid 0).kids vs (s.opens c.scope (-1) c.node.num))
 rw[<-J]at u ⊢;obtain⟨o,y⟩:=zX ((if(m.H.has s.next Zc||(c.node.kid 1).hasName Zc)=true then m else m.argsObj s.next vs))
 rw[<-y];have F:o.calls=m.calls/\o.steps=m.steps:=by
  rw[y];split;·exact⟨rfl,rfl⟩
  .exact Z93 vs 0 ((m.object 0).put m.nextO ZV (.num vs.length) false)
 have G:=Zld (s:=o) (sc:=s.next) (l:=(c.node.kid 1).vars);have h5:=Z57 (s:=o.vars (c.node.kid 1).vars s.next) (sc:=s.next) (l:=(c.node.kid 1).lets);have I:=Z6y (s:=(o.vars (c.node.kid 1).vars s.next).lets (c.node.kid 1).lets s.next) (sc:=s.next) (fr:=⟨c.strict,s.next⟩) (p:=λs _=>s) (g:=λt x v=>t.bindTo s.next x v) (l:=(c.node.kid 1).funcs) (λ_ _=>⟨rfl,rfl⟩) (λ_ _ _=>Z5o);exact⟨I.1.trans (h5.1.trans (G.1.trans (F.1.trans u.1))),I.2.trans (h5.2.trans (G.2.trans (F.2.trans u.2)))⟩
def Zmz{c:Clo}{vs:List LVal}(g:DH D b)(h:Inv s (d+17000))(r:Root s)(hc:Lp c.node/\0<=c.scope/\c.scope<s.H.scopes.length)(m:∀v∈vs,VQ s v)(hl:vs.length<=1500)(hb:b<=s.steps)(hs:s.steps<=20000) :
 Fin s d VQ (XN D c vs s):=by
 obtain⟨p,q,o,Z,u,g4,y,g6⟩:=Z86 hc.1;obtain⟨F,I,J⟩:=Zcd h r hc m hl;obtain⟨O,e2⟩:=Zb8 (s:=s) (c:=c) (vs:=vs);unfold XN;rw[Wo o];refine Fin.pre I O (Fin.bind (WR g q.kids _ (Wd u y) F J Qe Qe) (λt r U j2 j3 X Y=>?_) (Y0 _));refine Fin.ok U (Ext.refl _) rfl X ?_;split;·exact Y
 .exact sP _
def Anc.le{H:LHeap}(hw:H.WF){v sc:Int}(a:Anc H v sc):v<=sc:=by
 induction a with
 |refl=>exact Int.le_refl _
 | @up sc c hc _ o=>
   obtain⟨m,rfl,g⟩:=LHeap.scope?_some hc;have:=(hw m c g).2;omega
def Zff(h:Inv s (d+13600))(a:FAt s sc fr)(hst:n.stm)(Z:n.tree.many<=1500) :
 Inv (s.evalS n sc fr) d/\Ext s (s.evalS n sc fr)/\FAt (s.evalS n sc fr) (if n.lets.isEmpty then sc else s.next) fr:=by
 refine Ztw ?_;intro hq l1 l2 l3;unfold MSt.evalS;dsimp only
 obtain⟨s1,O⟩:=zX (s.looses n.vars fr.vars)
 obtain⟨I,a2⟩:=Zcb (l:=n.vars) (sc:=fr.vars) (d:=d+12100) (s:=s) (h.less Qe);have eC:s1.H.scopes.length=s.H.scopes.length:=by
  have m:∀(l:List kB) (u:MSt),(u.looses l fr.vars).H.scopes.length=u.H.scopes.length:=by
   intro l;induction l with
   |nil=>intro u;rfl
   |cons x l ih=>
     intro u;refine(ih (u.loose fr.vars x)).trans ?_;exact Zyn
  rw[O];exact m _ _
 have U:s1.next=s.next:=by unfold MSt.next;rw[eC]
 rw[<-O]at I a2 ⊢;have F:FAt s1 sc fr:=a.ext a2;rw[U];obtain⟨o,X⟩:=zX ((if n.lets.isEmpty=true then s1 else(s1.opens sc (-1) (-3)).lets n.lets s.next))
 rw [← X];have m:Inv o (d + 9000)∧Ext s1 o∧FAt o (if n.lets.isEmpty=true then sc else s.next) fr:=by
  rw[X];cases n.lets.isEmpty with
  |true=>exact⟨I.less Qe,Ext.refl _,F⟩
  |false=>
    simp only[Bool.false_eq_true,if_false];obtain⟨b1,b2⟩:=I.opens (d:=d+12099) (outer:=sc) (object:=-1) (owner:=-3) (by have:=F.lo;omega) F.hi Qg Qe;obtain⟨c1,c2⟩:=Wi (l:=n.lets) (sc:=s.next) (d:=d+10599) (b1.less Qe);have y:=F.opens b2;rw[U]at y;exact⟨c1.less Qe,b2.trans c2,y.ext c2⟩
 obtain⟨k1,k2,J⟩:=m
 obtain⟨y,f2⟩:=Z6m (p:=λs t=>s.loose fr.vars t) (g:=λs t v=>if 0<=s.H.objectOf fr.vars then s.put (s.H.objectOf fr.vars) t v false else s.write fr.vars t v) (s:=o) (d:=d) (l:=n.funcs) (sc:=if n.lets.isEmpty=true then sc else s.next) (fr:=fr)
  (k1.less Qe) (Wq hst Z) J.lo J.hi (fun u e x _ hi => Z8c hi) (fun u e x v _ hi Y => by
   split;·exact CC hi Y
   .exact Z84 hi Y)
 obtain⟨g1,g2⟩:=Inv.turn (k:=(o.funcs (λs t=>s.loose fr.vars t) (λs t v=>if 0<=s.H.objectOf fr.vars then s.put (s.H.objectOf fr.vars) t v false else s.write fr.vars t v) n.funcs (if n.lets.isEmpty=true then sc else s.next) fr).steps) (c:=(o.funcs (λs t=>s.loose fr.vars t) (λs t v=>if 0<=s.H.objectOf fr.vars then s.put (s.H.objectOf fr.vars) t v false else s.write fr.vars t v) n.funcs (if n.lets.isEmpty=true then sc else s.next) fr).calls) (v:=LVal.zero) (d':=d) y (Int.le_refl _) y.steps.2 y.calls (sP _) (Y0 _);have x:=(f2.trans g2)
 exact⟨g1,(a2.trans k2).trans x,J.ext x⟩
def Zcr:(s.evalS n sc fr).calls=s.calls/\(s.evalS n sc fr).steps=s.steps:=by
 unfold MSt.evalS;dsimp only
 have m:=Zhe (s:=s) (sc:=fr.vars) (l:=n.vars);obtain⟨s1,G⟩:=zX (s.looses n.vars fr.vars)
 rw[<-G]at m ⊢;obtain⟨o,u⟩:=zX ((if n.lets.isEmpty=true then s1 else(s1.opens sc (-1) (-3)).lets n.lets s1.next))
 rw[<-u];have y:o.calls=s1.calls/\o.steps=s1.steps:=by
  rw[u];split;·exact⟨rfl,rfl⟩
  .exact Z57
 have F:=Z6y (s:=o) (p:=λs t=>s.loose fr.vars t) (g:=λs t v=>if 0<=s.H.objectOf fr.vars then s.put (s.H.objectOf fr.vars) t v false else s.write fr.vars t v) (l:=n.funcs) (sc:=if n.lets.isEmpty=true then sc else s1.next) (fr:=fr) (λ_ _=>Zbu) (λ_ _ _=>by split<;>exact⟨rfl,rfl⟩);exact⟨F.1.trans (y.1.trans m.1),F.2.trans (y.2.trans m.2)⟩
def Zcj(I:DH D b)(h:Inv s (d+13600))(a:FAt s sc fr)(hst:n.stm)(u:n.tree.many<=1500)(hb:b<=s.steps)(hs:s.steps<=20000):Fin s d VQ (Vg D n sc fr s):=by
 obtain⟨J,y,O⟩:=Zff h a hst u;obtain⟨F,U⟩:=Zcr (s:=s) (n:=n) (sc:=sc) (fr:=fr);have hf:=WR I n.kids _ (Wd hst u) J O Qe Qe;unfold Vg;obtain⟨g,m,o,p⟩:=hf;split
 .rename_i t v hr;rw[hr]at g m o p;exact⟨g,y.trans m,o.trans F,g.last,p.2⟩
 .rename_i t x hr;rw[hr]at g m o p;exact⟨g,y.trans m,o.trans F,by cases x<;>exact p⟩
def Zay{text:kB}(h:Wj text=some n):n.stm/\n.tree.many<=1500/\n.kind=1:=by
 unfold Wj at h;cases hp:Zm text with
 |error x=>rw[hp]at h;cases h
 |ok t=>
   rw[hp]at h;simp only[Option.some.injEq]at h;subst h;obtain⟨l,m,g,o⟩:=Z5q hp;have hb:=Zb3 t;refine⟨?_,by rw[hb];exact o,?_⟩
   .unfold NT.stm;rw[<-E1,hb,g];exact m
   .rw[<-Z6,hb,g];rfl
def Zcz{text:kB}(g:DH D b)(h:Inv s (d+13601))(a:FAt s sc fr)(hb:b<=s.steps)(hs:s.steps<=20000):Fin s d VQ (Tr D text sc fr s):=by
 unfold Tr;split;·exact Zua
 .rename_i n hn;obtain⟨m,o,_⟩:=Zay hn;split;·exact Zua
  .split
   .obtain⟨p,i2⟩:=h.opens (d:=d+13600) (outer:=sc) (object:=-1) (owner:=-3) Sx a.hi Qg Qe;have f:=a.opens i2;refine Fin.pre i2 rfl (Zcj g p ⟨f.root,f.lo,f.hi,.refl,f.lo⟩ m o hb hs)
   .split;·exact Zua
    .exact Zcj g (h.less Qe) ⟨a.root,a.lo,a.hi,a.anc,a.vlo⟩ m o hb hs
def Zm5(a:FAt s sc fr):FAt s s.top ⟨false,s.outer⟩:=by
 have r:=a.root;obtain⟨c,g,m⟩:=r.one;refine⟨r,by rw[r.top];decide,by rw[r.top];have:=r.many;omega,?_,by show 0<=s.outer;rw[r.outer];exact Int.le_refl _⟩;show Anc s.H s.outer s.top;rw[r.outer,r.top];refine .up (c:=c) ?_ (by rw[m];exact .refl);unfold LHeap.scope?;rw[Y3 Qg];exact g
def Zl0(h:Inv s d){o:Int}:0<=s.H.code o/\s.H.code o<3+s.clos.length:=by
 unfold LHeap.code;cases hob:s.H.object? o with
 |none=>exact⟨by decide,by show(0:Int)<_;omega⟩
 |some x=>
   obtain⟨m,rfl,g⟩:=LHeap.object?_some hob;have:=h.obj x (Yd g);exact⟨this.1,this.2.1⟩
def Zqv{r:MSt×Except Er LVal}(h:Inv s d)(hr:Fin {s with calls:=s.calls+1} d VQ r):Fin s d VQ (Wy s r):=by
 obtain⟨o,g,p,m⟩:=hr;have hc:r.1.calls=s.calls+1:=p;have hx:Ext s r.1:=⟨g.lo,g.scp,g.ls,g.own,g.clo,g.glob,g.outer,g.top,g.steps,g.log,g.seen⟩
 have F:=h.calls;obtain⟨u,y⟩:=Inv.turn (k:=r.1.steps) (c:=r.1.calls-1) (v:=s.last) (d':=d) o (Int.le_refl _) o.steps.2 ⟨by omega,by omega⟩ (h.last.mono hx.lo) (Y0 _);refine⟨u,hx.trans y,by show r.1.calls-1=s.calls;omega,?_⟩;unfold Wy;cases hr2:r.2 with
 |ok v=>rw[hr2]at m;exact m
 |error x=>rw[hr2]at m;cases x<;>exact m
def Zi6{code:Int}{args:List LVal}(g:DH D b)(h:Inv s (d+17000))(a:FAt s sc fr)(hc:0<=code/\code<3+s.clos.length/\code≠0/\code≠1)(m:∀v∈args,VQ s v)(hl:args.length<=1500)(hb:b<=s.steps)(hs:s.steps<=20000) :
 Fin s d VQ (VL D n sc fr code args s):=by
 unfold VL;split
 .have o:(code-3).toNat<s.clos.length:=by omega
  rw[List.getD_eq_getElem?_getD,Y6 o,Option.getD_some];exact Zmz g h a.root (h.clo _ (List.getElem_mem _)) m hl hb hs
 .split;·exact Zcz g (h.less Qe) a hb hs
  .exact Zcz g (h.less Qe) (Zm5 a) hb hs
def Zim{code:Int}{args:List LVal}(m:DH D b)(h:Inv s (d+17000))(a:FAt s sc fr)(hc:0<=code/\code<3+s.clos.length)(g:∀v∈args,VQ s v)(hl:args.length<=1500)(hb:b<=s.steps)(hs:s.steps<=20000) :
 Fin s d VQ (Xa D n sc fr code args s):=by
 unfold Xa;split;·exact Fin.raise (h.less Qe) (Ext.refl _) rfl hs IR.2.1
 .split
  .obtain⟨o,i2⟩:=(h.less (d':=d+1) Qe).log (t:=Xu (args.map s.H.shown));exact Fin.ok o i2 rfl hs (sP _)
  .split;·exact Fin.ok (h.less Qe) (Ext.refl _) rfl hs (sP _)
   .split
    .refine Fin.ok (h.less Qe) (Ext.refl _) rfl hs ?_;cases args with
     |nil=>exact sP _
     |cons v vs=>exact g v Qm
    .split;·exact Fin.raise (h.less Qe) (Ext.refl _) rfl hs IR.2.2.1
     .rename_i c0 c1 c2 c3 y;have F:=h.calls;obtain⟨p,u⟩:=Inv.turn (k:=s.steps) (c:=s.calls+1) (v:=s.last) (d':=d+17000) h (Int.le_refl _) h.steps.2 ⟨by omega,by omega⟩ h.last (Y0 _);exact Zqv (h.less Qe) (Zi6 m p (a.ext u) ⟨hc.1,hc.2,c0,c1⟩ g hl hb hs)
def Zqf(m:VH V b)(F:DH D b)(hw:n.wf .v)(hk:n.kind=35)(I:n.tree.many<=1500)(h:Inv s (d+17000))(a:FAt s sc fr)(hb:b<=s.steps)(hs:s.steps<=20000):Fin s d VQ (WV V D n sc fr s):=by
 obtain⟨x',l',o,J,g⟩:=Acg hw QF;rw[E1]at o;obtain⟨x,l,g1,rfl,rfl⟩:=Ve o;have O:∀(l:List NT),Wf .vl (qa l)->∀y∈l,y.wf .v:=by
  intro l;induction l with
  |nil=>intro _ y hy;cases hy
  |cons z l ih=>
    intro g y hy;obtain⟨k1,k2⟩:=Zhm (t:=z.tree) (l:=qa l) g;exact Xb
 have U:∀y∈l,y.wf .v/\y.tree.many<=1500:=λy hy=>⟨O l g y hy,by have:=Dv (n:=n) (x:=y) (by rw[g1];simp[hy]);omega⟩;have X:=Td (n:=n);rw[g1,List.length_cons]at X;unfold WV;rw[Q' g1,show n.kids.tail=l by rw[g1];rfl];refine Fin.bind (m.at Qy J I h a hb hs) (λt qg Y j2 j3 Z j5=>?_) Qe;refine Fin.bind (Zho m l t U Y (a.ext j2) Q5 Z) (λu args k1 k2 k3 k4 p=>?_) Qe
 refine Zim F k1 ((a.ext j2).ext k2) ?_ p.1 (by rw[p.2];omega) (by have:=j2.steps;have:=k2.steps;omega) k4;unfold codeOf;split;·exact Zl0 k1
 .exact⟨by decide,by omega⟩
def Znw(u:VH V b)(hD:DH D b)(hw:n.wf .v)(Pa:32<=n.kind)(lU:n.kind≠37)(I:n.tree.many<=1500)(h:Inv s (d+17000))(a:FAt s sc fr)(hb:b<=s.steps)(hs:s.steps<=20000):Fin s d VQ (EG V D n sc fr s):=by
 have one:n.kind=32\/n.kind=33\/n.kind=34->∃x,n.kids=[x]/\x.wf .v:=by
  intro hk;obtain⟨x',O,U⟩:=wv1 hw Rv Rv;obtain⟨x,g1,rfl⟩:=SO O;exact⟨x,g1,U⟩
 unfold EG;split
 .rename_i hk;obtain⟨x,g1,p⟩:=one Qe;rw[Q' g1];dsimp only
  split;·exact Fin.ok (h.less Qe) (Ext.refl _) rfl hs (Zei IR.2.2.2.2)
  .refine Fin.bind (u.at Qy p I h a hb hs) (λt v g J X m Y=>?_) Qe;exact Fin.ok (g.less Qe) (Ext.refl _) rfl m (Zei (Zis _ _))
 .split
  .rename_i hk;obtain⟨x,g1,p⟩:=one Qe;rw[Q' g1];refine Fin.bind (u.at Qy p I h a hb hs) (λt v g J X m Y=>?_) Qe;exact Fin.ok (g.less Qe) (Ext.refl _) rfl m (Vw _)
  .split
   .rename_i hk;obtain⟨x,g1,p⟩:=one Qe;rw[Q' g1];have:=Dv (n:=n) (x:=x) Qy;exact Zii u p Qe (h.less Qe) a hb hs
   .split
    .rename_i hk;exact Zqf u hD hw hk I h a hb hs
    .split
     .rename_i hk;obtain⟨_,x',O,U⟩:=T7 hw QF;obtain⟨x,g1,rfl⟩:=SO O;rw[Q' g1];refine Fin.bind (u.at Qy U I h a hb hs) (λt v g J X m Y=>?_) Qe;split;·exact Fin.ok (g.less Qe) (Ext.refl _) rfl m (Zqz λx hx=>(g.obj x hx).2.2.1)
      .exact Fin.raise (g.less Qe) (Ext.refl _) rfl m IR.2.1
     .split
      .rename_i hk;have Z:=Ab0 hw QF;rw[E1]at Z;have aV:∀(l:List NT),Wf .ol (qa l)->∀y∈l,∃x,y.kids=[x]/\x.wf .v:=by
        intro l;induction l with
        |nil=>intro _ y F;cases F
        |cons z l ih=>
          intro h3 y F;obtain⟨⟨_,_,x',k1,k2⟩,k3⟩:=Zi7 (t:=z.tree) (l:=qa l) h3;rcases List.mem_cons.1 F with rfl|F
          .obtain⟨x,g1,rfl⟩:=SO k1;exact⟨x,g1,k2⟩
          .exact ih k3 y F
       have aG:=Td (n:=n);obtain⟨i1,i2⟩:=h.object (d:=d+16999) (code:=0) Qg Qe;have jM:(s.object 0).H.objects.length=s.H.objects.length+1:=RY
       refine Fin.pre i2 rfl (Fin.bind (Zdz u (o:=s.nextO) n.kids _ (λk hk=>?_) (i1.less Qe) (a.ext i2) hb hs) (λt v g J X m Y=>?_) (Y0 _))
       .obtain⟨x,g1,p⟩:=aV _ Z k hk;have m1:=Dv hk;have m2:=Dv (n:=k) (x:=x) Qy;exact⟨x,g1,p,by omega⟩
       .refine Fin.ok g (Ext.refl _) rfl m (Ti (by show(0:Int)<=s.H.objects.length;omega) ?_);have:=J.lo;show(s.H.objects.length:Int)<_;omega
      .exact Fin.ok (h.less Qe) (Ext.refl _) rfl hs (sP _)
def Zlk(m:VH V b)(U:DH D b)(hw:n.wf .v)(g:n.tree.many<=1500)(h:Inv s (d+17000))(a:FAt s sc fr)(hb:b<=s.steps)(hs:s.steps<=20000):Fin s d VQ (zz V D n sc fr s):=by
 have hl:∀{e:Nat},e<=d+17000->Inv s e:=λhe=>h.less he;have X:=Zmt hw;rw[Z6]at X;unfold zz;split
 .rename_i hk;have:=AcO hw QF;rw[Ztv]at this;exact Fin.ok (hl Qe) (Ext.refl _) rfl hs (Zhu Qe Qe)
 .split
  .rename_i hk;have:=AcP hw QF;rw[Zk3]at this;exact Fin.ok (hl Qe) (Ext.refl _) rfl hs (Zei this.1)
  ·split;·exact Fin.ok (hl Qe) (Ext.refl _) rfl hs (Vw _)
   ·split;·exact Fin.ok (hl Qe) (Ext.refl _) rfl hs Zu6
    .split;·exact Fin.ok (hl Qe) (Ext.refl _) rfl hs (sP _)
     .split;·exact Zq7 (hl Qe) hs
      .split
       .rename_i hk;exact Zu1 m hw hk g (hl Qe) a hb hs
       .split
        .rename_i hk;obtain⟨x',y',F,I,J⟩:=wv2 hw Rv Rv;obtain⟨x,y,g1,rfl,rfl⟩:=UO F;rw[Q' g1,Wo g1];refine Fin.bind (m.at Qy I g h a hb hs) (λt v o j2 Y p O=>?_) Qe;split;·exact Fin.ok (o.less Qe) (Ext.refl _) rfl p O
         .exact m.at Qy J g (o.less Qe) (a.ext j2) Q5 p
        .split
         .rename_i hk;obtain⟨x',y',F,I,J⟩:=wv2 hw Rv Rv;obtain⟨x,y,g1,rfl,rfl⟩:=UO F;rw[Q' g1,Wo g1];refine Fin.bind (m.at Qy I g h a hb hs) (λt v o j2 Y p O=>?_) Qe;refine Fin.bind (m.at Qy J g o (a.ext j2) Q5 p) (λu w Z k2 k3 k4 k5=>?_) Qe;exact Zj7 (Z.less Qe) k4
         .split
          .rename_i hk;obtain⟨i1,i2,i3⟩:=Z6x (d:=d) (sc:=sc) (fr:=fr) (n:=n) (h.less Qe) ⟨.inr ⟨hk,hw⟩,g⟩ a.lo a.hi;obtain⟨f1,f2⟩:=Z6t (s:=s) (n:=n) (sc:=sc) (fr:=fr);exact Fin.ok i1 i2 f1 Qe (Ti (by show(0:Int)<=s.H.objects.length;omega) (by rw[i3];show(s.H.objects.length:Int)<_;omega))
          .exact Znw m U hw Qe Qd g h a hb hs
def Zia{α:Type}{Q:MSt->α->Prop}{k:RM α}(h:Inv s d)(a:FAt s sc fr)(hs:s.steps<=20000)
 (hk:∀t,Inv t (d+20000)->FAt t sc fr->t.steps=s.steps+1->t.steps<=20000->Fin t d Q (k t)):Fin s d Q (zJ k s)/\s.steps<(zJ k s).1.steps:=by
 have m:=h.steps;obtain⟨g,i2⟩:=Inv.turn (k:=s.steps+1) (c:=s.calls) (v:=s.last) (d':=d+20000) h Qe Qe h.calls h.last Qe;unfold zJ;split;·exact⟨⟨g.less Qe,i2,rfl,by show s.steps+1=20001;omega⟩,by show s.steps<s.steps+1;omega⟩
 .have hf:=hk {s with steps:=s.steps+1} g (a.ext i2) rfl (by show s.steps+1<=20000;omega);refine⟨Fin.pre i2 rfl hf,?_⟩;have:=hf.2.1.steps;have e:({s with steps:=s.steps+1}:MSt).steps=s.steps+1:=rfl;omega
def Fin.and{α:Type}{Q:MSt->α->Prop}{P:MSt->Prop}{r:MSt×Except Er α}(h:Fin s d Q r)(hp:P r.1):Fin s d (λt v=>Q t v/\P t) r:=by
 obtain⟨m,o,p,g⟩:=h;refine⟨m,o,p,?_⟩;cases hr:r.2 with
 |ok v=>rw[hr]at g;exact⟨⟨g.1,hp⟩,g.2⟩
 |error x=>rw[hr]at g;cases x<;>exact g
theorem Ze1(o:VH V b)(p:DH D b){x y:NT}(hx:n.kids=[x,y])(F:x.wf .v)(I:y.wf .s)(Z:n.tree.many<=1500) :
 ∀(g:Nat) (s:MSt),20001<=s.steps+g->Inv s d->FAt s sc fr->b<=s.steps->s.steps<=20000->Fin s d DQ (Vf V D n sc fr g s)
 |0,s,hg,h,a,hb,hs=>by omega
 |g+1,s,hg,h,a,hb,hs=>by
   have mx:=Dv (n:=n) (x:=x) QG;have my:=Dv (n:=n) (x:=y) QG;unfold Vf;rw[Q' hx,Wo hx];obtain⟨f1,f2⟩:=o x sc fr s d F Qe h a hb hs;refine Fin.bind (f1.and (P:=λt=>s.steps<t.steps) f2) (λt v J m j3 O j5=>?_) (Y0 _);split
   .obtain⟨f3,f4⟩:=p y sc fr t d I Qe J (a.ext m) (by have :=m.steps;omega) O;refine Fin.bind f3 (λu r U X k3 Y k5=>?_) (Y0 _);split;·exact Fin.ok U (Ext.refl _) rfl Y k5
    .have:=X.steps;have:=m.steps;exact Ze1 o p hx F I Z g u (by have:=j5.2;omega) U ((a.ext m).ext X) Qe Y
   .exact Fin.ok J (Ext.refl _) rfl O (sP _)
def Zkw(y:DH D b)(hst:n.stm)(m:n.tree.many<=1500)(h:Inv s (d+12000))(a:FAt s sc fr)(hb:b<=s.steps)(hs:s.steps<=20000):Fin s d DQ (XA D n sc fr s):=by
 unfold XA;split;·exact WR y _ _ (Wd hst m) (h.less Qe) a hb hs
 .have hq:=Td (n:=n);have l2:=Z73 (n:=n);have l3:=Z6u (n:=n);obtain⟨U,i2⟩:=h.opens (d:=d+11999) (outer:=sc) (object:= -1) (owner:=n.num) (by have :=a.lo;omega) a.hi Qg Qe;have f:=a.opens i2;obtain⟨X,o⟩:=Wi (l:=n.lets) (sc:=s.next) (d:=d+10000) (U.less Qe)
  obtain⟨Y,F⟩:=Z6m (p:=λs _=>s) (g:=λt a v=>t.declare s.next a 0 v) (d:=d) (l:=n.funcs) (sc:=s.next) (fr:=fr) (X.less Qe) (Wq hst m) f.lo (by have:=o.ls;have:=f.hi;omega)
   (λu e x _ hi=>⟨hi.less Qe,Ext.refl _⟩) (λu e x v _ hi Z=>UW hi Z Qg Qg)
  have I:=Z6y (s:=(s.opens sc (-1) n.num).lets n.lets s.next) (p:=λs _=>s) (g:=λt a v=>t.declare s.next a 0 v) (l:=n.funcs) (sc:=s.next) (fr:=fr) (λ_ _=>⟨rfl,rfl⟩) (λ_ _ _=>⟨rfl,rfl⟩);have J:=Z57 (s:=s.opens sc (-1) n.num) (l:=n.lets) (sc:=s.next);have x:=(i2.trans o).trans F;have e1:(s.blockS n sc fr).calls=s.calls:=I.1.trans J.1;have O:(s.blockS n sc fr).steps=s.steps:=I.2.trans J.2;exact Fin.pre x e1 (WR y _ _ (Wd hst m) Y (f.ext (o.trans F)) (O.symm▸hb) (O.symm▸hs))
theorem Fin.sort{α:Type}{Q:MSt->α->Prop}{t:MSt}{r:Except Er α}(h:Fin s d Q (t,r)):Inv t d/\Ext s t/\t.calls=s.calls:=⟨h.1,h.2.1,h.2.2.1⟩
theorem Z58(p:DH D b):∀(l:List NT) (r:MSt×Except Er (Bool×LVal)),(∀k∈l,∃c,k.kids=[c]/\c.wf .s/\c.tree.many<=1500)->FAt s sc fr->b<=s.steps->Fin s (d+2*l.length) DQ r->Fin s d DQ (wt D sc fr l r)
 | [],r,_,_,_,h=>h.less Qe
 |k::l,(t,r),hl,a,hb,h=>by
   obtain⟨c,hc,O,U⟩:=hl k Qm;obtain⟨u,m,F⟩:=h.sort;rw[List.length_cons]at h u;have X:b<=t.steps:=by have:=m.steps;omega
   have I:∀k∈l,∃c,k.kids=[c]/\c.wf .s/\c.tree.many<=1500:=λy hy=>hl y SE;unfold wt;rw[Q' hc];have fin:∀(o:Except Er (Bool×LVal)),Fin s (d+2*l.length) DQ (t,o)->t.steps<=20000->Fin s d DQ (match D c sc fr t with
    |(s1,.ok (false,_))=>wt D sc fr l (s1,o)
    |x=>wt D sc fr l x):=by
    intro o ho hst;obtain⟨g,_⟩:=p c sc fr t (d+2*l.length) O U (u.less Qe) (a.ext m) X hst;split
    .rename_i s1 v hr;rw[hr]at g;refine Z58 p l _ I a hb ⟨g.1,m.trans g.2.1,g.2.2.1.trans F,?_⟩;have Y:s1.steps<=20000:=g.2.2.2.2;obtain⟨_,_,_,J⟩:=ho;cases o with
     |ok v=>exact⟨LVal.ok.mono J.1 g.2.1.lo,Y⟩
     |error x=>
       cases x with
       |stop=>exact absurd (show t.steps=20001 from J) Qe
       |thr v=>exact⟨J.1.mono g.2.1.lo,Y⟩
    .exact Z58 p l _ I a hb (Fin.pre m F g)
   cases r with
   |error x=>
     cases x with
     |stop=>exact h.less Qe
     |thr v=>
       have Z:v.ok t.H.objects.length:=h.2.2.2.1;have hst:t.steps<=20000:=h.2.2.2.2;dsimp only
       split
       .obtain⟨i1,i2⟩:=u.opens (d:=d+2*l.length+1) (outer:=sc) (object:=-1) (owner:=k.num) Sx (a.ext m).hi Qg Qe;obtain⟨j1,j2⟩:=UW (sc:=t.next) (kind:=0) (name:=k.text) (v:=v) i1 (Z.mono i2.lo) Qg Qg;have f:=((a.ext m).opens i2).ext j2;obtain⟨g,_⟩:=p c t.next fr _ (d+2*l.length) O U j1 f X hst;exact Z58 p l _ I a hb (Fin.pre (m.trans (i2.trans j2)) F g)
       .exact fin _ ⟨u.less Qe,m,F,Z,hst⟩ hst
   |ok v=>
     have hst:t.steps<=20000:=h.2.2.2.2;dsimp only
     split;·exact Z58 p l _ I a hb (h.less Qe)
     .exact fin _ (h.less Qe) hst
def Zsj(g:DH D b)(hw:n.wf .s)(hk:n.kind=12)(J:n.tree.many<=1500)(h:Inv s (d+4))(a:FAt s sc fr)(hb:b<=s.steps)(hs:s.steps<=20000):Fin s d DQ (NH D n sc fr s):=by
 obtain⟨x',O,m,u,o,y⟩:=AbV hw QF;rw[E1]at m;obtain⟨x,l,g1,rfl,rfl⟩:=Ve m;have U:l.length<=2:=by rw[XM,Ym]at o;exact o
 have mx:=Dv (n:=n) (x:=x) Qy;unfold NH;rw[Q' g1,show n.kids.tail=l by rw[g1];rfl];refine Z58 g l _ (λk hk=>?_) a hb ((g x sc fr s _ (Wf.blk u) Qe (h.less Qe) a hb hs).1);obtain⟨_,c',F,I⟩:=y k.tree (by rw[XM];exact List.mem_map.2 ⟨k,hk,rfl⟩);obtain⟨c,p,rfl⟩:=SO F;have X:=Dv (n:=n) (x:=k) (by rw[g1];simp[hk]);have Y:=Dv (n:=k) (x:=c) (by rw[p];simp);exact⟨c,p,Wf.blk I,by omega⟩
theorem Z7y(h:Inv s d)(hs:s.steps<=20000):Fin s d DQ (ga X0 s):=Fin.ok h (Ext.refl _) rfl hs (sP _)
def Zs4 {f:Nat} {p:Int} {v:LVal} (X:VH V b) (m:DH D b) (hw:n.wf .s) (J:n.tree.many≤1500) (h:Inv s (d + 12000)) (a:FAt s sc fr) (hb:b≤s.steps) (hs:s.steps≤20000) (hf:20001≤s.steps + f) (o:VQ s v) :
 Fin s d DQ (KR V D f n sc fr p v s):=by
 unfold KR;split
 .split;·exact Z7y (h.less Qe) hs
  .exact Fin.bind (Zcf (d:=d) (h.less Qe) o hs) (λt _ Y j2 j3 Z _=>Z7y Y Z) (Y0 _)
 .split
  .obtain⟨u,i2⟩:=(h.less (d':=d+1) Qe).near (Zj5 (n:=sc) (name:=n.text) o);exact Fin.ok u i2 rfl hs (sP _)
  .split
   .rename_i hk;have h6:=Zhi hw QF;have O:=(wk h6).2.1;rw[E1]at O;exact Zkw m O J h a hb hs
   .split
    .rename_i hk;obtain⟨x',y',I,F,g⟩:=ws7 hw QF;rcases g with g|⟨z',g,h4⟩
     .obtain⟨x,y,g1,rfl,rfl⟩:=UO g;have U:=Dv (n:=n) (x:=y) Qy;rw[Wo g1];split;·exact(m y sc fr s d F Qe (h.less Qe) a hb hs).1
      .rw[Y5 (show n.kids.length<=2 by rw[g1];exact Y0 2)];exact Z7y (h.less Qe) hs
     .obtain⟨x,y,z,g1,rfl,rfl,rfl⟩:=Zr7 g;have U:=Dv (n:=n) (x:=y) Qy;have mz:=Dv (n:=n) (x:=z) Qy;rw[Wo g1,Zsy g1];split;·exact(m y sc fr s d F Qe (h.less Qe) a hb hs).1
      .split;·exact Z7y (h.less Qe) hs
       .exact(m z sc fr s d h4 Qe (h.less Qe) a hb hs).1
    .split
     .rename_i hk;obtain⟨x',y',I,F,g⟩:=ws8 hw (by rw[Z6];exact .inl hk);obtain⟨x,y,g1,rfl,rfl⟩:=UO I;exact Ze1 X m g1 F g J f s hf (h.less Qe) a hb hs
     .split
      .rename_i hk;obtain⟨x',y',I,F,g⟩:=ws8 hw (by rw[Z6];exact .inr hk);obtain⟨x,y,g1,rfl,rfl⟩:=UO I;have U:=Dv (n:=n) (x:=y) Qy;rw[Wo g1];split
       .rename_i h5;have hr:=o.2.2.2.2 h5;obtain⟨u,i2⟩:=h.opens (d:=d+11999) (outer:=sc) (object:=v.n) (owner:=-2) Sx a.hi Qe hr.2;exact Fin.pre i2 rfl ((m y s.next fr _ d g Qe (u.less Qe) (a.opens i2) hb hs).1)
       .exact Fin.raise (h.less Qe) (Ext.refl _) rfl hs IR.2.1
      .split;·exact Fin.ok (h.less Qe) (Ext.refl _) rfl hs o
       .split;·exact Fin.thr (h.less Qe) (Ext.refl _) rfl hs o
        .split
         .rename_i hk;exact Zsj m hw hk J (h.less Qe) a hb hs
         .split
          .obtain⟨u,i2⟩:=Inv.turn (k:=s.steps) (c:=s.calls) (v:=v) (d':=d) h (Int.le_refl _) h.steps.2 h.calls o Qe;exact Fin.ok u i2 rfl hs (sP _)
          .exact Z7y (h.less Qe) hs
def Zu9(p:VH V b)(hw:n.wf .s)(u:n.tree.many<=1500)(h:Inv s d)(a:FAt s sc fr)(hb:b<=s.steps)(hs:s.steps<=20000) :
 Fin s d VQ ((if n.kids.isEmpty=true\/n.kind=5\/n.kind=6\/n.kind=12\/n.kind=8 then ga LVal.zero else V (n.kid 0) sc fr) s):=by
 split;·exact Fin.ok h (Ext.refl _) rfl hs (sP _)
 .rename_i hk;have F:=Zkz hw;rw[Z6]at F;have g:∃x' o,n.tree.kids=x'::o/\Wf .v [x']:=by
   have m:n.tree.kids≠[]:=λe=>hk (.inl (by rw[Zfd e];rfl));by_cases I:n.kind=2\/n.kind=3\/n.kind=4
   .rcases(ws2 hw (by rw[Z6];exact I)).2 with e|⟨x,e,w⟩;·exact absurd e m
    .exact⟨x,[],e,w⟩
   .by_cases J:n.kind=7
    .obtain⟨x,y,w,_,e⟩:=ws7 hw (by rw[Z6];exact J);rcases e with e|⟨z,e,_⟩;·exact⟨x,_,e,w⟩
     .exact⟨x,_,e,w⟩
    .by_cases O:n.kind=9
     .obtain⟨x,y,e,w,_⟩:=ws8 hw (by rw[Z6];exact .inr O);exact⟨x,_,e,w⟩
     .by_cases U:n.kind=10\/n.kind=11
      .rcases AbQ hw (by rw[Z6];exact U)with e|⟨x,e,w⟩;·exact absurd e.1 m
       .exact⟨x,_,e,w⟩
      .by_cases X:n.kind=15
       .obtain⟨x,e,w⟩:=AaK hw (by rw[Z6];exact X);exact⟨x,_,e,w⟩
       .exact absurd (AaQ hw Rv) m
  obtain⟨x',o,e,w⟩:=g;rw[E1]at e;obtain⟨x,l,g1,rfl,rfl⟩:=Ve e;rw[Q' g1];exact p.at Qy w u h a hb hs
theorem Zb9:∀f:Nat,VH (T9 f).1 (20001-f)/\DH (T9 f).2 (20001-f)
 |0=>⟨λn sc fr s d _ _ _ _ hb hs=>by simp at hb;omega,λn sc fr s d _ _ _ _ hb hs=>by simp at hb;omega⟩
 |f+1=>by
   obtain⟨o,F⟩:=Zb9 f;refine⟨λn sc fr s d hw g h a hb hs=>?_,λn sc fr s d hw g h a hb hs=>?_⟩;·exact Zia h a hs λt p m J y=>Zlk o F hw g (p.less Qe) m Qe y
   .refine Zia h a hs λt p m J y=>?_;refine Fin.bind (Zu9 o hw g p m Qe y) (λu v O I Y U X=>?_) Qe;have:=I.steps;exact Zs4 o F hw g (O.less Qe) (m.ext I) Qe U Qe X
end
section
variable {n:NT}{s:MSt}{d:Nat}
def Zl3:Inv MSt.new 20000 where
 wf:=λi c h=>by simp[MSt.new]at h
 own:=rfl
 obj:=λo h=>by cases h
 scp:=λo h=>by cases h
 clo:=λo h=>by cases h
 last:=sP _
 calls:=by decide
 steps:=by decide
 szO:=by decide
 szS:=by decide
 szC:=by decide
 szL:=by decide
 szN:=by decide
def TW:MSt:=(((((MSt.new.object 0).object 1).put 0 Jk (.ref 1) false).object 2).put 0 UB (.ref 2) false)
def Zkl:Inv TW 19995/\TW.H.objects.length=3/\TW.H.scopes=[]/\TW.steps=0/\TW.calls=0:=by
 obtain⟨m,a2⟩:=Zl3.object (d:=19999) (code:=0) Qg Qg;obtain⟨b1,b2⟩:=m.object (d:=19998) (code:=1) Qg Qg;have hp:(LVal.ref 1).ok ((MSt.new.object 0).object 1).H.objects.length:=Ti Qg Qg;obtain⟨c1,c2⟩:=CC (d:=19997) (o:=0) (name:=Jk) (v:=.ref 1) (fx:=false) b1 hp;have p:(((MSt.new.object 0).object 1).put 0 Jk (.ref 1) false).H.objects.length=2:=(ZU hp).lo;obtain⟨u,I⟩:=c1.object (d:=19996) (code:=2) Qg Qg
 have g:((((MSt.new.object 0).object 1).put 0 Jk (.ref 1) false).object 2).H.objects.length=3:=by
  show((((MSt.new.object 0).object 1).put 0 Jk (.ref 1) false).H.objects++_).length=3;rw[Yi,p];rfl
 have hq:(LVal.ref 2).ok ((((MSt.new.object 0).object 1).put 0 Jk (.ref 1) false).object 2).H.objects.length:=Ti Qg (by rw[g];decide);obtain⟨y,J⟩:=CC (d:=19995) (o:=0) (name:=UB) (v:=.ref 2) (fx:=false) u hq;refine⟨y,(ZU hq).lo.trans g,?_,rfl,rfl⟩;have:=(ZU (H:=((((MSt.new.object 0).object 1).put 0 Jk (.ref 1) false).object 2).H) (n:=0) (name:=UB) (fixed:=false) hq).ls;have F:=(ZU (H:=((MSt.new.object 0).object 1).H) (n:=0) (name:=Jk) (fixed:=false) hp).ls;refine List.length_eq_zero_iff.1 (this.trans ?_);exact F
def Dk:MSt:={(TW.opens (-1) 0 (-1)).opens 0 (-1) 0 with glob:=0,outer:=0,top:=1}
def Zcg:Inv Dk 19993/\FAt Dk 1 ⟨s.calls==0,0⟩/\Dk.steps=0/\Dk.calls=0:=by
 obtain⟨p,F,o,u,h5⟩:=Zkl;have z:TW.H.scopes.length=0:=by rw[o];rfl
 obtain⟨y,i2⟩:=p.opens (d:=19994) (outer:=-1) (object:=0) (owner:=-1) Qg Qe Qg Qe;have z2:(TW.opens (-1) 0 (-1)).H.scopes.length=1:=by simp[MSt.opens,o]
 obtain⟨g,I⟩:=y.opens (d:=19993) (outer:=0) (object:=-1) (owner:=0) Qg Qe Qg Qe;have m:Dk.H.scopes=[⟨-1,0,[]⟩,⟨0,-1,[]⟩]:=by
  show(TW.H.scopes++_)++_=_;rw[o];rfl
 refine⟨⟨g.wf,g.own,g.obj,g.scp,g.clo,g.last,g.calls,g.steps,g.szO,g.szS,g.szC,g.szL,g.szN⟩,⟨⟨rfl,rfl,rfl,?_,?_,?_⟩,by decide,?_,?_,by show(0:Int)<=0;decide⟩,u,h5⟩
 .show 0<TW.H.objects.length;omega
 .rw[m];decide
 .rw[m];exact⟨_,rfl,rfl⟩
 .rw[m];decide
 .refine .up (c:=⟨0,-1,[]⟩) ?_ .refl;unfold LHeap.scope?;rw[Y3 Qg,m];rfl
def Zek(hst:n.stm)(U:n.tree.many<=1500):Inv (TQ n) 0/\FAt (TQ n) 1 ⟨n.strict,0⟩/\(TQ n).steps=0/\(TQ n).calls=0:=by
 refine Ztw ?_;intro hq l1 l2 l3;obtain⟨X,m,Y,Z⟩:=Zcg (s:=TW);have fa:FAt Dk 1 ⟨n.strict,0⟩:=⟨m.root,m.lo,m.hi,m.anc,m.vlo⟩
 obtain⟨F,i2⟩:=ZE (λ(s:MSt) (t:kB)=>if s.H.has 0 t then s else s.put 0 t LVal.zero true) 1 Dk (λ_=>True) (λs d b _ _ h=>by
  split;·exact⟨h.less Qe,Ext.refl _⟩
  .exact CC h (sP _)) n.vars Dk 18000 (λ_ _=>trivial) (Ext.refl _) (X.less Qe)
 have i3:=Z54 (λ(s:MSt) (t:kB)=>if s.H.has 0 t then s else s.put 0 t LVal.zero true) (λs b=>by split<;>exact⟨rfl,rfl⟩) n.vars Dk;obtain⟨o,I⟩:∃o,o=n.vars.foldl (λ(s:MSt) (t:kB)=>if s.H.has 0 t then s else s.put 0 t LVal.zero true) Dk:=⟨_,rfl⟩
 have e:TQ n=(o.lets n.lets 1).funcs (λs _=>s) (λs t v=>s.put 0 t v true) n.funcs 1 ⟨n.strict,0⟩:=by rw[I];rfl
 rw[<-I]at F i2 i3;obtain⟨j1,j2⟩:=Wi (l:=n.lets) (sc:=1) (d:=16000) (F.less Qe);have y:=(fa.ext i2).ext j2
 obtain⟨k1,k2⟩:=Z6m (p:=λs _=>s) (g:=λs t v=>s.put 0 t v true) (d:=0) (l:=n.funcs) (sc:=1) (fr:=⟨n.strict,0⟩) (j1.less Qe) (Wq hst U) y.lo y.hi
  (λu e x _ hi=>⟨hi.less Qe,Ext.refl _⟩) (λu e x v _ hi hv=>CC hi hv)
 have J:=Z6y (s:=o.lets n.lets 1) (p:=λs _=>s) (g:=λs t v=>s.put 0 t v true) (l:=n.funcs) (sc:=1) (fr:=⟨n.strict,0⟩) (λ_ _=>⟨rfl,rfl⟩) (λ_ _ _=>⟨rfl,rfl⟩);have O:=Z57 (s:=o) (l:=n.lets) (sc:=1);rw[e];exact⟨k1,y.ext k2,(J.2.trans (O.2.trans i3.2)).trans Y,(J.1.trans (O.1.trans i3.1)).trans Z⟩
end
structure Win(T b:kB)(o:Nat):Prop where
 size:o+b.size<=T.size
 get:∀i,i<b.size->T.data.getD (o+i) 0=b.data.getD i 0
 stop:o+b.size<T.size->Zt (Z5 T (o+b.size))=true
def Win.byte{T b:kB}{o:Nat}(h:Win T b o){i:Nat}(hi:i<b.size):Z5 T (o+i)=Z5 b i:=by
 unfold Z5;rw[h.get i hi]
def Win.past{T b:kB}{o:Nat}(h:Win T b o):Z5 T (o+b.size)=0\/Z5 T (o+b.size)=32\/Z5 T (o+b.size)=10:=by
 rcases Nat.lt_or_ge (o+b.size) T.size with g|g
 .have:=h.stop g;simp only[Zt,Bool.or_eq_true,decide_eq_true_eq]at this;exact .inr this
 .exact .inl (Z4c g)
def Win.span{T b:kB}{o:Nat}(h:Win T b o)(p:Int->Bool)(hp:∀c,Zt c=true->p c=false){i:Nat}(hi:i<=b.size) :
 Zf p T (T.size-(o+i)) (o+i)=o+Zf p b (b.size-i) i:=by
 obtain⟨s1,F,s3,y⟩:=Zv p b (b.size-i) i (Y0 _) hi;have hs:=h.size;refine Z3o p T _ _ _ (Y0 _) Qe Qe (λm u g=>?_) λu=>?_;·exact Zvt
 .rcases Nat.lt_or_ge (Zf p b (b.size-i) i) b.size with g|g
  .rw[h.byte g];exact y g
  .have e:Zf p b (b.size-i) i=b.size:=by omega
   rw[e]at u ⊢;exact hp _ (h.stop u)
def Win.blank{T b:kB}{o:Nat}(h:Win T b o){i:Nat}(hi:i<=b.size)(hk:Zf Zt b (b.size-i) i<b.size) :
 Zf Zt T (T.size-(o+i)) (o+i)=o+Zf Zt b (b.size-i) i:=by
 obtain⟨s1,u,s3,g⟩:=Zv Zt b (b.size-i) i (Y0 _) hi;have hs:=h.size;refine Z3o Zt T _ _ _ (Y0 _) Qe Qe (λm p y=>?_) λp=>?_;·exact Zvt
 .rw[h.byte hk];exact g hk
def Win.num{T b:kB}{o k:Nat}(h:Win T b o)(hk:k<=b.size):∀(f i:Nat) (n:Int),kY T (o+k) f (o+i) n=kY b k f i n:=by
 intro f;induction f with
 |zero=>intro i n;rfl
 |succ f m=>
   intro i n;simp only[kY];by_cases g:i<k
   .rw[Y5 Qe,Y5 g,h.byte Qe,show o+i+1=o+(i+1) by omega];exact m (i+1) _
   .rw[Y3 Qe,Y3 g]
def Win.cut{T b:kB}{o j k:Nat}(h:Win T b o)(hk:k<=b.size):T.extract (o+j) (o+k)=b.extract j k:=by
 have hs:=h.size;apply ByteArray.ext;rw[ByteArray.data_extract,ByteArray.data_extract];have s1:T.data.size=T.size:=rfl;have p:b.data.size=b.size:=rfl;apply Array.ext
 .simp only[Array.size_extract];omega
 .intro i g m;simp only[Array.size_extract]at g m;simp only[Array.getElem_extract];have e:=h.get (j+i) Qe;simp only[Array.getD,dif_pos (show o+(j+i)<T.data.size by omega),dif_pos (show j+i<b.data.size by omega)]at e;simpa[Nat.add_assoc]using e
def Win.quoted{T b:kB}{o:Nat}(h:Win T b o):∀(f i:Nat) (I F:List UInt8) (k:Nat),Zy b f i I=(F,0,k)->i<k/\k<=b.size/\∀p,k-i<=p->Zy T p (o+i) I=(F,0,o+k):=by
 intro f;induction f with
 |zero=>intro i I F k y;simp[Zy]at y
 |succ f Y=>
   intro i I F k m;have hs:=h.size;simp only[Zy]at m;by_cases y:b.size<=i\/Z5 b i=10;·rw[Y5 y]at m;simp at m
   rw[Y3 y]at m;simp only[not_or,Nat.not_le]at y;have hb:=h.byte y.1;by_cases J:Z5 b i=39
   .rw[Y5 J]at m;by_cases u:500<I.length;·rw[Y5 u]at m;simp at m
    rw[Y3 u]at m;simp only[Prod.mk.injEq,true_and]at m;obtain⟨rfl,rfl⟩:=m;refine⟨by omega,by omega,λp hf=>?_⟩;obtain⟨g,rfl⟩:∃g,p=g+1:=⟨p-1,by omega⟩
    simp only[Zy,hb];rw[Y3 Qe,Y5 J,Y3 u,Nat.add_assoc]
   rw[Y3 J]at m;by_cases u:Z5 b i=92
   ·rw [Y5 u] at m;by_cases O : i + 1 < b.size
    .rw[Y5 O]at m;cases he:Va (Z5 b (i+1))with
     |none=>rw[he]at m;simp at m
     |some e=>
       rw[he]at m;simp only at m;obtain⟨g1,U,X⟩:=Y (i+2) _ F k m;refine⟨by omega,U,λp hf=>?_⟩;obtain⟨g,rfl⟩:∃g,p=g+1:=⟨p-1,by omega⟩
       have Z:=h.byte O;rw[<-Nat.add_assoc]at Z;simp only[Zy,hb,Z];rw[Y3 Qe,Y3 J,Y5 u,Y5 Qe,he];simp only;rw[Nat.add_assoc];exact X g Qe
    .rw[Y3 O]at m;simp at m
   .rw[Y3 u]at m;obtain⟨g1,U,X⟩:=Y (i+1) _ F k m;refine⟨by omega,U,λp hf=>?_⟩;obtain⟨g,rfl⟩:∃g,p=g+1:=⟨p-1,by omega⟩
    simp only[Zy,hb,h.get i y.1];rw[Y3 Qe,Y3 J,Y3 u,Nat.add_assoc];exact X g Qe
def Win.signs{T b:kB}{o:Nat}(h:Win T b o){j:Nat}(p:j<b.size):Zp T (o+j)=Zp b j:=by
 have hb:=h.byte p;have hp:=h.past;unfold Zp;rw[hb];by_cases u:j+1<b.size
 .have g:=h.byte u;rw[<-Nat.add_assoc]at g;rw[g];by_cases y:j+2<b.size
  .have m:=h.byte y;rw[<-Nat.add_assoc]at m;rw[m]
  .have e:j+2=b.size:=by omega
   have z:=Z4c (text:=b) (i:=j+2) Qe;rw[<-e,<-Nat.add_assoc]at hp;rw[z];have F:Z5 T (o+j+2)≠61:=Qe
   simp[F]
 .have e:j+1=b.size:=by omega
  have z:=Z4c (text:=b) (i:=j+1) Qe;rw[<-e,<-Nat.add_assoc]at hp;rw[z];have I:Z5 T (o+j+1)≠61:=Qe
  have J:Z5 T (o+j+1)≠38:=Qe
  have O:Z5 T (o+j+1)≠124:=Qe
  simp[I,J,O]
def Tok.shift(o:Nat)(t:Tok):Tok:={t with at':=o+t.at'}
def Zko{c:Int}(h:Zt c=true):wV c=false:=by
 cases hw:wV c with
 |false=>rfl
 |true=>rw[ZB hw]at h;cases h
def Zgq{c:Int}(h:Zt c=true):mI c=false:=by
 cases hw:mI c with
 |false=>rfl
 |true=>rw[ZB (Z8o hw)]at h;cases h
def Win.tok{T b:kB}{o:Nat}(h:Win T b o){j k:Nat}{t:Tok}(p:j<b.size)(ht:j4 b j=.ok (t,k)):j4 T (o+j)=.ok (t.shift o,o+k):=by
 have hb:=h.byte p;obtain⟨c1,c2,_⟩:=Xe b p ht;unfold j4 at ht ⊢;rw[hb];by_cases hl:uK (Z5 b j)=true
 .rw[Y5 hl]at ht ⊢;simp only at ht ⊢;rw[h.span wV (λc=>Zko) Qe];obtain⟨K,u⟩:∃K,Zf wV b (b.size-j) j=K:=⟨_,rfl⟩
  obtain⟨_,g,_,_⟩:=Zv wV b (b.size-j) j (Y0 _) Qe;rw[u]at ht g ⊢;rw[h.cut g,show o+K-(o+j)=K-j by omega];split at ht
  .simp only[Except.ok.injEq,Prod.mk.injEq]at ht;obtain⟨rfl,rfl⟩:=ht;rw[Y5 Qd];rfl
  .exact Zzj
 rw[Y3 hl]at ht ⊢;by_cases hd:mI (Z5 b j)=true
 .rw[Y5 hd]at ht ⊢;simp only at ht ⊢;rw[h.span mI (λc=>Zgq) Qe];obtain⟨K,u⟩:∃K,Zf mI b (b.size-j) j=K:=⟨_,rfl⟩
  obtain⟨_,g,_,_⟩:=Zv mI b (b.size-j) j (Y0 _) Qe;rw[u]at ht g ⊢;rw[show o+K-(o+j)=K-j by omega,h.num g];split at ht;·cases ht
  .exact Zzj
 rw[Y3 hd]at ht ⊢;by_cases hq:Z5 b j=39
 .rw[Y5 hq]at ht ⊢;obtain⟨⟨I,e,K⟩,y⟩:∃R,R=CP b (j+1):=⟨_,rfl⟩
  rw[<-y]at ht;simp only at ht;by_cases F:e=4;·rw[Y5 F]at ht;cases ht
  rw[Y3 F]at ht;by_cases m:e≠0;·rw[Y5 m]at ht;cases ht
  rw[Y3 m]at ht;simp only[ne_eq,Decidable.not_not]at m;subst m;simp only[Except.ok.injEq,Prod.mk.injEq]at ht;obtain⟨rfl,rfl⟩:=ht;obtain⟨U,X,J⟩:=h.quoted _ _ _ _ _ y.symm;have O:CP T (o+j+1)=(I,0,o+K):=by
   have:=J (T.size+1-(o+j+1)) (by have:=h.size;omega);rw[<-Nat.add_assoc]at this;exact this
  rw[O];rfl
 rw[Y3 hq]at ht ⊢;rw[h.signs p];by_cases hs:Zp b j=1/\Uo (Z5 b j)=false;·rw[Y5 hs]at ht;cases ht
 rw[Y3 hs]at ht ⊢;simp only[Except.ok.injEq,Prod.mk.injEq]at ht;obtain⟨rfl,rfl⟩:=ht;rw[Nat.add_assoc,h.cut c2];rfl
def Win.stand{T b:kB}{o:Nat}(h:Win T b o)(he:T.size=o+b.size):∀(r:List Tok) (i:Nat),i<=b.size->S3 b i r->S3 T (o+i) (r.map (Tok.shift o)):=by
 intro r;induction r with
 |nil=>intro i _ g;exact g.elim
 |cons t r J=>
   intro i hi g;obtain⟨s1,X,O,Y⟩:=Zv Zt b (b.size-i) i (Y0 _) hi;cases r with
   |nil=>
     obtain⟨p,y⟩:=g;have e:Zf Zt b (b.size-i) i=b.size:=Qe
     have F:Zf Zt T (T.size-(o+i)) (o+i)=T.size:=by
      refine Z3o Zt T _ _ _ (Y0 _) Qe (Y0 _) (λm g p=>?_) λg=>by omega
      have I:=h.byte (i:=m-o) Qe;rw[show o+(m-o)=m by omega]at I;rw[I];exact O _ Qe Qe
     refine⟨by rw[F];exact Y0 _,?_⟩;rw[F,y,e,he];rfl
   |cons u r=>
     obtain⟨k,p,y,U⟩:=g;obtain⟨c1,c2,_⟩:=Xe b p y;refine⟨o+k,?_,?_,J k c2 U⟩;·rw[h.blank hi p];omega
     .rw[h.blank hi p];exact h.tok p y
def S3.back{T:kB}{i g:Nat}{r:List Tok}(h:S3 T g r)(hi:i<=g)(F:g<=T.size)(hb:∀m,i<=m->m<g->Zt (Z5 T m)=true):S3 T i r:=by
 have e:Zf Zt T (T.size-i) i=Zf Zt T (T.size-g) g:=by
  obtain⟨s1,I,J,O⟩:=Zv Zt T (T.size-g) g (Y0 _) F;refine Z3o Zt T _ _ _ (Y0 _) Qe I (λm p y=>?_) O;rcases Nat.lt_or_ge m g with o|o;·exact hb m p o
  .exact J m o y
 match r,h with
 | [t],h=>exact⟨by rw[e];exact h.1,by rw[e];exact h.2⟩
 |t::u::l,⟨k,p,y,o⟩=>exact⟨k,by rw[e];exact p,by rw[e];exact y,o⟩
def Win.join{T a:kB}(h:Win T a 0){r:List Tok}(hr:S3 T (a.size+1) r)(hs:a.size+1<=T.size):∀(l:List Tok) (e:Tok) (i:Nat),i<=a.size->S3 a i (l++[e])->S3 T i (l++r):=by
 intro l;induction l with
 |nil=>
   intro e i hi p;obtain⟨s1,s2,Y,s4⟩:=Zv Zt a (a.size-i) i (Y0 _) hi;have g:a.size<=Zf Zt a (a.size-i) i:=p.1;refine hr.back Qe hs (λm o y=>?_);rcases Nat.lt_or_ge m a.size with h5|h5
   .have O:=h.byte h5;rw[Nat.zero_add]at O;rw[O];exact Y m o Qe
   .have Z:m=a.size:=by omega
    have:=h.stop Qe;rw[Nat.zero_add]at this;rw[Z];exact this
 |cons t l ih=>
   intro e i hi p;have F:∀u q,l++[e]=u::q->∃k,Zf Zt a (a.size-i) i<a.size/\j4 a (Zf Zt a (a.size-i) i)=.ok (t,k)/\S3 a k (l++[e]):=by
    intro u q hq;rw[List.cons_append,hq]at p;obtain⟨k,g,o,y⟩:=p;exact⟨k,g,o,by rw[hq];exact y⟩
   obtain⟨u,q,hq⟩:∃u q,l++[e]=u::q:=by
    cases l with
    |nil=>exact⟨_,_,rfl⟩
    |cons u q=>exact⟨_,_,rfl⟩
   obtain⟨k,g,o,y⟩:=F u q hq;obtain⟨c1,c2,_⟩:=Xe a g o;have U:=ih e k c2 y;obtain⟨u',q',X⟩:∃u q,l++r=u::q:=by
    cases l with
    |nil=>
      cases r with
      |nil=>exact hr.elim
      |cons u q=>exact⟨_,_,rfl⟩
    |cons u q=>exact⟨_,_,rfl⟩
   rw[List.cons_append,X];rw[X]at U;have I:=h.blank hi g;simp only[Nat.zero_add]at I;have J:=h.tok g o;simp only[Nat.zero_add]at J;have e5:t.shift 0=t:=by unfold Tok.shift;simp
   rw[e5]at J;exact⟨k,by rw[I];have:=h.size;omega,by rw[I];exact J,U⟩
def Zlz(a s b:kB)(hs:s.size=1)(hb:Zt (Z5 s 0)=true):Win (a++s++b) a 0:=by
 refine Zrd ?_;intro sz;refine⟨by omega,λi hi=>?_,λ_=>?_⟩
 .have g:i<a.data.size:=hi;simp only[ByteArray.data_append,Nat.zero_add,Array.getD_eq_getD_getElem?];rw[Array.getElem?_append,Y5 Qi,Array.getElem?_append,Y5 g]
 .rw[Nat.zero_add];have e:Z5 (a++s++b) a.size=Z5 s 0:=by
   unfold Z5;have g:a.data.size=a.size:=rfl;have m:s.data.size=1:=hs;simp only[ByteArray.data_append,Array.getD_eq_getD_getElem?];rw[Array.getElem?_append,Y5 Qi,Array.getElem?_append,Y3 Qe,g,Nat.sub_self]
  rw[e];exact hb
def Zpx(a s b:kB)(hs:s.size=1):Win (a++s++b) b (a.size+1):=by
 refine Zrd ?_;intro sz;refine⟨by omega,λi hi=>?_,λh=>by omega⟩;have g:a.data.size=a.size:=rfl;have m:s.data.size=1:=hs;simp only[ByteArray.data_append,Array.getD_eq_getD_getElem?];rw[Array.getElem?_append,Y3 Qi];simp only[Array.size_append,g,m];rw[show a.size+1+i-(a.size+1)=i by omega]
def Zot{a s b:kB}{l m:List Tok}{e:Tok}(hs:s.size=1)(hb:Zt (Z5 s 0)=true)(o:Vd a=.ok (l++[e]))(p:Vd b=.ok m) :
 Vd (a++s++b)=.ok (l++m.map (Tok.shift (a.size+1))):=by
 refine Zrd ?_;intro sz;have g:=(Zpx a s b hs).stand sz m 0 (Yh _) (Z66 p);rw[Nat.add_zero]at g;have u:=(Zlz a s b hs hb).join g Qe l e 0 (Yh _) (Z66 o);have:=Zlw (a++s++b) _ ((a++s++b).size+1) 0 [] (Yh _) Qe u;simpa[Vd]using this
