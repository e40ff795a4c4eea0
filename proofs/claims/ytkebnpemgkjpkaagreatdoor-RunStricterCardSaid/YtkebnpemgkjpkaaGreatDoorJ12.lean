import Derived.Test.YtkebnpemgkjpkaaGreatDoorJ11
set_option maxRecDepth 100000
set_option linter.all false
namespace Go.Proofs.YtkebnpemgkjpkaaGreatDoor
open Go Go.RowKit Go.Proofs.Tryz Tryz
section
variable {V:VF}{D:DF}{b:Int}{n:NT}{sc:Int}{fr:Frm}{s:MSt}{d:Nat}
def Anc.le{H:LHeap}(hw:H.WF){v sc:Int}(a:Anc H v sc):v<=sc:=by
 induction a with
 |refl=>exact Int.le_refl _
 | @up sc c hc _ g=>
   obtain⟨m,rfl,hm⟩:=LHeap.scope?_some hc;have:=(hw m c hm).2;omega
def Zfv(h:Inv s (d+13600))(a:FAt s sc fr)(hst:n.stm)(hm:n.tree.many<=1500) :
 Inv (s.evalS n sc fr) d/\Ext s (s.evalS n sc fr)/\FAt (s.evalS n sc fr) (if n.lets.isEmpty then sc else s.next) fr:=by
 refine Zvi ?_;intro hq l1 l2 l3;unfold MSt.evalS;dsimp only
 obtain⟨s1,U⟩:=zX (s.looses n.vars fr.vars)
 obtain⟨J,a2⟩:=Zcq (l:=n.vars) (sc:=fr.vars) (d:=d+12100) (s:=s) (h.less Px);have ez:s1.H.scopes.length=s.H.scopes.length:=by
  have m:∀(l:List kB) (u:MSt),(u.looses l fr.vars).H.scopes.length=u.H.scopes.length:=by
   intro l;induction l with
   |nil=>intro u;rfl
   |cons x l ih=>
     intro u;refine(ih (u.loose fr.vars x)).trans ?_;exact Zzf
  rw[U];exact m _ _
 have X:s1.next=s.next:=by unfold MSt.next;rw[ez]
 rw[<-U]at J a2 ⊢;have I:FAt s1 sc fr:=a.ext a2;rw[X];obtain⟨y,Y⟩:=zX ((if n.lets.isEmpty=true then s1 else(s1.opens sc (-1) (-3)).lets n.lets s.next))
 rw [← Y];have m:Inv y (d + 9000)∧Ext s1 y∧FAt y (if n.lets.isEmpty=true then sc else s.next) fr:=by
  rw[Y];cases n.lets.isEmpty with
  |true=>exact⟨J.less Px,Ext.refl _,I⟩
  |false=>
    simp only[Bool.false_eq_true,if_false];obtain⟨b1,b2⟩:=J.opens (d:=d+12099) (outer:=sc) (object:=-1) (owner:=-3) (by have:=I.lo;omega) I.hi Py Px;obtain⟨c1,c2⟩:=VO (l:=n.lets) (sc:=s.next) (d:=d+10599) (b1.less Px);have F:=I.opens b2;rw[X]at F;exact⟨c1.less Px,b2.trans c2,F.ext c2⟩
 obtain⟨k1,k2,O⟩:=m
 obtain⟨F,f2⟩:=Z6k (p:=λs t=>s.loose fr.vars t) (g:=λs t v=>if 0<=s.H.objectOf fr.vars then s.put (s.H.objectOf fr.vars) t v false else s.write fr.vars t v) (s:=y) (d:=d) (l:=n.funcs) (sc:=if n.lets.isEmpty=true then sc else s.next) (fr:=fr)
  (k1.less Px) (V1 hst hm) O.lo O.hi (fun u e x _ hi => Z8s hi) (fun u e x v _ hi Z => by
   split;·exact Ez hi Z
   .exact Z87 hi Z)
 obtain⟨g1,g2⟩:=Inv.turn (k:=(y.funcs (λs t=>s.loose fr.vars t) (λs t v=>if 0<=s.H.objectOf fr.vars then s.put (s.H.objectOf fr.vars) t v false else s.write fr.vars t v) n.funcs (if n.lets.isEmpty=true then sc else s.next) fr).steps) (c:=(y.funcs (λs t=>s.loose fr.vars t) (λs t v=>if 0<=s.H.objectOf fr.vars then s.put (s.H.objectOf fr.vars) t v false else s.write fr.vars t v) n.funcs (if n.lets.isEmpty=true then sc else s.next) fr).calls) (v:=LVal.zero) (d':=d) F (Int.le_refl _) F.steps.2 F.calls (sn _) (Y0 _);have x:=(f2.trans g2)
 exact⟨g1,(a2.trans k2).trans x,O.ext x⟩
def Zc6:(s.evalS n sc fr).calls=s.calls/\(s.evalS n sc fr).steps=s.steps:=by
 unfold MSt.evalS;dsimp only
 have h1:=Zhb (s:=s) (sc:=fr.vars) (l:=n.vars);obtain⟨s1,G⟩:=zX (s.looses n.vars fr.vars)
 rw[<-G]at h1 ⊢;obtain⟨m,u⟩:=zX ((if n.lets.isEmpty=true then s1 else(s1.opens sc (-1) (-3)).lets n.lets s1.next))
 rw[<-u];have y:m.calls=s1.calls/\m.steps=s1.steps:=by
  rw[u];split;·exact⟨rfl,rfl⟩
  .exact Z59
 have F:=Z75 (s:=m) (p:=λs t=>s.loose fr.vars t) (g:=λs t v=>if 0<=s.H.objectOf fr.vars then s.put (s.H.objectOf fr.vars) t v false else s.write fr.vars t v) (l:=n.funcs) (sc:=if n.lets.isEmpty=true then sc else s1.next) (fr:=fr) (λ_ _=>Zc2) (λ_ _ _=>by split<;>exact⟨rfl,rfl⟩);exact⟨F.1.trans (y.1.trans h1.1),F.2.trans (y.2.trans h1.2)⟩
def Zc7(I:DH D b)(h:Inv s (d+13600))(a:FAt s sc fr)(hst:n.stm)(hm:n.tree.many<=1500)(hb:b<=s.steps)(hs:s.steps<=20000):Fin s d VQ (Uk D n sc fr s):=by
 obtain⟨h1,y,J⟩:=Zfv h a hst hm;obtain⟨F,O⟩:=Zc6 (s:=s) (n:=n) (sc:=sc) (fr:=fr);have hf:=Z5f I n.kids _ (X8 hst hm) h1 J Px Px;unfold Uk;obtain⟨g,m,p,u⟩:=hf;split
 .rename_i t v hr;rw[hr]at g m p u;exact⟨g,y.trans m,p.trans F,g.last,u.2⟩
 .rename_i t x hr;rw[hr]at g m p u;exact⟨g,y.trans m,p.trans F,by cases x<;>exact u⟩
def Zb3{text:kB}(h:Wi text=some n):n.stm/\n.tree.many<=1500/\n.kind=1:=by
 unfold Wi at h;cases hp:Zt text with
 |error x=>rw[hp]at h;cases h
 |ok t=>
   rw[hp]at h;simp only[Option.some.injEq]at h;subst h;obtain⟨l,h1,g,m⟩:=Zal hp;have hb:=Zaf t;refine⟨?_,by rw[hb];exact m,?_⟩
   .unfold NT.stm;rw[<-K9,hb,g];exact h1
   .rw[<-Z6,hb,g];rfl
def Zd8{text:kB}(g:DH D b)(h:Inv s (d+13601))(a:FAt s sc fr)(hb:b<=s.steps)(hs:s.steps<=20000):Fin s d VQ (S3 D text sc fr s):=by
 unfold S3;split;·exact Ztd
 .rename_i n hn;obtain⟨h1,m,_⟩:=Zb3 hn;split;·exact Ztd
  .split
   .obtain⟨p,i2⟩:=h.opens (d:=d+13600) (outer:=sc) (object:=-1) (owner:=-3) R7 a.hi Py Px;have f:=a.opens i2;refine Fin.pre i2 rfl (Zc7 g p ⟨f.root,f.lo,f.hi,.refl,f.lo⟩ h1 m hb hs)
   .split;·exact Ztd
    .exact Zc7 g (h.less Px) ⟨a.root,a.lo,a.hi,a.anc,a.vlo⟩ h1 m hb hs
def Zoz(a:FAt s sc fr):FAt s s.top ⟨false,s.outer⟩:=by
 have r:=a.root;obtain⟨c,h1,g⟩:=r.one;refine⟨r,by rw[r.top];decide,by rw[r.top];have:=r.many;omega,?_,by show 0<=s.outer;rw[r.outer];exact Int.le_refl _⟩;show Anc s.H s.outer s.top;rw[r.outer,r.top];refine .up (c:=c) ?_ (by rw[g];exact .refl);unfold LHeap.scope?;rw[Y3 Py];exact h1
def Zn3(h:Inv s d){o:Int}:0<=s.H.code o/\s.H.code o<3+s.clos.length:=by
 unfold LHeap.code;cases hob:s.H.object? o with
 |none=>exact⟨by decide,by show(0:Int)<_;omega⟩
 |some x=>
   obtain⟨m,rfl,hm⟩:=LHeap.object?_some hob;have:=h.obj x (Yd hm);exact⟨this.1,this.2.1⟩
def Zrv{r:MSt×Except Er LVal}(h:Inv s d)(hr:Fin {s with calls:=s.calls+1} d VQ r):Fin s d VQ (T4 s r):=by
 obtain⟨p,g,u,m⟩:=hr;have hc:r.1.calls=s.calls+1:=u;have hx:Ext s r.1:=⟨g.lo,g.scp,g.ls,g.own,g.clo,g.glob,g.outer,g.top,g.steps,g.log,g.seen⟩
 have G:=h.calls;obtain⟨y,F⟩:=Inv.turn (k:=r.1.steps) (c:=r.1.calls-1) (v:=s.last) (d':=d) p (Int.le_refl _) p.steps.2 ⟨by omega,by omega⟩ (h.last.mono hx.lo) (Y0 _);refine⟨y,hx.trans F,by show r.1.calls-1=s.calls;omega,?_⟩;unfold T4;cases hr2:r.2 with
 |ok v=>rw[hr2]at m;exact m
 |error x=>rw[hr2]at m;cases x<;>exact m
def Zir{code:Int}{args:List LVal}(g:DH D b)(h:Inv s (d+17000))(a:FAt s sc fr)(hc:0<=code/\code<3+s.clos.length/\code≠0/\code≠1)(m:∀v∈args,VQ s v)(hl:args.length<=1500)(hb:b<=s.steps)(hs:s.steps<=20000) :
 Fin s d VQ (T9 D n sc fr code args s):=by
 unfold T9;split
 .have p:(code-3).toNat<s.clos.length:=by omega
  rw[List.getD_eq_getElem?_getD,Y6 p,Option.getD_some];exact Zlq g h a.root (h.clo _ (List.getElem_mem _)) m hl hb hs
 .split;·exact Zd8 g (h.less Px) a hb hs
  .exact Zd8 g (h.less Px) (Zoz a) hb hs
def Zj4{code:Int}{args:List LVal}(m:DH D b)(h:Inv s (d+17000))(a:FAt s sc fr)(hc:0<=code/\code<3+s.clos.length)(g:∀v∈args,VQ s v)(hl:args.length<=1500)(hb:b<=s.steps)(hs:s.steps<=20000) :
 Fin s d VQ (TE D n sc fr code args s):=by
 unfold TE;split;·exact Fin.raise (h.less Px) (Ext.refl _) rfl hs K0.2.1
 .split
  .obtain⟨p,i2⟩:=(h.less (d':=d+1) Px).log (t:=U1 (args.map s.H.shown));exact Fin.ok p i2 rfl hs (sn _)
  .split;·exact Fin.ok (h.less Px) (Ext.refl _) rfl hs (sn _)
   .split
    .refine Fin.ok (h.less Px) (Ext.refl _) rfl hs ?_;cases args with
     |nil=>exact sn _
     |cons v vs=>exact g v PE
    .split;·exact Fin.raise (h.less Px) (Ext.refl _) rfl hs K0.2.2.1
     .rename_i c0 c1 c2 c3 F;have I:=h.calls;obtain⟨u,y⟩:=Inv.turn (k:=s.steps) (c:=s.calls+1) (v:=s.last) (d':=d+17000) h (Int.le_refl _) h.steps.2 ⟨by omega,by omega⟩ h.last (Y0 _);exact Zrv (h.less Px) (Zir m u (a.ext y) ⟨hc.1,hc.2,c0,c1⟩ g hl hb hs)
def Zr1(m:VH V b)(F:DH D b)(hw:n.wf .v)(hk:n.kind=35)(hm:n.tree.many<=1500)(h:Inv s (d+17000))(a:FAt s sc fr)(hb:b<=s.steps)(hs:s.steps<=20000):Fin s d VQ (UO V D n sc fr s):=by
 obtain⟨x',l',h1,I,g⟩:=AaJ hw P8;rw[K9]at h1;obtain⟨x,l,g1,rfl,rfl⟩:=UE h1;have J:∀(l:List NT),Wf .vl (rq l)->∀y∈l,y.wf .v:=by
  intro l;induction l with
  |nil=>intro _ y hy;cases hy
  |cons z l ih=>
    intro g y hy;obtain⟨k1,k2⟩:=Zi0 (t:=z.tree) (l:=rq l) g;exact XG
 have O:∀y∈l,y.wf .v/\y.tree.many<=1500:=λy hy=>⟨J l g y hy,by have:=Em (n:=n) (x:=y) (by rw[g1];simp[hy]);omega⟩;have U:=SP (n:=n);rw[g1,List.length_cons]at U;unfold UO;rw[So g1,show n.kids.tail=l by rw[g1];rfl];refine Fin.bind (m.at PT I hm h a hb hs) (λt qh X j2 j3 Y j5=>?_) Px;refine Fin.bind (Zi9 m l t O X (a.ext j2) Qz Y) (λu args k1 k2 k3 Z p=>?_) Px
 refine Zj4 F k1 ((a.ext j2).ext k2) ?_ p.1 (by rw[p.2];omega) (by have:=j2.steps;have:=k2.steps;omega) Z;unfold codeOf;split;·exact Zn3 k1
 .exact⟨by decide,by omega⟩
def Zlt(u:VH V b)(Y:DH D b)(hw:n.wf .v)(OJ:32<=n.kind)(lV:n.kind≠37)(hm:n.tree.many<=1500)(h:Inv s (d+17000))(a:FAt s sc fr)(hb:b<=s.steps)(hs:s.steps<=20000):Fin s d VQ (Cj V D n sc fr s):=by
 have one:n.kind=32\/n.kind=33\/n.kind=34->∃x,n.kids=[x]/\x.wf .v:=by
  intro hk;obtain⟨x',h1,J⟩:=wv1 hw QY QY;obtain⟨x,g1,rfl⟩:=Sm h1;exact⟨x,g1,J⟩
 unfold Cj;split
 .rename_i hk;obtain⟨x,g1,p⟩:=one Px;rw[So g1];dsimp only
  split;·exact Fin.ok (h.less Px) (Ext.refl _) rfl hs (Zdy K0.2.2.2.2)
  .refine Fin.bind (u.at PT p hm h a hb hs) (λt v g I O m U=>?_) Px;exact Fin.ok (g.less Px) (Ext.refl _) rfl m (Zdy (Zk7 _ _))
 .split
  .rename_i hk;obtain⟨x,g1,p⟩:=one Px;rw[So g1];refine Fin.bind (u.at PT p hm h a hb hs) (λt v g I O m U=>?_) Px;exact Fin.ok (g.less Px) (Ext.refl _) rfl m (U' _)
  .split
   .rename_i hk;obtain⟨x,g1,p⟩:=one Px;rw[So g1];have:=Em (n:=n) (x:=x) PT;exact Zkt u p Px (h.less Px) a hb hs
   .split
    .rename_i hk;exact Zr1 u Y hw hk hm h a hb hs
    .split
     .rename_i hk;obtain⟨_,x',h1,J⟩:=Tq hw P8;obtain⟨x,g1,rfl⟩:=Sm h1;rw[So g1];refine Fin.bind (u.at PT J hm h a hb hs) (λt v g I O m U=>?_) Px;split;·exact Fin.ok (g.less Px) (Ext.refl _) rfl m (Zsk λx hx=>(g.obj x hx).2.2.1)
      .exact Fin.raise (g.less Px) (Ext.refl _) rfl m K0.2.1
     .split
      .rename_i hk;have X:=Abc hw P8;rw[K9]at X;have Z:∀(l:List NT),Wf .ol (rq l)->∀y∈l,∃x,y.kids=[x]/\x.wf .v:=by
        intro l;induction l with
        |nil=>intro _ y F;cases F
        |cons z l ih=>
          intro h3 y F;obtain⟨⟨_,_,x',k1,k2⟩,k3⟩:=Zj0 (t:=z.tree) (l:=rq l) h3;rcases List.mem_cons.1 F with rfl|F
          .obtain⟨x,g1,rfl⟩:=Sm k1;exact⟨x,g1,k2⟩
          .exact ih k3 y F
       have aE:=SP (n:=n);obtain⟨i1,i2⟩:=h.object (d:=d+16999) (code:=0) Py Px;have jK:(s.object 0).H.objects.length=s.H.objects.length+1:=Rn
       refine Fin.pre i2 rfl (Fin.bind (Zev u (o:=s.nextO) n.kids _ (λk hk=>?_) (i1.less Px) (a.ext i2) hb hs) (λt v g I O m U=>?_) (Y0 _))
       .obtain⟨x,g1,p⟩:=Z _ X k hk;have m1:=Em hk;have m2:=Em (n:=k) (x:=x) PT;exact⟨x,g1,p,by omega⟩
       .refine Fin.ok g (Ext.refl _) rfl m (Te (by show(0:Int)<=s.H.objects.length;omega) ?_);have:=I.lo;show(s.H.objects.length:Int)<_;omega
      .exact Fin.ok (h.less Px) (Ext.refl _) rfl hs (sn _)
def Zm4(g:VH V b)(O:DH D b)(hw:n.wf .v)(hm:n.tree.many<=1500)(h:Inv s (d+17000))(a:FAt s sc fr)(hb:b<=s.steps)(hs:s.steps<=20000):Fin s d VQ (v7 V D n sc fr s):=by
 have hl:∀{e:Nat},e<=d+17000->Inv s e:=λhe=>h.less he;have U:=Zlm hw;rw[Z6]at U;unfold v7;split
 .rename_i hk;have:=Ac0 hw P8;rw[Zvt]at this;exact Fin.ok (hl Px) (Ext.refl _) rfl hs (Zic Px Px)
 .split
  .rename_i hk;have:=Adf hw P8;rw[Zko]at this;exact Fin.ok (hl Px) (Ext.refl _) rfl hs (Zdy this.1)
  ·split;·exact Fin.ok (hl Px) (Ext.refl _) rfl hs (U' _)
   ·split;·exact Fin.ok (hl Px) (Ext.refl _) rfl hs Zt4
    .split;·exact Fin.ok (hl Px) (Ext.refl _) rfl hs (sn _)
     .split;·exact Zr8 (hl Px) hs
      .split
       .rename_i hk;exact Ztk g hw hk hm (hl Px) a hb hs
       .split
        .rename_i hk;obtain⟨x',y',h1,F,I⟩:=wv2 hw QY QY;obtain⟨x,y,g1,rfl,rfl⟩:=UN h1;rw[So g1,Vs g1];refine Fin.bind (g.at PT F hm h a hb hs) (λt v m j2 X p J=>?_) Px;split;·exact Fin.ok (m.less Px) (Ext.refl _) rfl p J
         .exact g.at PT I hm (m.less Px) (a.ext j2) Qz p
        .split
         .rename_i hk;obtain⟨x',y',h1,F,I⟩:=wv2 hw QY QY;obtain⟨x,y,g1,rfl,rfl⟩:=UN h1;rw[So g1,Vs g1];refine Fin.bind (g.at PT F hm h a hb hs) (λt v m j2 X p J=>?_) Px;refine Fin.bind (g.at PT I hm m (a.ext j2) Qz p) (λu w Y k2 k3 Z k5=>?_) Px;exact Zke (Y.less Px) Z
         .split
          .rename_i hk;obtain⟨i1,i2,i3⟩:=Z74 (d:=d) (sc:=sc) (fr:=fr) (n:=n) (h.less Px) ⟨.inr ⟨hk,hw⟩,hm⟩ a.lo a.hi;obtain⟨f1,f2⟩:=Z6h (s:=s) (n:=n) (sc:=sc) (fr:=fr);exact Fin.ok i1 i2 f1 Px (Te (by show(0:Int)<=s.H.objects.length;omega) (by rw[i3];show(s.H.objects.length:Int)<_;omega))
          .exact Zlt g O hw Px Qd hm h a hb hs
def Zit{α:Type}{Q:MSt->α->Prop}{k:RM α}(h:Inv s d)(a:FAt s sc fr)(hs:s.steps<=20000)
 (hk:∀t,Inv t (d+20000)->FAt t sc fr->t.steps=s.steps+1->t.steps<=20000->Fin t d Q (k t)):Fin s d Q (tm k s)/\s.steps<(tm k s).1.steps:=by
 have m:=h.steps;obtain⟨g,i2⟩:=Inv.turn (k:=s.steps+1) (c:=s.calls) (v:=s.last) (d':=d+20000) h Px Px h.calls h.last Px;unfold tm;split;·exact⟨⟨g.less Px,i2,rfl,by show s.steps+1=20001;omega⟩,by show s.steps<s.steps+1;omega⟩
 .have hf:=hk {s with steps:=s.steps+1} g (a.ext i2) rfl (by show s.steps+1<=20000;omega);refine⟨Fin.pre i2 rfl hf,?_⟩;have:=hf.2.1.steps;have e:({s with steps:=s.steps+1}:MSt).steps=s.steps+1:=rfl;omega
def Fin.and{α:Type}{Q:MSt->α->Prop}{P:MSt->Prop}{r:MSt×Except Er α}(h:Fin s d Q r)(hp:P r.1):Fin s d (λt v=>Q t v/\P t) r:=by
 obtain⟨h1,m,p,g⟩:=h;refine⟨h1,m,p,?_⟩;cases hr:r.2 with
 |ok v=>rw[hr]at g;exact⟨⟨g.1,hp⟩,g.2⟩
 |error x=>rw[hr]at g;cases x<;>exact g
theorem Zeq(p:VH V b)(F:DH D b){x y:NT}(hx:n.kids=[x,y])(I:x.wf .v)(J:y.wf .s)(hm:n.tree.many<=1500) :
 ∀(g:Nat) (s:MSt),20001<=s.steps+g->Inv s d->FAt s sc fr->b<=s.steps->s.steps<=20000->Fin s d DQ (S6 V D n sc fr g s)
 |0,s,hg,h,a,hb,hs=>by omega
 |g+1,s,hg,h,a,hb,hs=>by
   have mx:=Em (n:=n) (x:=x) P9;have my:=Em (n:=n) (x:=y) P9;unfold S6;rw[So hx,Vs hx];obtain⟨f1,f2⟩:=p x sc fr s d I Px h a hb hs;refine Fin.bind (f1.and (P:=λt=>s.steps<t.steps) f2) (λt v O m j3 U j5=>?_) (Y0 _);split
   .obtain⟨f3,f4⟩:=F y sc fr t d J Px O (a.ext m) (by have :=m.steps;omega) U;refine Fin.bind f3 (λu r X Y k3 Z k5=>?_) (Y0 _);split;·exact Fin.ok X (Ext.refl _) rfl Z k5
    .have:=Y.steps;have:=m.steps;exact Zeq p F hx I J hm g u (by have:=j5.2;omega) X ((a.ext m).ext Y) Px Z
   .exact Fin.ok O (Ext.refl _) rfl U (sn _)
def Znr(y:DH D b)(hst:n.stm)(hm:n.tree.many<=1500)(h:Inv s (d+12000))(a:FAt s sc fr)(hb:b<=s.steps)(hs:s.steps<=20000):Fin s d DQ (UG D n sc fr s):=by
 unfold UG;split;·exact Z5f y _ _ (X8 hst hm) (h.less Px) a hb hs
 .have hq:=SP (n:=n);have l2:=Z70 (n:=n);have l3:=Z6w (n:=n);obtain⟨U,i2⟩:=h.opens (d:=d+11999) (outer:=sc) (object:= -1) (owner:=n.num) (by have :=a.lo;omega) a.hi Py Px;have f:=a.opens i2;obtain⟨X,m⟩:=VO (l:=n.lets) (sc:=s.next) (d:=d+10000) (U.less Px)
  obtain⟨Y,F⟩:=Z6k (p:=λs _=>s) (g:=λt a v=>t.declare s.next a 0 v) (d:=d) (l:=n.funcs) (sc:=s.next) (fr:=fr) (X.less Px) (V1 hst hm) f.lo (by have:=m.ls;have:=f.hi;omega)
   (λu e x _ hi=>⟨hi.less Px,Ext.refl _⟩) (λu e x v _ hi Z=>Uw hi Z Py Py)
  have I:=Z75 (s:=(s.opens sc (-1) n.num).lets n.lets s.next) (p:=λs _=>s) (g:=λt a v=>t.declare s.next a 0 v) (l:=n.funcs) (sc:=s.next) (fr:=fr) (λ_ _=>⟨rfl,rfl⟩) (λ_ _ _=>⟨rfl,rfl⟩);have J:=Z59 (s:=s.opens sc (-1) n.num) (l:=n.lets) (sc:=s.next);have x:=(i2.trans m).trans F;have e1:(s.blockS n sc fr).calls=s.calls:=I.1.trans J.1;have O:(s.blockS n sc fr).steps=s.steps:=I.2.trans J.2;exact Fin.pre x e1 (Z5f y _ _ (X8 hst hm) Y (f.ext (m.trans F)) (O.symm▸hb) (O.symm▸hs))
theorem Fin.sort{α:Type}{Q:MSt->α->Prop}{t:MSt}{r:Except Er α}(h:Fin s d Q (t,r)):Inv t d/\Ext s t/\t.calls=s.calls:=⟨h.1,h.2.1,h.2.2.1⟩
theorem Z50(p:DH D b):∀(l:List NT) (r:MSt×Except Er (Bool×LVal)),(∀k∈l,∃c,k.kids=[c]/\c.wf .s/\c.tree.many<=1500)->FAt s sc fr->b<=s.steps->Fin s (d+2*l.length) DQ r->Fin s d DQ (vX D sc fr l r)
 | [],r,_,_,_,h=>h.less Px
 |k::l,(t,r),hl,a,hb,h=>by
   obtain⟨c,hc,J,O⟩:=hl k PE;obtain⟨h1,m,u⟩:=h.sort;rw[List.length_cons]at h h1;have U:b<=t.steps:=by have:=m.steps;omega
   have F:∀k∈l,∃c,k.kids=[c]/\c.wf .s/\c.tree.many<=1500:=λy hy=>hl y Sb;unfold vX;rw[So hc];have fin:∀(o:Except Er (Bool×LVal)),Fin s (d+2*l.length) DQ (t,o)->t.steps<=20000->Fin s d DQ (match D c sc fr t with
    |(s1,.ok (false,_))=>vX D sc fr l (s1,o)
    |x=>vX D sc fr l x):=by
    intro o ho hst;obtain⟨g,_⟩:=p c sc fr t (d+2*l.length) J O (h1.less Px) (a.ext m) U hst;split
    .rename_i s1 v hr;rw[hr]at g;refine Z50 p l _ F a hb ⟨g.1,m.trans g.2.1,g.2.2.1.trans u,?_⟩;have X:s1.steps<=20000:=g.2.2.2.2;obtain⟨_,_,_,I⟩:=ho;cases o with
     |ok v=>exact⟨LVal.ok.mono I.1 g.2.1.lo,X⟩
     |error x=>
       cases x with
       |stop=>exact absurd (show t.steps=20001 from I) Px
       |thr v=>exact⟨I.1.mono g.2.1.lo,X⟩
    .exact Z50 p l _ F a hb (Fin.pre m u g)
   cases r with
   |error x=>
     cases x with
     |stop=>exact h.less Px
     |thr v=>
       have Y:v.ok t.H.objects.length:=h.2.2.2.1;have hst:t.steps<=20000:=h.2.2.2.2;dsimp only
       split
       .obtain⟨i1,i2⟩:=h1.opens (d:=d+2*l.length+1) (outer:=sc) (object:=-1) (owner:=k.num) R7 (a.ext m).hi Py Px;obtain⟨j1,Z⟩:=Uw (sc:=t.next) (kind:=0) (name:=k.text) (v:=v) i1 (Y.mono i2.lo) Py Py;have f:=((a.ext m).opens i2).ext Z;obtain⟨g,_⟩:=p c t.next fr _ (d+2*l.length) J O j1 f U hst;exact Z50 p l _ F a hb (Fin.pre (m.trans (i2.trans Z)) u g)
       .exact fin _ ⟨h1.less Px,m,u,Y,hst⟩ hst
   |ok v=>
     have hst:t.steps<=20000:=h.2.2.2.2;dsimp only
     split;·exact Z50 p l _ F a hb (h.less Px)
     .exact fin _ (h.less Px) hst
def Zvj(g:DH D b)(hw:n.wf .s)(hk:n.kind=12)(hm:n.tree.many<=1500)(h:Inv s (d+4))(a:FAt s sc fr)(hb:b<=s.steps)(hs:s.steps<=20000):Fin s d DQ (Ni D n sc fr s):=by
 obtain⟨x',J,h1,u,m,y⟩:=Acx hw P8;rw[K9]at h1;obtain⟨x,l,g1,rfl,rfl⟩:=UE h1;have O:l.length<=2:=by rw[Z3i,Ym]at m;exact m
 have mx:=Em (n:=n) (x:=x) PT;unfold Ni;rw[So g1,show n.kids.tail=l by rw[g1];rfl];refine Z50 g l _ (λk hk=>?_) a hb ((g x sc fr s _ (Wf.blk u) Px (h.less Px) a hb hs).1);obtain⟨_,c',F,I⟩:=y k.tree (by rw[Z3i];exact List.mem_map.2 ⟨k,hk,rfl⟩);obtain⟨c,p,rfl⟩:=Sm F;have U:=Em (n:=n) (x:=k) (by rw[g1];simp[hk]);have X:=Em (n:=k) (x:=c) (by rw[p];simp);exact⟨c,p,Wf.blk I,by omega⟩
theorem Z8p(h:Inv s d)(hs:s.steps<=20000):Fin s d DQ (d9 XU s):=Fin.ok h (Ext.refl _) rfl hs (sn _)
def Zv2 {f:Nat} {p:Int} {v:LVal} (U:VH V b) (m:DH D b) (hw:n.wf .s) (hm:n.tree.many≤1500) (h:Inv s (d + 12000)) (a:FAt s sc fr) (hb:b≤s.steps) (hs:s.steps≤20000) (hf:20001≤s.steps + f) (u:VQ s v) :
 Fin s d DQ (BF V D f n sc fr p v s):=by
 unfold BF;split
 .split;·exact Z8p (h.less Px) hs
  .exact Fin.bind (Zd1 (d:=d) (h.less Px) u hs) (λt _ X j2 j3 Y _=>Z8p X Y) (Y0 _)
 .split
  .obtain⟨F,i2⟩:=(h.less (d':=d+1) Px).near (Zj5 (n:=sc) (name:=n.text) u);exact Fin.ok F i2 rfl hs (sn _)
  .split
   .rename_i hk;have Z:=Zi3 hw P8;have J:=(wk Z).2.1;rw[K9]at J;exact Znr m J hm h a hb hs
   .split
    .rename_i hk;obtain⟨x',y',h1,I,g⟩:=ws7 hw P8;rcases g with g|⟨z',g,h4⟩
     .obtain⟨x,y,g1,rfl,rfl⟩:=UN g;have O:=Em (n:=n) (x:=y) PT;rw[Vs g1];split;·exact(m y sc fr s d I Px (h.less Px) a hb hs).1
      .rw[Y5 (show n.kids.length<=2 by rw[g1];exact Y0 2)];exact Z8p (h.less Px) hs
     .obtain⟨x,y,z,g1,rfl,rfl,rfl⟩:=Zsc g;have O:=Em (n:=n) (x:=y) PT;have mz:=Em (n:=n) (x:=z) PT;rw[Vs g1,Ztt g1];split;·exact(m y sc fr s d I Px (h.less Px) a hb hs).1
      .split;·exact Z8p (h.less Px) hs
       .exact(m z sc fr s d h4 Px (h.less Px) a hb hs).1
    .split
     .rename_i hk;obtain⟨x',y',h1,I,g⟩:=ws8 hw (by rw[Z6];exact .inl hk);obtain⟨x,y,g1,rfl,rfl⟩:=UN h1;exact Zeq U m g1 I g hm f s hf (h.less Px) a hb hs
     .split
      .rename_i hk;obtain⟨x',y',h1,I,g⟩:=ws8 hw (by rw[Z6];exact .inr hk);obtain⟨x,y,g1,rfl,rfl⟩:=UN h1;have O:=Em (n:=n) (x:=y) PT;rw[Vs g1];split
       .rename_i h5;have hr:=u.2.2.2.2 h5;obtain⟨F,i2⟩:=h.opens (d:=d+11999) (outer:=sc) (object:=v.n) (owner:=-2) R7 a.hi Px hr.2;exact Fin.pre i2 rfl ((m y s.next fr _ d g Px (F.less Px) (a.opens i2) hb hs).1)
       .exact Fin.raise (h.less Px) (Ext.refl _) rfl hs K0.2.1
      .split;·exact Fin.ok (h.less Px) (Ext.refl _) rfl hs u
       .split;·exact Fin.thr (h.less Px) (Ext.refl _) rfl hs u
        .split
         .rename_i hk;exact Zvj m hw hk hm (h.less Px) a hb hs
         .split
          .obtain⟨F,i2⟩:=Inv.turn (k:=s.steps) (c:=s.calls) (v:=v) (d':=d) h (Int.le_refl _) h.steps.2 h.calls u Px;exact Fin.ok F i2 rfl hs (sn _)
          .exact Z8p (h.less Px) hs
def Zvp(u:VH V b)(hw:n.wf .s)(hm:n.tree.many<=1500)(h:Inv s d)(a:FAt s sc fr)(hb:b<=s.steps)(hs:s.steps<=20000) :
 Fin s d VQ ((if n.kids.isEmpty=true\/n.kind=5\/n.kind=6\/n.kind=12\/n.kind=8 then d9 LVal.zero else V (n.kid 0) sc fr) s):=by
 split;·exact Fin.ok h (Ext.refl _) rfl hs (sn _)
 .rename_i hk;have F:=Zmd hw;rw[Z6]at F;have g:∃x' p,n.tree.kids=x'::p/\Wf .v [x']:=by
   have m:n.tree.kids≠[]:=λe=>hk (.inl (by rw[Zfu e];rfl));by_cases I:n.kind=2\/n.kind=3\/n.kind=4
   .rcases(ws2 hw (by rw[Z6];exact I)).2 with e|⟨x,e,w⟩;·exact absurd e m
    .exact⟨x,[],e,w⟩
   .by_cases J:n.kind=7
    .obtain⟨x,y,w,_,e⟩:=ws7 hw (by rw[Z6];exact J);rcases e with e|⟨z,e,_⟩;·exact⟨x,_,e,w⟩
     .exact⟨x,_,e,w⟩
    .by_cases O:n.kind=9
     .obtain⟨x,y,e,w,_⟩:=ws8 hw (by rw[Z6];exact .inr O);exact⟨x,_,e,w⟩
     .by_cases U:n.kind=10\/n.kind=11
      .rcases Abq hw (by rw[Z6];exact U)with e|⟨x,e,w⟩;·exact absurd e.1 m
       .exact⟨x,_,e,w⟩
      .by_cases X:n.kind=15
       .obtain⟨x,e,w⟩:=AaQ hw (by rw[Z6];exact X);exact⟨x,_,e,w⟩
       .exact absurd (AaO hw QY) m
  obtain⟨x',p,e,w⟩:=g;rw[K9]at e;obtain⟨x,l,g1,rfl,rfl⟩:=UE e;rw[So g1];exact u.at PT w hm h a hb hs
theorem Zgw:∀f:Nat,VH (wc f).1 (20001-f)/\DH (wc f).2 (20001-f)
 |0=>⟨λn sc fr s d _ _ _ _ hb hs=>by simp at hb;omega,λn sc fr s d _ _ _ _ hb hs=>by simp at hb;omega⟩
 |f+1=>by
   obtain⟨m,y⟩:=Zgw f;refine⟨λn sc fr s d hw hm h a hb hs=>?_,λn sc fr s d hw hm h a hb hs=>?_⟩;·exact Zit h a hs λt h1 g I p=>Zm4 m y hw hm (h1.less Px) g Px p
   .refine Zit h a hs λt h1 g I p=>?_;refine Fin.bind (Zvp m hw hm h1 g Px p) (λu v J F X O U=>?_) Px;have:=F.steps;exact Zv2 m y hw hm (J.less Px) (g.ext F) Px O Px U
end
section
variable {n:NT}{s:MSt}{d:Nat}
def Zlh:Inv MSt.new 20000 where
 wf:=λi c h=>by simp[MSt.new]at h
 own:=rfl
 obj:=λo h=>by cases h
 scp:=λo h=>by cases h
 clo:=λo h=>by cases h
 last:=sn _
 calls:=by decide
 steps:=by decide
 szO:=by decide
 szS:=by decide
 szC:=by decide
 szL:=by decide
 szN:=by decide
def Tr:MSt:=(((((MSt.new.object 0).object 1).put 0 Tc (.ref 1) false).object 2).put 0 sW (.ref 2) false)
def Zjl:Inv Tr 19995/\Tr.H.objects.length=3/\Tr.H.scopes=[]/\Tr.steps=0/\Tr.calls=0:=by
 obtain⟨m,a2⟩:=Zlh.object (d:=19999) (code:=0) Py Py;obtain⟨b1,b2⟩:=m.object (d:=19998) (code:=1) Py Py;have hp:(LVal.ref 1).ok ((MSt.new.object 0).object 1).H.objects.length:=Te Py Py;obtain⟨c1,c2⟩:=Ez (d:=19997) (o:=0) (name:=Tc) (v:=.ref 1) (fx:=false) b1 hp;have p:(((MSt.new.object 0).object 1).put 0 Tc (.ref 1) false).H.objects.length=2:=(ZU hp).lo;obtain⟨u,I⟩:=c1.object (d:=19996) (code:=2) Py Py
 have g:((((MSt.new.object 0).object 1).put 0 Tc (.ref 1) false).object 2).H.objects.length=3:=by
  show((((MSt.new.object 0).object 1).put 0 Tc (.ref 1) false).H.objects++_).length=3;rw[Yi,p];rfl
 have hq:(LVal.ref 2).ok ((((MSt.new.object 0).object 1).put 0 Tc (.ref 1) false).object 2).H.objects.length:=Te Py (by rw[g];decide);obtain⟨y,J⟩:=Ez (d:=19995) (o:=0) (name:=sW) (v:=.ref 2) (fx:=false) u hq;refine⟨y,(ZU hq).lo.trans g,?_,rfl,rfl⟩;have:=(ZU (H:=((((MSt.new.object 0).object 1).put 0 Tc (.ref 1) false).object 2).H) (n:=0) (name:=sW) (fixed:=false) hq).ls;have F:=(ZU (H:=((MSt.new.object 0).object 1).H) (n:=0) (name:=Tc) (fixed:=false) hp).ls;refine List.length_eq_zero_iff.1 (this.trans ?_);exact F
def xz:MSt:={(Tr.opens (-1) 0 (-1)).opens 0 (-1) 0 with glob:=0,outer:=0,top:=1}
def Zcx:Inv xz 19993/\FAt xz 1 ⟨s.calls==0,0⟩/\xz.steps=0/\xz.calls=0:=by
 obtain⟨h1,F,p,u,h5⟩:=Zjl;have z:Tr.H.scopes.length=0:=by rw[p];rfl
 obtain⟨y,i2⟩:=h1.opens (d:=19994) (outer:=-1) (object:=0) (owner:=-1) Py Px Py Px;have z2:(Tr.opens (-1) 0 (-1)).H.scopes.length=1:=by simp[MSt.opens,p]
 obtain⟨g,I⟩:=y.opens (d:=19993) (outer:=0) (object:=-1) (owner:=0) Py Px Py Px;have m:xz.H.scopes=[⟨-1,0,[]⟩,⟨0,-1,[]⟩]:=by
  show(Tr.H.scopes++_)++_=_;rw[p];rfl
 refine⟨⟨g.wf,g.own,g.obj,g.scp,g.clo,g.last,g.calls,g.steps,g.szO,g.szS,g.szC,g.szL,g.szN⟩,⟨⟨rfl,rfl,rfl,?_,?_,?_⟩,by decide,?_,?_,by show(0:Int)<=0;decide⟩,u,h5⟩
 .show 0<Tr.H.objects.length;omega
 .rw[m];decide
 .rw[m];exact⟨_,rfl,rfl⟩
 .rw[m];decide
 .refine .up (c:=⟨0,-1,[]⟩) ?_ .refl;unfold LHeap.scope?;rw[Y3 Py,m];rfl
def Zo9(hst:n.stm)(hm:n.tree.many<=1500):Inv (S5 n) 0/\FAt (S5 n) 1 ⟨n.strict,0⟩/\(S5 n).steps=0/\(S5 n).calls=0:=by
 refine Zvi ?_;intro hq l1 l2 l3;obtain⟨h1,m,X,Y⟩:=Zcx (s:=Tr);have Z:FAt xz 1 ⟨n.strict,0⟩:=⟨m.root,m.lo,m.hi,m.anc,m.vlo⟩
 obtain⟨I,i2⟩:=Z4g (λ(s:MSt) (t:kB)=>if s.H.has 0 t then s else s.put 0 t LVal.zero true) 1 xz (λ_=>True) (λs d b _ _ h=>by
  split;·exact⟨h.less Px,Ext.refl _⟩
  .exact Ez h (sn _)) n.vars xz 18000 (λ_ _=>trivial) (Ext.refl _) (h1.less Px)
 have i3:=Z5i (λ(s:MSt) (t:kB)=>if s.H.has 0 t then s else s.put 0 t LVal.zero true) (λs b=>by split<;>exact⟨rfl,rfl⟩) n.vars xz;obtain⟨y,J⟩:∃y,y=n.vars.foldl (λ(s:MSt) (t:kB)=>if s.H.has 0 t then s else s.put 0 t LVal.zero true) xz:=⟨_,rfl⟩
 have e:S5 n=(y.lets n.lets 1).funcs (λs _=>s) (λs t v=>s.put 0 t v true) n.funcs 1 ⟨n.strict,0⟩:=by rw[J];rfl
 rw[<-J]at I i2 i3;obtain⟨j1,j2⟩:=VO (l:=n.lets) (sc:=1) (d:=16000) (I.less Px);have F:=(Z.ext i2).ext j2
 obtain⟨k1,k2⟩:=Z6k (p:=λs _=>s) (g:=λs t v=>s.put 0 t v true) (d:=0) (l:=n.funcs) (sc:=1) (fr:=⟨n.strict,0⟩) (j1.less Px) (V1 hst hm) F.lo F.hi
  (λu e x _ hi=>⟨hi.less Px,Ext.refl _⟩) (λu e x v _ hi hv=>Ez hi hv)
 have O:=Z75 (s:=y.lets n.lets 1) (p:=λs _=>s) (g:=λs t v=>s.put 0 t v true) (l:=n.funcs) (sc:=1) (fr:=⟨n.strict,0⟩) (λ_ _=>⟨rfl,rfl⟩) (λ_ _ _=>⟨rfl,rfl⟩);have U:=Z59 (s:=y) (l:=n.lets) (sc:=1);rw[e];exact⟨k1,F.ext k2,(O.2.trans (U.2.trans i3.2)).trans X,(O.1.trans (U.1.trans i3.1)).trans Y⟩
end
def LVal.ne(v:LVal):Prop:=v.kind=5->v.n≠2
theorem Zle{v:LVal}(h:v.kind≠5):v.ne:=λe=>absurd e h
theorem y6:LVal.zero.ne:=Zle Py
theorem Zck{n:Int}(h:n≠2):(LVal.ref n).ne:=λ_=>h
structure HNe(H:LHeap):Prop where
 obj:∀(i:Nat) o,H.objects[i]?=some o->∀p∈o.props,p.name=sW\/p.v.ne
 scp:∀(i:Nat) o,H.scopes[i]?=some o->∀b∈o.names,b.v.ne
 code:∀(i:Nat) o,H.objects[i]?=some o->o.code=2->i=2
 three:3<=H.objects.length
def HNe.object{H:LHeap}(h:HNe H){m:Nat}{o o':LObj}(hm:H.objects[m]?=some o)(hc:o'.code=o.code)(hp:∀p∈o'.props,p.name=sW\/p.v.ne):HNe {H with objects:=H.objects.set m o'}:=by
 refine⟨λi x hx=>?_,h.scp,λi x hx=>?_,by simpa using h.three⟩
 .simp only[List.getElem?_set]at hx;split at hx;·exact XD
  .exact h.obj i x hx
 .simp only[List.getElem?_set]at hx;split at hx
  .split at hx
   .rename_i h1 g;simp only[Option.some.injEq]at hx;subst hx;subst h1;rw[hc];exact h.code _ _ hm
   .cases hx
  .exact h.code i x hx
def HNe.names{H:LHeap}(h:HNe H){m:Nat}{s:LScope}{l:List LBind}(hp:∀b∈l,b.v.ne):HNe (H.setNames m s l):=by
 refine⟨h.obj,λi x hx=>?_,h.code,h.three⟩;simp only[LHeap.setNames,List.getElem?_set]at hx;split at hx;·exact XD
 .exact h.scp i x hx
def Znx{H:LHeap}(h:HNe H){n:Int}{name:kB}{v:LVal}{fx:Bool}(g:name=sW\/v.ne):HNe (H.put n name v fx).1:=by
 unfold LHeap.put;rcases hob:H.object? n with _|o;·exact h
 obtain⟨m,rfl,hm⟩:=LHeap.object?_some hob;simp only;split
 .rename_i k hk;obtain⟨q,hq,y⟩:=LObj.idx_some hk;refine h.object (m:=m) hm rfl λp hp=>?_;obtain⟨i,hi⟩:=List.mem_iff_getElem?.1 hp;rw[List.getElem?_modify]at hi;by_cases u:k=i
  .subst u;rw[hq]at hi;simp only[if_true,Option.map_eq_map,Option.map_some,Option.some.injEq]at hi;subst hi;rcases g with rfl|g;·exact .inl (Z7z.1 y)
   .exact .inr g
  .have hi:o.props[i]? =some p:=by simpa[u]using hi
   exact h.obj m o hm p (Yd hi)
 .refine h.object (m:=m) hm rfl λp hp=>?_;rcases List.mem_append.1 hp with hp|hp;·exact h.obj m o hm p hp
  .simp only[List.mem_singleton]at hp;subst hp;exact g
def Zlv{H:LHeap}(h:HNe H){n:Int}{name:kB}:HNe (H.cut n name).1:=by
 unfold LHeap.cut;rcases hob:H.object? n with _|o;·exact h
 obtain⟨m,rfl,hm⟩:=LHeap.object?_some hob;simp only;split;·exact h
 .split;·exact h
  .split;·exact h
   .exact h.object (m:=m) hm rfl λp hp=>h.obj m o hm p (List.mem_of_mem_eraseIdx hp)
def Zhn{H:LHeap}(h:HNe H){n:Int}{name:kB}{v:LVal}{kind:Int}(g:v.ne):HNe (H.declare n name kind v).1:=by
 unfold LHeap.declare;rcases hob:H.scope? n with _|o;·exact h
 obtain⟨m,rfl,hm⟩:=LHeap.scope?_some hob;simp only;split;·exact h
 .split;·exact h
  .refine h.names (m:=(m:Int).toNat) (s:=o) λb hb=>?_;rcases List.mem_append.1 hb with hb|hb;·exact h.scp m o hm b hb
   .simp only[List.mem_singleton]at hb;subst hb;exact g
def Zyu{l:List LBind}{k:Nat}{b:LBind}(h:∀x∈l,x.v.ne)(hb:b.v.ne):∀x∈l.set k b,x.v.ne:=λx hx=>by
 rcases List.mem_or_eq_of_mem_set hx with hx|rfl;·exact h x hx
 .exact hb
def Zm1{H:LHeap}(h:HNe H){n:Int}{name:kB}{v:LVal}(hv:v.ne):HNe (H.write n name v).1:=by
 unfold LHeap.write;rcases hob:H.scope? n with _|o;·exact h
 obtain⟨m,rfl,hm⟩:=LHeap.scope?_some hob;simp only;split
 .split;·exact h
  .split;·exact h
   .exact WP
 .split;·exact Znx h (.inr hv)
  .exact h
def Zmi{H:LHeap}(h:HNe H){n:Int}{name:kB}{v:LVal}(hv:v.ne):HNe (H.start n name v).1:=by
 unfold LHeap.start;rcases hob:H.scope? n with _|o;·exact h
 obtain⟨m,rfl,hm⟩:=LHeap.scope?_some hob;simp only;exact WP
def Zpx{H:LHeap}(h:HNe H){n:Int}{name:kB}:HNe (H.drop n name).1:=by
 unfold LHeap.drop;rcases hob:H.scope? n with _|o;·exact h
 obtain⟨m,rfl,hm⟩:=LHeap.scope?_some hob;simp only;split
 .split;·exact h
  .split;·exact h
   .split;·exact h.names λb hb=>h.scp m o hm b (List.mem_filter.1 hb).1
    .exact h
 .split;·exact Zlv h
  .exact h
def Zn2{H:LHeap}(h:HNe H){n:Int}{name:kB}(hn:name≠sW):((H.get n name).getD LVal.zero).ne:=by
 unfold LHeap.get;rcases hob:H.object? n with _|o;·exact y6
 obtain⟨m,rfl,hm⟩:=LHeap.object?_some hob;simp only[Option.bind_some];rcases hk:o.idx name with _|k;·exact y6
 obtain⟨p,hp,hs⟩:=LObj.idx_some hk;simp only[Option.bind_some,hp,Option.map_some,Option.getD_some];exact(h.obj m o hm p (Yd hp)).resolve_left λe=>hn ((Z7z.1 hs).symm.trans e)
def Zqo{H:LHeap}(h:HNe H){n:Int}{name:kB}(hn:name≠sW):(H.read n name).1.ne:=by
 unfold LHeap.read;rcases hob:H.scope? n with _|o;·exact y6
 obtain⟨m,rfl,hm⟩:=LHeap.scope?_some hob;simp only;split
 .rcases hk:(o.idx name).bind λk=>o.names[k]? with _|b;·exact y6
  .simp only;split
   .rcases hi:o.idx name with _|k;·rw[hi]at hk;cases hk
    .rw[hi]at hk;exact h.scp m o hm b (Yd hk)
   .exact y6
 .have g:=Zn2 h (n:=o.object) hn;rcases hk:H.get o.object name with _|v;·exact y6
  .rw[hk]at g;exact g
def Zrc{H:LHeap}(h:HNe H){v:LVal}(g:v.ne):(if v.kind=5 then H.code v.n else 0)≠2:=by
 split
 .rename_i hk;unfold LHeap.code;rcases hob:H.object? v.n with _|o;·simp
  .obtain⟨m,e,hm⟩:=LHeap.object?_some hob;intro hc;have:=h.code m o hm hc;exact g hk (by rw[e,this];rfl)
 .decide
def Znm{H:LHeap}(h:HNe H){outer object:Int}:HNe {H with scopes:=H.scopes++[⟨outer,object,[]⟩]}:=by
 refine⟨h.obj,λi x hx=>?_,h.code,h.three⟩;rcases Nat.lt_or_ge i H.scopes.length with hi|hi;·rw[List.getElem?_append_left hi]at hx;exact h.scp i x hx
 .rw[List.getElem?_append_right hi]at hx;cases hd:i-H.scopes.length with
  |zero=>rw[hd]at hx;simp only[List.getElem?_cons_zero,Option.some.injEq]at hx;subst hx;intro b hb;cases hb
  |succ k=>rw[hd]at hx;simp at hx
def Zja{H:LHeap}(h:HNe H){code:Int}(hc:code≠2):HNe {H with objects:=H.objects++[⟨[],code⟩]}:=by
 refine⟨λi x hx=>?_,h.scp,λi x hx=>?_,by simp;have:=h.three;omega⟩
 all_goals
  rcases Nat.lt_or_ge i H.objects.length with hi|hi
  .rw[List.getElem?_append_left hi]at hx;first|exact h.obj i x hx|exact h.code i x hx
  .rw[List.getElem?_append_right hi]at hx;cases hd:i-H.objects.length with
   |zero=>
     rw[hd]at hx;simp only[List.getElem?_cons_zero,Option.some.injEq]at hx;subst hx;first|(intro b hb;cases hb;done)|exact λe=>absurd e hc
   |succ k=>rw[hd]at hx;simp at hx
mutual
def NT.clean:NT->Prop
 | .mk _ k t _ l=>k≠12/\(k=23\/k=36->t≠sW)/\TY l
def TY:List NT->Prop
 | []=>True
 |x::l=>x.clean/\TY l
end
theorem Z5d:∀{l:List NT} {x:NT},TY l->x∈l->x.clean
 |y::l,x,h,hx=>by
   simp only[TY]at h;rcases List.mem_cons.1 hx with rfl|hx;·exact h.1
   .exact Z5d h.2 hx
theorem NT.clean.kids{n:NT}(h:n.clean):TY n.kids:=by cases n;simp only[NT.clean]at h;exact h.2.2
theorem NT.clean.mem{n x:NT}(h:n.clean)(hx:x∈n.kids):x.clean:=Z5d h.kids hx
theorem NT.clean.try{n:NT}(h:n.clean):n.kind≠12:=by cases n;simp only[NT.clean]at h;exact h.1
theorem NT.clean.name{n:NT}(h:n.clean)(hk:n.kind=23\/n.kind=36):n.text≠sW:=by cases n;simp only[NT.clean]at h;exact h.2.1 hk
theorem Zcr:NT.zero.clean:=by simp[NT.zero,NT.clean,TY]
theorem NT.clean.kid{n:NT}(h:n.clean)(i:Nat):(n.kid i).clean:=by
 unfold NT.kid;rcases hi:n.kids[i]? with _|x;·rw[List.getD_eq_getElem?_getD,hi];exact Zcr
 .rw[List.getD_eq_getElem?_getD,hi];exact h.mem (Yd hi)
theorem Z9e{l:List NT}(h:TY l)(p:NT->Bool):∀x∈l.filter p,x.clean:=λx hx=>Z5d h (List.mem_filter.1 hx).1
structure Sim(s t:MSt):Prop where
 eq:t={s with clos:=t.clos,last:=t.last}
 len:t.clos.length=s.clos.length
 clo:∀(i:Nat) c c',s.clos[i]?=some c->t.clos[i]?=some c'->c'.node=c.node/\c'.scope=c.scope/\(c'.strict=true->c.strict=true)
 heap:HNe s.H
 node:∀c∈s.clos,c.node.clean
theorem Sim.H{s t:MSt}(h:Sim s t):t.H=s.H:=by rw[h.eq]
theorem Sim.steps{s t:MSt}(h:Sim s t):t.steps=s.steps:=by rw[h.eq]
theorem Sim.calls{s t:MSt}(h:Sim s t):t.calls=s.calls:=by rw[h.eq]
theorem Sim.log{s t:MSt}(h:Sim s t):t.log=s.log:=by rw[h.eq]
theorem Sim.globEq{s t:MSt}(h:Sim s t):t.glob=s.glob:=by rw[h.eq]
theorem Sim.next{s t:MSt}(h:Sim s t):t.next=s.next:=by unfold MSt.next;rw[h.H]
theorem Sim.nextO{s t:MSt}(h:Sim s t):t.nextO=s.nextO:=by unfold MSt.nextO;rw[h.H]
def Ztc(f:MSt->MSt):Prop:=∀s c l,f {s with clos:=c,last:=l}={f s with clos:=c,last:=l}
theorem Ztc.clos{f:MSt->MSt}(h:Ztc f)(s:MSt):(f s).clos=s.clos/\(f s).last=s.last:=by
 have:=h s s.clos s.last;have e:{s with clos:=s.clos,last:=s.last}=s:=rfl;rw[e]at this;exact⟨by rw[this],by rw[this]⟩
def Sim.step{s t:MSt}{f:MSt->MSt}(h:Sim s t)(hf:Ztc f)(g:HNe (f s).H):Sim (f s) (f t):=by
 have hs:=(hf.clos s).1;have ht:=hf.clos t;refine⟨?_,by rw[hs,ht.1];exact h.len,by rw[hs,ht.1];exact h.clo,g,by rw[hs];exact h.node⟩;rw[ht.1,ht.2]
 calc f t=f {s with clos:=t.clos,last:=t.last}:=congrArg f h.eq
  _=_:=hf s t.clos t.last
def Sim.setLast{s t:MSt}(h:Sim s t)(v g:LVal):Sim {s with last:=v} {t with last:=g}:=
 ⟨by rw[h.eq],h.len,h.clo,h.heap,h.node⟩
theorem Sim.setH{s t:MSt}{g:LHeap->LHeap}(h:Sim s t)(m:HNe (g s.H)):Sim (s.setH (g s.H)) (t.setH (g t.H)):=
 h.step (f:=λs=>s.setH (g s.H)) (λs c l=>rfl) m
theorem Sim.put{s t:MSt}{o:Int}{name:kB}{v:LVal}{fx:Bool}(h:Sim s t)(g:v.ne):Sim (s.put o name v fx) (t.put o name v fx):=
 h.step (f:=λs=>s.put o name v fx) (λs c l=>rfl) (Znx h.heap (.inr g))
theorem Sim.declare{s t:MSt}{sc kind:Int}{name:kB}{v:LVal}(h:Sim s t)(g:v.ne):Sim (s.declare sc name kind v) (t.declare sc name kind v):=
 h.step (f:=λs=>s.declare sc name kind v) (λs c l=>rfl) (Zhn h.heap g)
theorem Sim.write{s t:MSt}{sc:Int}{name:kB}{v:LVal}(h:Sim s t)(g:v.ne):Sim (s.write sc name v) (t.write sc name v):=
 h.step (f:=λs=>s.write sc name v) (λs c l=>rfl) (Zm1 h.heap g)
theorem Sim.bindTo{s t:MSt}{sc:Int}{name:kB}{v:LVal}(h:Sim s t)(g:v.ne):Sim (s.bindTo sc name v) (t.bindTo sc name v):=by
 unfold MSt.bindTo;rw[h.H];split;·exact h.declare g
 .exact h.write g
theorem Sim.opens{s t:MSt}{outer object owner:Int}(h:Sim s t):Sim (s.opens outer object owner) (t.opens outer object owner):=
 h.step (f:=λs=>s.opens outer object owner) (λs c l=>rfl) (Znm h.heap)
theorem Sim.object{s t:MSt}{code:Int}(h:Sim s t)(hc:code≠2):Sim (s.object code) (t.object code):=
 h.step (f:=λs=>s.object code) (λs c l=>rfl) (Zja h.heap hc)
theorem Sim.look{s t:MSt}{n:NT}{sc:Int}{name:kB}(h:Sim s t):Sim (s.look n sc name) (t.look n sc name):=by
 refine h.step (f:=λs=>s.look n sc name) (λs c l=>?_) ?_;·simp only[MSt.look];split<;>rfl
 .simp only[MSt.look];split<;>exact h.heap
theorem Sim.fold{β:Type}{f g:MSt->β->MSt}:∀(l:List β) {s t:MSt},Sim s t->(∀b∈l,∀s t,Sim s t->Sim (f s b) (g t b))->Sim (l.foldl f s) (l.foldl g t)
 | [],s,t,h,hf=>h
 |b::l,s,t,h,hf=>Sim.fold l (hf b PE s t h) λx hx=>hf x RH
theorem Sim.lets{s t:MSt}{l:List NT}{sc:Int}(h:Sim s t):Sim (s.lets l sc) (t.lets l sc):=by
 unfold MSt.lets;exact Sim.fold l h λb _ s t h=>h.declare y6
theorem Sim.vars{s t:MSt}{l:List kB}{sc:Int}(h:Sim s t):Sim (s.vars l sc) (t.vars l sc):=by
 unfold MSt.vars;exact Sim.fold l h λb _ s t h=>h.declare y6
def Sim.nextO_ne{s t:MSt}(h:Sim s t):s.nextO≠2:=by
 have:=h.heap.three;unfold MSt.nextO;omega
def Sim.push{s t:MSt}{n:NT}{sc:Int}{a b:Bool}(h:Sim s t)(hn:n.clean)(m:b=true->a=true) :
 Sim {s with clos:=s.clos++[⟨n,sc,a⟩]} {t with clos:=t.clos++[⟨n,sc,b⟩]}:=by
 refine⟨?_,by simp[h.len],λi c c' h1 g=>?_,h.heap,λc hc=>?_⟩
 .have:=h.eq;rw[this]
 .simp only at h1 g;rcases Nat.lt_or_ge i s.clos.length with hi|hi
  .rw[List.getElem?_append_left hi]at h1;rw[List.getElem?_append_left (by rw[h.len];exact hi)]at g;exact h.clo i c c' h1 g
  .rw[List.getElem?_append_right hi]at h1;rw[List.getElem?_append_right (by rw[h.len];exact hi),h.len]at g;cases hd:i-s.clos.length with
   |zero=>
     rw[hd]at h1 g;simp only[List.getElem?_cons_zero,Option.some.injEq]at h1 g;subst h1;subst g;exact⟨rfl,rfl,m⟩
   |succ k=>rw[hd]at h1;simp at h1
 .rcases List.mem_append.1 hc with hc|hc;·exact h.node c hc
  .simp only[List.mem_singleton]at hc;subst hc;exact hn
theorem Sim.funS{s t:MSt}{n:NT}{sc:Int}{fr fr':Frm}(h:Sim s t)(hn:n.clean)(hf:fr'.strict=true->fr.strict=true):Sim (s.funS n sc fr) (t.funS n sc fr'):=by
 have g:t.clos.length=s.clos.length:=h.len;have m:(3+(s.clos.length:Int))≠2:=Px
 have hs:(fr'.strict||(n.kid 1).strict)=true->(fr.strict||(n.kid 1).strict)=true:=λe=>by
  simp only[Bool.or_eq_true]at e ⊢;exact e.imp hf id
 unfold MSt.funS;by_cases hnm:n.named=true
 .simp only[hnm,if_true,g,h.next,h.nextO];have h1:=(h.opens (outer:=sc) (object:=-1) (owner:=n.num)).push (n:=n) (sc:=s.next) hn hs;exact(h1.object m).declare (Zck h.nextO_ne)
 .simp only[hnm,Bool.false_eq_true,if_false,g];exact(h.push hn hs).object m
theorem Sim.funcs{s t:MSt}{g:MSt->kB->LVal->MSt}{l:List NT}{sc:Int}{fr fr':Frm}(h:Sim s t)(hl:∀x∈l,x.clean)(hf:fr'.strict=true->fr.strict=true)
 (m:∀s t x v,Sim s t->v.ne->Sim (g s x v) (g t x v)):Sim (s.funcs (λs _=>s) g l sc fr) (t.funcs (λs _=>s) g l sc fr'):=by
 unfold MSt.funcs;refine Sim.fold l h λb hb s t h=>?_;simp only;rw[h.nextO];exact m _ _ _ _ (h.funS (hl b hb) hf) (Zck h.nextO_ne)
theorem Sim.params{sc:Int}:∀(l:List NT) (vs:List LVal) {s t:MSt},Sim s t->(∀v∈vs,v.ne)->Sim (MSt.params sc l vs s) (MSt.params sc l vs t)
 | [],vs,s,t,h,g=>h
 |p::l,vs,s,t,h,g=>by
   unfold MSt.params;refine Sim.params l _ (h.bindTo ?_) λv hx=>g v (List.mem_of_mem_tail hx);cases vs with
   |nil=>exact y6
   |cons x r=>exact g x PE
theorem Sim.argsPut{o:Int}:∀(vs:List LVal) (i:Nat) {s t:MSt},Sim s t->(∀v∈vs,v.ne)->Sim (MSt.argsPut o i vs s) (MSt.argsPut o i vs t)
 | [],i,s,t,h,g=>h
 |v::l,i,s,t,h,g=>by
   unfold MSt.argsPut;exact Sim.argsPut l _ (h.put (g v PE)) λx hx=>g x RH
theorem Sim.argsObj{s t:MSt}{sc:Int}{vs:List LVal}(h:Sim s t)(g:∀v∈vs,v.ne):Sim (s.argsObj sc vs) (t.argsObj sc vs):=by
 unfold MSt.argsObj;rw[h.nextO];exact(Sim.argsPut vs 0 ((h.object Py).put (Zle (by show(3:Int)≠5;decide))) g).declare (Zck h.nextO_ne)
def ad{α:Type}(Q:α->Prop)(r m:MSt×Except Er α):Prop:=∀s1 a,r=(s1,.ok a)->∃g,m=(g,.ok a)/\Sim s1 g/\Q a
section
variable {α β:Type}{Q:α->Prop}{R:β->Prop}{s t:MSt}{fr fr':Frm}
theorem ad.ok{a:α}(h:Sim s t)(q:Q a):ad Q (d9 a s) (d9 a t):=λs1 b e=>by
 simp only[d9,Prod.mk.injEq,Except.ok.injEq]at e;obtain⟨rfl,rfl⟩:=e;exact⟨t,rfl,h,q⟩
theorem ad.err{e:Er}{s:MSt}{r:MSt×Except Er α}:ad Q (r' e s) r:=λs1 b h=>by simp[r']at h
theorem ad.raise{x:kB}{s:MSt}{r:MSt×Except Er α}:ad Q (tE x s) r:=ad.err
def ad.bind{m p:RM α}{k u:α->RM β}(h:ad Q (m s) (p t))(hk:∀s1 g a,Sim s1 g->Q a->ad R (k a s1) (u a g)):ad R (Zx m k s) (Zx p u t):=by
 intro y b e;unfold Zx at e ⊢;rcases hm:m s with⟨s1,I|a⟩;·rw[hm]at e;simp at e
 .rw[hm]at e;obtain⟨g,h1,F,G⟩:=h s1 a hm;rw[h1];exact hk s1 g a F G y b e
end
structure FrS(fr fr':Frm):Prop where
 vars:fr'.vars=fr.vars
 str:fr'.strict=true->fr.strict=true
def Oo(v:LVal):Prop:=v.ne
def Xn(r:Bool×LVal):Prop:=r.2.ne
def SV(V:VF):Prop:=∀n sc fr fr' s t,n.clean->FrS fr fr'->Sim s t->ad Oo (V n sc fr s) (V n sc fr' t)
def SD(D:DF):Prop:=∀n sc fr fr' s t,n.clean->FrS fr fr'->Sim s t->ad Xn (D n sc fr s) (D n sc fr' t)
section
variable {V:VF}{D:DF}{n:NT}{sc:Int}{fr fr':Frm}{s t:MSt}
theorem Zi4(x:kB):(LVal.say x).ne:=Zle (by show(4:Int)≠5;decide)
theorem Vb(b:Bool):(LVal.is b).ne:=Zle (by show(2:Int)≠5;decide)
theorem Zsf(x:Int):(LVal.num x).ne:=Zle (by show(3:Int)≠5;decide)
def Zco{a:Int}{name:kB}{v:LVal}(h:Sim s t)(hf:FrS fr fr')(m:v.ne):ad (λ_=>True) (Sr a name v fr s) (Sr a name v fr' t):=by
 unfold Sr;rw[h.H];by_cases h1:a<0\/s.H.has a name=false
 .rw[Y5 h1,Y5 h1];by_cases g:fr.strict=true;·rw[Y5 g];exact .raise
  .have p:¬fr'.strict=true:=λe=>g (hf.str e);rw[Y3 g,Y3 p,h.globEq];exact .ok (h.put m) trivial
 .rw[Y3 h1,Y3 h1];simp only;have hw:=h.write (sc:=a) (name:=name) m;split;·exact .raise
  .split;·exact .raise
   .split;·exact .raise
    .rename_i h5;have u:¬((s.H.write a name v).2=5/\fr'.strict=true):=λe=>h5 ⟨e.1,hf.str e.2⟩;rw[Y3 u];exact .ok hw trivial
def Zqd(h:Sim s t)(hn:n.text≠sW):ad Oo (ZF n sc s) (ZF n sc t):=by
 unfold ZF;rw[h.H];split;·exact .raise
 .split;·exact .raise
  .exact .ok h.look (Zqo h.heap hn)
def Zvk(m:SV V)(hc:n.clean)(hf:FrS fr fr')(h:Sim s t):ad Oo (qx V n sc fr s) (qx V n sc fr' t):=by
 unfold qx;split
 .simp only;rw[h.H];refine ad.bind (m _ _ _ _ _ _ (hc.kid 1) hf h.look) λs1 u v h1 g=>?_;refine ad.bind (Zco h1 hf g) λy t2 _ p _=>?_;exact .ok p g
 .refine ad.bind (m _ _ _ _ _ _ ((hc.kid 0).kid 0) hf h) λs1 u o h1 ho=>?_;refine ad.bind (m _ _ _ _ _ _ (hc.kid 1) hf h1) λy t2 v p g=>?_;split;·exact .ok (p.put g) g
  .exact .raise
def Zl1{x:NT}(u:SV V)(hc:x.clean)(hf:FrS fr fr')(h:Sim s t):ad Oo (K' V x sc fr s) (K' V x sc fr' t):=by
 unfold K';split
 .simp only;rw[h.H];split;·exact .ok h (Vb _)
  .have h1:=h.setH (g:=λH=>(H.drop (H.find sc x.text) x.text).1) (Zpx h.heap);simp only[h.H]at h1;exact .ok h1 (Vb _)
 .split
  .refine ad.bind (u _ _ _ _ _ _ (hc.kid 0) hf h) λs1 y o h1 ho=>?_;split
   .simp only;have m:=h1.setH (g:=λH=>(H.cut o.n x.text).1) (Zlv h1.heap);rw[h1.H]at m ⊢;split;·exact .ok m (Vb _)
    .by_cases p:fr.strict=true;·rw[Y5 p];exact .raise
     .rw[Y3 p,Y3 λe=>p (hf.str e)];exact .ok m (Vb _)
   .exact .raise
  .exact ad.bind (u _ _ _ _ _ _ hc hf h) λs1 y o h1 ho=>.ok h1 (Vb _)
def Zeh{m:Int}(h:Sim s t):ad Oo (TM m s) (TM m t):=by
 unfold TM;split;·exact .raise
 .exact .ok h (Zsf _)
def Zj6{k:Int}{x y:LVal}(h:Sim s t):ad Oo (Ue k x y s) (Ue k x y t):=by
 unfold Ue;split;·exact .ok h (Vb _)
 .split
  .split;·exact .ok h (Vb _)
   .split;·exact Zeh h
    .split<;>exact Zeh h
  .split;·exact .ok h (Vb _)
   .split
    .simp only;rw[h.H];split;·exact .raise
     .exact .ok h (Zi4 _)
    .exact .raise
theorem Zi1(g:SV V)(hf:FrS fr fr'):∀(l:List NT) {s t:MSt},(∀x∈l,x.clean)->Sim s t->ad (λvs=>∀v∈vs,Oo v) (Sv V sc fr l s) (Sv V sc fr' l t)
 | [],s,t,hl,h=>.ok h PE
 |k::l,s,t,hl,h=>by
   unfold Sv;refine ad.bind (g _ _ _ _ _ _ (hl k PE) hf h) λs1 y v h1 m=>?_;refine ad.bind (Zi1 g hf l (λx hx=>hl x RH) h1) λF t2 vs p u=>?_;exact .ok p λx hx=>by
    rcases List.mem_cons.1 hx with rfl|hx;·exact m
    .exact u x hx
theorem Zec(g:SV V)(hf:FrS fr fr'){o:Int}:∀(l:List NT) {s t:MSt},(∀x∈l,x.clean)->Sim s t->ad (λ_=>True) (TD V sc fr o l s) (TD V sc fr' o l t)
 | [],s,t,hl,h=>.ok h trivial
 |k::l,s,t,hl,h=>by
   unfold TD;refine ad.bind (g _ _ _ _ _ _ ((hl k PE).kid 0) hf h) λs1 p v h1 m=>?_;exact Zec g hf l (λx hx=>hl x RH) (h1.put m)
theorem Z69(g:SD D)(hf:FrS fr fr'):∀(l:List NT) {s t:MSt},(∀x∈l,x.clean)->Sim s t->ad Xn (oB D sc fr l s) (oB D sc fr' l t)
 | [],s,t,hl,h=>.ok h y6
 |k::l,s,t,hl,h=>by
   unfold oB;refine ad.bind (g _ _ _ _ _ _ (hl k PE) hf h) λs1 m r h1 hr=>?_;split;·exact .ok h1 hr
   .exact Z69 g hf l (λx hx=>hl x RH) h1
theorem Z81(h:n.clean):∀x∈n.kids,x.clean:=λx hx=>h.mem hx
theorem Sim.enterS{c c':Clo}{vs:List LVal}(h:Sim s t)(hn:c'.node=c.node)(p:c'.scope=c.scope)(hst:c'.strict=true->c.strict=true)(hc:c.node.clean)(g:∀v∈vs,v.ne):Sim (s.enterS c vs) (t.enterS c' vs):=by
 unfold MSt.enterS;simp only;rw[hn,p,h.next];have m:=Sim.params (sc:=s.next) (c.node.kid 0).kids vs (h.opens (outer:=c.scope) (object:=-1) (owner:=c.node.num)) g;rw[m.H]
 have u:Sim (if(MSt.params s.next (c.node.kid 0).kids vs (s.opens c.scope (-1) c.node.num)).H.has s.next Za||(c.node.kid 1).hasName Za then MSt.params s.next (c.node.kid 0).kids vs (s.opens c.scope (-1) c.node.num)else(MSt.params s.next (c.node.kid 0).kids vs (s.opens c.scope (-1) c.node.num)).argsObj s.next vs)
  (if(MSt.params s.next (c.node.kid 0).kids vs (s.opens c.scope (-1) c.node.num)).H.has s.next Za||(c.node.kid 1).hasName Za then MSt.params s.next (c.node.kid 0).kids vs (t.opens c.scope (-1) c.node.num)else(MSt.params s.next (c.node.kid 0).kids vs (t.opens c.scope (-1) c.node.num)).argsObj s.next vs):=by
  split;·exact m
  .exact m.argsObj g
 exact((u.vars).lets).funcs (Z9e (hc.kid 1).kids _) hst λs t x v h g=>h.bindTo g
def Zfr{c c':Clo}{vs:List LVal}(g:SD D)(h:Sim s t)(hn:c'.node=c.node)(m:c'.scope=c.scope)(hst:c'.strict=true->c.strict=true)(hc:c.node.clean)(p:∀v∈vs,v.ne) :
 ad Oo (U7 D c vs s) (U7 D c' vs t):=by
 unfold U7;rw[h.next,hn];refine ad.bind (Z69 (sc:=s.next) (fr:=⟨c.strict,s.next⟩) (fr':=⟨c'.strict,s.next⟩) g ⟨rfl,hst⟩ _ (Z81 (hc.kid 1)) (h.enterS hn m hst hc p)) λs1 u r h1 hr=>?_;refine .ok h1 ?_;split;·exact hr
 .exact y6
end
section
variable {α:Type}{V:VF}{D:DF}{n:NT}{sc:Int}{fr fr':Frm}{s t:MSt}
def ad.ite{Q:α->Prop}{c:Prop} [Decidable c]{a b a' b':RM α}(h1:c->ad Q (a s) (a' t))(g:¬c->ad Q (b s) (b' t)):ad Q ((if c then a else b) s) ((if c then a' else b') t):=by
 by_cases hc:c;·rw[Y5 hc,Y5 hc];exact h1 hc
 .rw[Y3 hc,Y3 hc];exact g hc
def Zix{l:List Clo}{k:Nat}{z:Clo}:l.getD k z=match l[k]? with|some c=>c|none=>z:=by
 rw[List.getD_eq_getElem?_getD];cases l[k]? <;>rfl
def Zq4{code:Int}{args:List LVal}(m:SD D)(h:Sim s t)(hc:code≠2)(p:∀v∈args,v.ne):ad Oo (T9 D n sc fr code args s) (T9 D n sc fr' code args t):=by
 unfold T9;rw[Y5 hc,Y5 hc];rw[Zix,Zix];rcases h1:s.clos[(code-3).toNat]? with _|c
 .have g:t.clos[(code-3).toNat]?=none:=by
   rw[List.getElem?_eq_none_iff]at h1 ⊢;rw[h.len];exact h1
  rw[g];exact Zfr m h rfl rfl id Zcr p
 .have hi:(code-3).toNat<t.clos.length:=by rw[h.len];exact(List.getElem?_eq_some_iff.1 h1).1
  obtain⟨c',g⟩:∃c',t.clos[(code-3).toNat]?=some c':=⟨_,Y6 hi⟩
  rw[g];obtain⟨u,y,F⟩:=h.clo _ _ _ h1 g;exact Zfr m h u y F (h.node c (Yd h1)) p
def Zpo{r g:MSt×Except Er LVal}(h:Sim s t)(hr:ad Oo r g):ad Oo (T4 s r) (T4 t g):=by
 intro s1 a e;obtain⟨p,q⟩:=r;unfold T4 at e ⊢;simp only[Prod.mk.injEq]at e;obtain⟨rfl,rfl⟩:=e;obtain⟨y,rfl,m,hq⟩:=hr p a rfl;refine⟨_,rfl,?_,hq⟩;exact(m.step (f:=λu=>{u with calls:=u.calls-1}) (λu c l=>rfl) m.heap).setLast s.last t.last
def Zkd{code:Int}{args:List LVal}(p:SD D)(h:Sim s t)(hc:code≠2)(y:∀v∈args,v.ne):ad Oo (TE D n sc fr code args s) (TE D n sc fr' code args t):=by
 unfold TE;have c1:¬(code=2/\args=[]):=λe=>hc e.1;have c2:¬(code=2/\(args.headD LVal.zero).kind≠4):=λe=>hc e.1;rw[Y3 c1,Y3 c1,Y3 c2,Y3 c2];by_cases g:code=0;·rw[Y5 g];exact .raise
 by_cases h1:code=1
 .have e:U1 (args.map t.H.shown)=U1 (args.map s.H.shown):=by rw[h.H]
  rw[Y3 g,Y3 g,Y5 h1,Y5 h1,e];exact .ok (h.step (f:=λu=>{u with log:=u.log++[U1 (args.map s.H.shown)]}) (λu c l=>rfl) h.heap) y6
 by_cases m:s.calls=40;·rw[Y3 g,Y3 h1,Y5 m];exact .raise
 .rw[Y3 g,Y3 g,Y3 h1,Y3 h1,Y3 m,Y3 (by rw[h.calls];exact m)];exact Zpo h (Zq4 p (h.step (f:=λu=>{u with calls:=u.calls+1}) (λu c l=>rfl) h.heap) hc y)
def Zqu(p:SV V)(u:SD D)(hc:n.clean)(hf:FrS fr fr')(h:Sim s t):ad Oo (UO V D n sc fr s) (UO V D n sc fr' t):=by
 unfold UO;refine ad.bind (p _ _ _ _ _ _ (hc.kid 0) hf h) λs1 F w h1 hw=>?_;refine ad.bind (Zi1 p hf _ (λx hx=>hc.mem (List.mem_of_mem_tail hx)) h1) λg t2 args m y=>?_;have e:codeOf t2 w=codeOf g w:=by unfold codeOf;rw[m.H]
 show ad Oo (TE D n sc fr (codeOf g w) args g) (TE D n sc fr' (codeOf t2 w) args t2);rw[e];exact Zkd u m (Zrc m.heap hw) y
def Zmk(g:SV V)(y:SD D)(hc:n.clean)(hf:FrS fr fr')(h:Sim s t):ad Oo (Cj V D n sc fr s) (Cj V D n sc fr' t):=by
 unfold Cj;refine ad.ite (λ_=>?_) λ_=>?_
 .rw[h.H];by_cases m:(n.kid 0).kind=23/\s.H.find sc (n.kid 0).text<0;·rw[Y5 m,Y5 m];exact .ok h (Zi4 _)
  .rw[Y3 m,Y3 m];refine ad.bind (g _ _ _ _ _ _ (hc.kid 0) hf h) λs1 p v h1 u=>?_;rw[h1.H];exact .ok h1 (Zi4 _)
 refine ad.ite (λ_=>ad.bind (g _ _ _ _ _ _ (hc.kid 0) hf h) λs1 p v h1 u=>.ok h1 (Vb _)) λ_=>?_;refine ad.ite (λ_=>Zl1 g (hc.kid 0) hf h) λ_=>?_;refine ad.ite (λ_=>Zqu g y hc hf h) λ_=>?_;refine ad.ite (λF=>?_) λ_=>?_
 .refine ad.bind (g _ _ _ _ _ _ (hc.kid 0) hf h) λs1 p v h1 u=>?_;refine ad.ite (λ_=>?_) λ_=>.raise;rw[h1.H];exact .ok h1 (Zn2 h1.heap (hc.name (.inr F)))
 refine ad.ite (λ_=>?_) λ_=>.ok h y6;rw[h.nextO];exact ad.bind (Zec g hf _ (Z81 hc) (h.object Py)) λs1 p _ h1 _=>.ok h1 (Zck h.nextO_ne)
def Zls(g:SV V)(p:SD D)(hc:n.clean)(hf:FrS fr fr')(h:Sim s t):ad Oo (v7 V D n sc fr s) (v7 V D n sc fr' t):=by
 unfold v7;refine ad.ite (λ_=>.ok h (Zsf _)) λ_=>?_;refine ad.ite (λ_=>.ok h (Zi4 _)) λ_=>?_;refine ad.ite (λ_=>.ok h (Vb _)) λ_=>?_;refine ad.ite (λ_=>.ok h (Zle (by show(1:Int)≠5;decide))) λ_=>?_;refine ad.ite (λ_=>.ok h y6) λ_=>?_;refine ad.ite (λy=>Zqd h (hc.name (.inl y))) λ_=>?_;refine ad.ite (λ_=>Zvk g hc hf h) λ_=>?_;refine ad.ite (λ_=>?_) λ_=>?_
 .refine ad.bind (g _ _ _ _ _ _ (hc.kid 0) hf h) λs1 F v h1 m=>?_;exact ad.ite (λ_=>.ok h1 m) λ_=>g _ _ _ _ _ _ (hc.kid 1) hf h1
 refine ad.ite (λ_=>?_) λ_=>?_
 .refine ad.bind (g _ _ _ _ _ _ (hc.kid 0) hf h) λs1 F v h1 m=>?_;exact ad.bind (g _ _ _ _ _ _ (hc.kid 1) hf h1) λI t2 u G J=>Zj6 G
 refine ad.ite (λ_=>?_) λ_=>Zmk g p hc hf h;rw[h.nextO];exact .ok (h.funS hc hf.str) (Zck h.nextO_ne)
def Zi5{Q:α->Prop}{k g:RM α}(h:Sim s t)(hk:∀s t,Sim s t->ad Q (k s) (g t)):ad Q (tm k s) (tm g t):=by
 unfold tm;rw[h.steps];split;·exact .err
 .exact hk _ _ (h.step (f:=λu=>{u with steps:=s.steps+1}) (λu c l=>rfl) h.heap)
theorem Zdv(g:SV V)(m:SD D)(hc:n.clean)(hf:FrS fr fr'):∀(f:Nat) {s t:MSt},Sim s t->ad Xn (S6 V D n sc fr f s) (S6 V D n sc fr' f t)
 |0,s,t,h=>.err
 |f+1,s,t,h=>by
   unfold S6;refine ad.bind (g _ _ _ _ _ _ (hc.kid 0) hf h) λs1 u v h1 y=>?_;split
   .refine ad.bind (m _ _ _ _ _ _ (hc.kid 1) hf h1) λF t2 r p hr=>?_;split;·exact .ok p hr
    .exact Zdv g m hc hf f p
   .exact .ok h1 y6
def Zoh(g:SD D)(hc:n.clean)(hf:FrS fr fr')(h:Sim s t):ad Xn (UG D n sc fr s) (UG D n sc fr' t):=by
 unfold UG;split;·exact Z69 g hf _ (Z81 hc) h
 .rw[h.next];refine Z69 g hf _ (Z81 hc) ?_;unfold MSt.blockS;rw[h.next];exact((h.opens).lets).funcs (Z9e hc.kids _) hf.str λs t x v h m=>h.declare m
def Zwe{f:Nat}{p:Int}{v:LVal}(y:SV V)(m:SD D)(hc:n.clean)(hf:FrS fr fr')(u:v.ne)(h:Sim s t):ad Xn (BF V D f n sc fr p v s) (BF V D f n sc fr' p v t):=by
 unfold BF;refine ad.ite (λ_=>ad.ite (λ_=>.ok h y6) λ_=>ad.bind (Zco h hf u) λs1 G _ h1 _=>.ok h1 y6) λ_=>?_;refine ad.ite (λ_=>.ok (h.setH (g:=λH=>(H.start sc n.text v).1) (Zmi h.heap u)) y6) λ_=>?_;refine ad.ite (λ_=>Zoh m hc hf h) λ_=>?_;refine ad.ite (λ_=>ad.ite (λ_=>m _ _ _ _ _ _ (hc.kid 1) hf h) λ_=>ad.ite (λ_=>.ok h y6) λ_=>m _ _ _ _ _ _ (hc.kid 2) hf h) λ_=>?_;refine ad.ite (λ_=>Zdv y m hc hf f h) λ_=>?_
 refine ad.ite (λ_=>ad.ite (λ_=>?_) λ_=>.raise) λ_=>?_
 .rw[h.next];exact m _ _ _ _ _ _ (hc.kid 1) hf h.opens
 refine ad.ite (λ_=>.ok h u) λ_=>?_;refine ad.ite (λ_=>.err) λ_=>?_;refine ad.ite (λF=>absurd F hc.try) λ_=>?_;exact ad.ite (λ_=>.ok (h.setLast v v) y6) λ_=>.ok h y6
def Zza{f:Nat}(g:SV V)(m:SD D)(hc:n.clean)(hf:FrS fr fr')(h:Sim s t):ad Xn (yk V D f n sc fr s) (yk V D f n sc fr' t):=by
 unfold yk;refine Zi5 h λs t h=>?_;rw[h.H];refine ad.bind (Q:=Oo) ?_ λs1 u v h1 p=>Zwe g m hc hf p h1;exact ad.ite (λ_=>.ok h y6) λ_=>g _ _ _ _ _ _ (hc.kid 0) hf h
theorem Zo5:∀f:Nat,SV (wc f).1/\SD (wc f).2
 |0=>⟨λ_ _ _ _ _ _ _ _ _=>.err,λ_ _ _ _ _ _ _ _ _=>.err⟩
 |f+1=>by
   obtain⟨g,m⟩:=Zo5 f;refine⟨λn sc fr fr' s t hc hf h=>?_,λn sc fr fr' s t hc hf h=>?_⟩;·exact Zi5 h λs t h=>Zls g m hc hf h
   .exact Zza g m hc hf h
end
theorem Sim.seen{s t:MSt}(h:Sim s t):t.seen=s.seen:=by rw[h.eq]
theorem Zqp:xz.H=⟨[⟨[⟨Tc,.ref 1,false⟩,⟨sW,.ref 2,false⟩],0⟩,⟨[],1⟩,⟨[],2⟩],[⟨-1,0,[]⟩,⟨0,-1,[]⟩]⟩:=by kernel_rfl
def Zo1:HNe xz.H:=by
 rw[Zqp];refine⟨λi o h p hp=>?_,λi o h b hb=>?_,λi o h hc=>?_,by decide⟩
 .rcases i with _|_|_|i
  .simp only[List.getElem?_cons_zero,Option.some.injEq]at h;subst h;simp only[List.mem_cons,List.not_mem_nil,or_false]at hp;rcases hp with rfl|rfl;·exact .inr (Zck Py)
   .exact .inl rfl
  .exact Zz6
  .exact Zz6
  .simp at h
 .rcases i with _|_|i
  .simp only[List.getElem?_cons_zero,Option.some.injEq]at h;subst h;cases hb
  .simp only[List.getElem?_cons_succ,List.getElem?_cons_zero,Option.some.injEq]at h;subst h;cases hb
  .simp at h
 .rcases i with _|_|_|i
  .simp only[List.getElem?_cons_zero,Option.some.injEq]at h;subst h;cases hc
  .simp only[List.getElem?_cons_succ,List.getElem?_cons_zero,Option.some.injEq]at h;subst h;cases hc
  .rfl
  .simp at h
def Zk5:Sim xz xz:=
 ⟨rfl,rfl,λi c c' h1 g=>by rw[h1]at g;cases g;exact⟨rfl,rfl,id⟩,Zo1,λc hc=>by cases hc⟩
def Znp{n g:NT}(m:g.vars=n.vars)(hl:g.lets=n.lets)(hf:g.funcs=n.funcs)(hs:n.strict=true)(hc:∀x∈n.funcs,x.clean):Sim (S5 n) (S5 g):=by
 show Sim (((n.vars.foldl (λs t=>if s.H.has 0 t then s else s.put 0 t LVal.zero true) xz).lets n.lets 1).funcs (λs _=>s) (λs t v=>s.put 0 t v true) n.funcs 1 ⟨n.strict,0⟩)
  (((g.vars.foldl (λs t=>if s.H.has 0 t then s else s.put 0 t LVal.zero true) xz).lets g.lets 1).funcs (λs _=>s) (λs t v=>s.put 0 t v true) g.funcs 1 ⟨g.strict,0⟩)
 rw[m,hl,hf];refine((Sim.fold (f:=λs t=>if s.H.has 0 t then s else s.put 0 t LVal.zero true) _ Zk5 λb _ s t h=>?_).lets).funcs hc (λ_=>hs) λs t x v h m=>h.put m;rw[h.H];split;·exact h
 .exact h.put y6
theorem Zre{α β:Type}{m:RM α}{k:α->RM β}{s s1:MSt}{a:α}(h:m s=(s1,.ok a)):Zx m k s=k a s1:=by unfold Zx;rw[h]
theorem Zmc{α β:Type}{m:RM α}{k:α->RM β}{s s1:MSt}{e:Er}(h:m s=(s1,.error e)):Zx m k s=(s1,.error e):=by unfold Zx;rw[h]
structure IsText(x:NT)(a:kB):Prop where
 kind:x.kind=15
 kid:∃u,x.kids=[u]/\u.kind=18/\u.text=a
def Zif{g:Nat}{x:NT}{a:kB}(h:IsText x a)(sc:Int)(fr:Frm)(s:MSt):(wc (g+2)).2 x sc fr s =
 if 20000<s.steps+1 then({s with steps:=s.steps+1},.error .stop)else if 20000<s.steps+1+1 then({s with steps:=s.steps+1+1},.error .stop)else({s with steps:=s.steps+1+1,last:=.say a},.ok XU):=by
 obtain⟨hk,u,p,y,ht⟩:=h;have G:x.kid 0=u:=by unfold NT.kid;rw[p];rfl
 show yk (wc (g+1)).1 (wc (g+1)).2 (g+1) x sc fr s=_;unfold yk tm;by_cases h1:20000<s.steps+1;·rw[Y5 h1,Y5 h1];rfl
 rw[Y3 h1,Y3 h1];have c:¬(x.kids.isEmpty=true\/x.kind=5\/x.kind=6\/x.kind=12\/x.kind=8):=by rw[p,hk];simp
 rw[Y3 c,G];have F:(wc (g+1)).1 u sc fr {s with steps:=s.steps+1}=tm (v7 (wc g).1 (wc g).2 u sc fr) {s with steps:=s.steps+1}:=rfl;show Zx ((wc (g+1)).1 u sc fr) (BF (wc (g+1)).1 (wc (g+1)).2 (g+1) x sc fr (if x.kind=2/\x.kids.isEmpty=false then s.H.find sc x.text else -1)) {s with steps:=s.steps+1}=_;by_cases m:20000<s.steps+1+1
 .rw[Y5 m];refine Zmc (F.trans ?_);unfold tm;exact Y5 m
 .rw[Y3 m];refine(Zre (s1:={s with steps:=s.steps+1+1}) (a:=.say a) (F.trans ?_)).trans ?_
  .unfold tm;rw[Y3 m];unfold v7;rw[Y3 (by rw[y];decide),Y5 y,ht];rfl
  .unfold BF;simp[hk];rfl
def Zlk{g:Nat}{x x':NT}{a a':kB}(h:IsText x a)(m:IsText x' a'){sc:Int}{fr fr':Frm}{s t:MSt}(hs:Sim s t):ad Xn ((wc (g+2)).2 x sc fr s) ((wc (g+2)).2 x' sc fr' t):=by
 rw[Zif h,Zif m,hs.steps];split;·exact .err
 .split;·exact .err
  .exact .ok ((hs.step (f:=λu=>{u with steps:=s.steps+1+1}) (λu c l=>rfl) hs.heap).setLast _ _) y6
def Zen{n m x x':NT}{a a':kB}{r:List NT}(hn:n.kids=x::r)(G:m.kids=x'::r)(hx:IsText x a)(I:IsText x' a')(J:m.vars=n.vars)(hl:m.lets=n.lets)(hf:m.funcs=n.funcs)
 (hs:n.strict=true)(hc:TY r)(u:(mI n).code=1):mI m=mI n:=by
 have O:∀y∈n.funcs,y.clean:=λy F=>by
  unfold NT.funcs at F;rw[hn]at F;obtain⟨h1,p⟩:=List.mem_filter.1 F;rcases List.mem_cons.1 h1 with rfl|h1;·rw[hx.kind]at p;cases p
  .exact Z5d hc h1
 have hst:=Znp J hl hf hs O;have U:FrS ⟨n.strict,0⟩ ⟨m.strict,0⟩:=⟨rfl,λ_=>hs⟩
 have X:ad Xn (oB (wc U6).2 1 ⟨n.strict,0⟩ n.kids (S5 n)) (oB (wc U6).2 1 ⟨m.strict,0⟩ m.kids (S5 m)):=by
  rw[hn,G];unfold oB;refine ad.bind (Zlk (g:=19999) hx I hst) λs1 Y q h1 hq=>?_;refine ad.ite (λ_=>.ok h1 hq) λ_=>?_;exact Z69 (Zo5 U6).2 U r (λy F=>Z5d hc F) h1
 unfold mI at u ⊢;rcases hr:oB (wc U6).2 1 ⟨n.strict,0⟩ n.kids (S5 n)with⟨s1,(_|w)|v⟩;·rw[hr]at u;simp[UH]at u
 .rw[hr]at u;simp[UH]at u
 .obtain⟨Y,h1,p,-⟩:=X s1 v hr;rw[h1];simp only[UH];rw[p.log,p.steps,p.seen]
structure Win(T b:kB)(o:Nat):Prop where
 size:o+b.size<=T.size
 get:∀i,i<b.size->T.data.getD (o+i) 0=b.data.getD i 0
 stop:o+b.size<T.size->mF (Z5 T (o+b.size))=true
def Win.byte{T b:kB}{o:Nat}(h:Win T b o){i:Nat}(hi:i<b.size):Z5 T (o+i)=Z5 b i:=by
 unfold Z5;rw[h.get i hi]
def Win.past{T b:kB}{o:Nat}(h:Win T b o):Z5 T (o+b.size)=0\/Z5 T (o+b.size)=32\/Z5 T (o+b.size)=10:=by
 rcases Nat.lt_or_ge (o+b.size) T.size with h1|h1
 .have:=h.stop h1;simp only[mF,Bool.or_eq_true,decide_eq_true_eq]at this;exact .inr this
 .exact .inl (Z4a h1)
def Win.span{T b:kB}{o:Nat}(h:Win T b o)(p:Int->Bool)(hp:∀c,mF c=true->p c=false){i:Nat}(hi:i<=b.size) :
 Zh p T (T.size-(o+i)) (o+i)=o+Zh p b (b.size-i) i:=by
 obtain⟨s1,F,u,y⟩:=TQ p b (b.size-i) i (Y0 _) hi;have hs:=h.size;refine Z9c p T _ _ _ (Y0 _) Px Px (λm h1 g=>?_) λh1=>?_
 .have e:=h.byte (i:=m-o) Px;rw[show o+(m-o)=m by omega]at e;rw[e];exact u _ Px Px
 .rcases Nat.lt_or_ge (Zh p b (b.size-i) i) b.size with g|g
  .rw[h.byte g];exact y g
  .have e:Zh p b (b.size-i) i=b.size:=by omega
   rw[e]at h1 ⊢;exact hp _ (h.stop h1)
def Win.num{T b:kB}{o k:Nat}(h:Win T b o)(hk:k<=b.size):∀(f i:Nat) (n:Int),iw T (o+k) f (o+i) n=iw b k f i n:=by
 intro f;induction f with
 |zero=>intro i n;rfl
 |succ f g=>
   intro i n;simp only[iw];by_cases h1:i<k
   .rw[Y5 Px,Y5 h1,h.byte Px,show o+i+1=o+(i+1) by omega];exact g (i+1) _
   .rw[Y3 Px,Y3 h1]
def Win.cut{T b:kB}{o j k:Nat}(h:Win T b o)(hk:k<=b.size):T.extract (o+j) (o+k)=b.extract j k:=by
 have hs:=h.size;apply ByteArray.ext;rw[ByteArray.data_extract,ByteArray.data_extract];have s1:T.data.size=T.size:=rfl;have m:b.data.size=b.size:=rfl;apply Array.ext
 .simp only[Array.size_extract];omega
 .intro i h1 g;simp only[Array.size_extract]at h1 g;simp only[Array.getElem_extract];have e:=h.get (j+i) Px;simp only[Array.getD,dif_pos (show o+(j+i)<T.data.size by omega),dif_pos (show j+i<b.data.size by omega)]at e;simpa[Nat.add_assoc]using e
def Win.quoted{T b:kB}{o:Nat}(h:Win T b o):∀(f i:Nat) (F y:List UInt8) (k:Nat),Zo b f i F=(y,0,k)->i<k/\k<=b.size/\∀p,k-i<=p->Zo T p (o+i) F=(y,0,o+k):=by
 intro f;induction f with
 |zero=>intro i F y k h1;simp[Zo]at h1
 |succ f X=>
   intro i F y k m;have hs:=h.size;simp only[Zo]at m;by_cases h1:b.size<=i\/Z5 b i=10;·rw[Y5 h1]at m;simp at m
   rw[Y3 h1]at m;simp only[not_or,Nat.not_le]at h1;have hb:=h.byte h1.1;by_cases I:Z5 b i=39
   .rw[Y5 I]at m;by_cases u:500<F.length;·rw[Y5 u]at m;simp at m
    rw[Y3 u]at m;simp only[Prod.mk.injEq,true_and]at m;obtain⟨rfl,rfl⟩:=m;refine⟨by omega,by omega,λp hf=>?_⟩;obtain⟨g,rfl⟩:∃g,p=g+1:=⟨p-1,by omega⟩
    simp only[Zo,hb];rw[Y3 Px,Y5 I,Y3 u,Nat.add_assoc]
   rw[Y3 I]at m;by_cases u:Z5 b i=92
   ·rw [Y5 u] at m;by_cases J : i + 1 < b.size
    .rw[Y5 J]at m;cases he:Ui (Z5 b (i+1))with
     |none=>rw[he]at m;simp at m
     |some e=>
       rw[he]at m;simp only at m;obtain⟨Z,O,U⟩:=X (i+2) _ y k m;refine⟨by omega,O,λp hf=>?_⟩;obtain⟨g,rfl⟩:∃g,p=g+1:=⟨p-1,by omega⟩
       have Y:=h.byte J;rw[<-Nat.add_assoc]at Y;simp only[Zo,hb,Y];rw[Y3 Px,Y3 I,Y5 u,Y5 Px,he];simp only;rw[Nat.add_assoc];exact U g Px
    .rw[Y3 J]at m;simp at m
   .rw[Y3 u]at m;obtain⟨Z,O,U⟩:=X (i+1) _ y k m;refine⟨by omega,O,λp hf=>?_⟩;obtain⟨g,rfl⟩:∃g,p=g+1:=⟨p-1,by omega⟩
    simp only[Zo,hb,h.get i h1.1];rw[Y3 Px,Y3 I,Y3 u,Nat.add_assoc];exact U g Px
def Win.signs{T b:kB}{o:Nat}(h:Win T b o){j:Nat}(p:j<b.size):Zl T (o+j)=Zl b j:=by
 have hb:=h.byte p;have hp:=h.past;unfold Zl;rw[hb];by_cases h1:j+1<b.size
 .have g:=h.byte h1;rw[<-Nat.add_assoc]at g;rw[g];by_cases u:j+2<b.size
  .have m:=h.byte u;rw[<-Nat.add_assoc]at m;rw[m]
  .have e:j+2=b.size:=by omega
   have z:=Z4a (text:=b) (i:=j+2) Px;rw[<-e,<-Nat.add_assoc]at hp;rw[z];have y:Z5 T (o+j+2)≠61:=Px
   simp[y]
 .have e:j+1=b.size:=by omega
  have z:=Z4a (text:=b) (i:=j+1) Px;rw[<-e,<-Nat.add_assoc]at hp;rw[z];have F:Z5 T (o+j+1)≠61:=Px
  have I:Z5 T (o+j+1)≠38:=Px
  have J:Z5 T (o+j+1)≠124:=Px
  simp[F,I,J]
def Tok.shift(o:Nat)(t:Tok):Tok:={t with at':=o+t.at'}
def Zk9{c:Int}(h:mF c=true):wG c=false:=by
 cases hw:wG c with
 |false=>rfl
 |true=>rw[YH hw]at h;cases h
def Zg3{c:Int}(h:mF c=true):mE c=false:=by
 cases hw:mE c with
 |false=>rfl
 |true=>rw[YH (Z91 hw)]at h;cases h
def Win.tok{T b:kB}{o:Nat}(h:Win T b o){j k:Nat}{t:Tok}(p:j<b.size)(ht:iq b j=.ok (t,k)):iq T (o+j)=.ok (t.shift o,o+k):=by
 have hb:=h.byte p;obtain⟨c1,c2,_⟩:=VB b p ht;unfold iq at ht ⊢;rw[hb];by_cases hl:uZ (Z5 b j)=true
 .rw[Y5 hl]at ht ⊢;simp only at ht ⊢;rw[h.span wG (λc=>Zk9) Px];obtain⟨K,u⟩:∃K,Zh wG b (b.size-j) j=K:=⟨_,rfl⟩
  obtain⟨_,g,_,_⟩:=TQ wG b (b.size-j) j (Y0 _) Px;rw[u]at ht g ⊢;rw[h.cut g,show o+K-(o+j)=K-j by omega];split at ht
  .simp only[Except.ok.injEq,Prod.mk.injEq]at ht;obtain⟨rfl,rfl⟩:=ht;rw[Y5 Qd];rfl
  .exact Xc
 rw[Y3 hl]at ht ⊢;by_cases hd:mE (Z5 b j)=true
 .rw[Y5 hd]at ht ⊢;simp only at ht ⊢;rw[h.span mE (λc=>Zg3) Px];obtain⟨K,u⟩:∃K,Zh mE b (b.size-j) j=K:=⟨_,rfl⟩
  obtain⟨_,g,_,_⟩:=TQ mE b (b.size-j) j (Y0 _) Px;rw[u]at ht g ⊢;rw[show o+K-(o+j)=K-j by omega,h.num g];split at ht;·cases ht
  .exact Xc
 rw[Y3 hd]at ht ⊢;by_cases hq:Z5 b j=39
 .rw[Y5 hq]at ht ⊢;obtain⟨⟨I,e,K⟩,y⟩:∃R,R=BN b (j+1):=⟨_,rfl⟩
  rw[<-y]at ht;simp only at ht;by_cases F:e=4;·rw[Y5 F]at ht;cases ht
  rw[Y3 F]at ht;by_cases m:e≠0;·rw[Y5 m]at ht;cases ht
  rw[Y3 m]at ht;simp only[ne_eq,Decidable.not_not]at m;subst m;simp only[Except.ok.injEq,Prod.mk.injEq]at ht;obtain⟨rfl,rfl⟩:=ht;obtain⟨U,X,J⟩:=h.quoted _ _ _ _ _ y.symm;have O:BN T (o+j+1)=(I,0,o+K):=by
   have:=J (T.size+1-(o+j+1)) (by have:=h.size;omega);rw[<-Nat.add_assoc]at this;exact this
  rw[O];rfl
 rw[Y3 hq]at ht ⊢;rw[h.signs p];by_cases hs:Zl b j=1/\Ua (Z5 b j)=false;·rw[Y5 hs]at ht;cases ht
 rw[Y3 hs]at ht ⊢;simp only[Except.ok.injEq,Prod.mk.injEq]at ht;obtain⟨rfl,rfl⟩:=ht;rw[Nat.add_assoc,h.cut c2];rfl
def Zn4(a s b:kB)(hs:s.size=1)(hb:mF (Z5 s 0)=true):Win (a++s++b) a 0:=by
 have g:(a++s++b).size=a.size+1+b.size:=by rw[ByteArray.size_append,ByteArray.size_append,hs]
 refine⟨by omega,λi hi=>?_,λ_=>?_⟩
 .have h1:i<a.data.size:=hi;simp only[ByteArray.data_append,Nat.zero_add,Array.getD_eq_getD_getElem?];rw[Array.getElem?_append,Y5 PB,Array.getElem?_append,Y5 h1]
 .rw[Nat.zero_add];have e:Z5 (a++s++b) a.size=Z5 s 0:=by
   unfold Z5;have h1:a.data.size=a.size:=rfl;have m:s.data.size=1:=hs;simp only[ByteArray.data_append,Array.getD_eq_getD_getElem?];rw[Array.getElem?_append,Y5 PB,Array.getElem?_append,Y3 Px,h1,Nat.sub_self]
  rw[e];exact hb
structure Al(T S:kB)(o:Nat):Prop where
 size:T.size=S.size
 get:∀i,o<=i->T.data.getD i 0=S.data.getD i 0
section
variable {T S:kB}{o:Nat}
theorem Al.byte(h:Al T S o){i:Nat}(hi:o<=i):Z5 T i=Z5 S i:=by unfold Z5;rw[h.get i hi]
theorem Al.span(h:Al T S o)(p:Int->Bool):∀(f i:Nat),o<=i->Zh p T f i=Zh p S f i
 |0,i,hi=>rfl
 |f+1,i,hi=>by
   unfold Zh;rw[h.size,h.byte hi,h.span p f (i+1) Px]
theorem Al.num(h:Al T S o)(k:Nat):∀(f i:Nat) (n:Int),o<=i->iw T k f i n=iw S k f i n
 |0,i,n,hi=>rfl
 |f+1,i,n,hi=>by
   unfold iw;rw[h.byte hi,h.num k f (i+1) _ Px]
theorem Al.quoted(h:Al T S o):∀(f i:Nat) (g:List UInt8),o<=i->Zo T f i g=Zo S f i g
 |0,i,g,hi=>rfl
 |f+1,i,g,hi=>by
   unfold Zo;rw[h.size,h.byte hi,h.byte (show o<=i+1 by omega)];simp only[h.get i hi,h.quoted f (i+1) _ (show o<=i+1 by omega)];have hq:∀g,Zo T f (i+2) g=Zo S f (i+2) g:=λg=>h.quoted f (i+2) g Px;simp only[hq]
def Al.signs(h:Al T S o){j:Nat}(g:o<=j):Zl T j=Zl S j:=by
 unfold Zl;rw[h.byte g,h.byte (show o<=j+1 by omega),h.byte (show o<=j+2 by omega)]
def Al.cut(h:Al T S o){j k:Nat}(m:o<=j):T.extract j k=S.extract j k:=by
 have hs:=h.size;apply ByteArray.ext;rw[ByteArray.data_extract,ByteArray.data_extract];have s1:T.data.size=T.size:=rfl;have p:S.data.size=S.size:=rfl;apply Array.ext
 .simp only[Array.size_extract];omega
 .intro i h1 g;simp only[Array.size_extract]at h1 g;simp only[Array.getElem_extract];have e:=h.get (j+i) Px;simp only[Array.getD,dif_pos (show j+i<T.data.size by omega),dif_pos (show j+i<S.data.size by omega)]at e;simpa using e
def Al.tok(h:Al T S o){j:Nat}(g:o<=j):iq T j=iq S j:=by
 have hq:BN T (j+1)=BN S (j+1):=by unfold BN;rw[h.size];exact h.quoted _ _ _ Px
 unfold iq;simp only[h.byte g,h.size,h.span wG _ j g,h.span mE _ j g,h.cut g,h.num _ _ j 0 g,hq,h.signs g]
theorem Zct(p:Int->Bool)(T:kB):∀(f i:Nat),i<=Zh p T f i
 |0,i=>Y0 _
 |f+1,i=>by
   unfold Zh;split;·exact Y4 (Nat.le_succ i) (Zct p T f (i+1))
   .exact Y0 _
theorem Al.stand(h:Al T S o):∀(r:List Tok) (i:Nat),o<=i->Sk T i r->Sk S i r
 | [],i,hi,g=>g
 | [t],i,hi,g=>by
   unfold Sk at g ⊢;rw[<-h.size,<-h.span mF _ i hi];exact g
 |t::u::l,i,hi,g=>by
   unfold Sk at g ⊢;obtain⟨k,m,p,F⟩:=g;have y:o<=Zh mF T (T.size-i) i:=Y4 hi (Zct ..);rw[<-h.size,<-h.span mF _ i hi,<-h.tok y];exact⟨k,m,p,h.stand (u::l) k (Y4 y (Nat.le_of_lt (VB T m p).1)) F⟩
end
def Eq2(t u:Tok):Prop:=t.kind=u.kind/\t.text=u.text/\t.n=u.n
def A2:List Tok->List Tok->Prop
 | [],[]=>True
 |x::p,y::q=>Eq2 x y/\A2 p q
 |_,_=>False
section
variable {E:Bool}{e:Tok}{us:List Tok}
end
section
variable {E:Bool}{x:Tok}
end
variable {T0:List Tok}
def K6(ts:List Tok):Prop:=(ts.filter λt=>t.kind==6).length<=1
def Zwi{p:PR}{k:Tree->List Tok->PR}{t:Tree}{ts:List Tok}(h:Zq p k=some (.ok (t,ts))):∃t2 g,p=some (.ok (t2,g))/\k t2 g=some (.ok (t,ts)):=by
 cases p with
 |none=>cases h
 |some r=>
   cases r with
   |error x=>cases h
   |ok x=>obtain⟨t2,g⟩:=x;exact⟨t2,g,rfl,h⟩
def Z7i{text:kB}{t:Tree}(h:Zt text=.ok t):∃l e ts',Xz text=.ok (l++[e])/\e.kind=6/\K6 (l++[e])/\Z2 (40*(l.length+1)+31) (.stmts 1 []) 0 (l++[e])=some (.ok (t,ts')):=by
 unfold Zt at h;split at h;·cases h
 .split at h;·cases h
  .rename_i ts g;obtain⟨⟨l,e,h1,m,p⟩,_,_⟩:=Zap ts 0 (Yh _) (Z8e g);subst h1;split at h;·cases h
   .cases h
   .rename_i t' ts' hp;split at h;·cases h
    .have u:t'=t:=by simpa using h
     subst u;refine⟨l,e,ts',g,m,?_,by simpa using hp⟩;unfold K6;rw[List.filter_append,List.filter_eq_nil_iff.2 (λx hx=>by simpa using p x hx)];simp[List.filter_cons];split<;>simp
