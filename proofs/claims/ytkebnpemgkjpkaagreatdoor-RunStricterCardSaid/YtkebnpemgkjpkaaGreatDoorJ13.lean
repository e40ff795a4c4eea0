import Derived.Test.YtkebnpemgkjpkaaGreatDoorJ12
set_option maxRecDepth 100000
set_option maxHeartbeats 20000000
set_option linter.all false
namespace Go.Proofs.YtkebnpemgkjpkaaGreatDoor
open Go Go.RowKit Go.Proofs.Tryz Tryz
def Vf:kB:=⟨#[117,115,101,32,115,116,114,105,99,116]⟩
def TZ:kB:=⟨#[117,115,101,32,115,108,111,112,112,121]⟩
def TR:kB:=⟨#[39,117,115,101,32,115,116,114,105,99,116,39,59]⟩
def KZ:kB:=⟨#[39,117,115,101,32,115,108,111,112,112,121,39,59]⟩
def Ey(a:kB):Tree:=.mk 15 ByteArray.empty 0 [.mk 18 a 0 []]
theorem Zgi(g:Nat)(r:List Tok):Z2 (g+30) .stmt 1 (⟨4,Vf,0,0⟩::⟨5,⟨#[59]⟩,0,12⟩::r)=some (.ok (Ey Vf,r)):=by kernel_rfl
theorem Zhh(g:Nat)(r:List Tok):Z2 (g+30) .stmt 1 (⟨4,TZ,0,0⟩::⟨5,⟨#[59]⟩,0,12⟩::r)=some (.ok (Ey TZ,r)):=by kernel_rfl
theorem Zhs:iq TR 0=.ok (⟨4,Vf,0,0⟩,12):=by kernel_rfl
theorem Zgt:iq TR 12=.ok (⟨5,⟨#[59]⟩,0,12⟩,13):=by kernel_rfl
theorem Zhp:iq KZ 0=.ok (⟨4,TZ,0,0⟩,12):=by kernel_rfl
theorem Zh4:iq KZ 12=.ok (⟨5,⟨#[59]⟩,0,12⟩,13):=by kernel_rfl
def Zb9{T:kB}{i k:Nat}{t:Tok}{L:List Tok}(h:Sk T i L)(hi:i<T.size)(hb:mF (Z5 T i)=false)(ht:iq T i=.ok (t,k)):∃r,L=t::r/\Sk T k r:=by
 have hs:Zh mF T (T.size-i) i=i:=Z6q (.inr hb);match L,h with
 | [],h=>exact absurd h (by simp[Sk])
 | [u],h=>
   unfold Sk at h;rw[hs]at h;omega
 |u::v::l,h=>
   unfold Sk at h;obtain⟨p,h1,g,m⟩:=h;rw[hs,ht]at g;simp only[Except.ok.injEq,Prod.mk.injEq]at g;obtain⟨rfl,rfl⟩:=g;exact⟨_,rfl,m⟩
def Zi2{a b x:kB}{t0 g:Tok}{L:List Tok}(X:a.size=13)(u:iq a 0=.ok (t0,12))(h1:iq a 12=.ok (g,13))(Y:t0.at'=0)(Z:g.at'=12)(y:Xz (a++⟨#[32]⟩++b)=.ok L) :
 ∃r,L=t0::g::r/\Sk (a++⟨#[32]⟩++b) 13 r:=by
 have hw:=Zn4 a ⟨#[32]⟩ b rfl Py;have sz:(a++⟨#[32]⟩++b).size=a.size+1+b.size:=by rw[ByteArray.size_append,ByteArray.size_append];rfl
 have F:t0.shift 0=t0:=by cases t0;simp[Tok.shift]
 have s1:g.shift 0=g:=by cases g;simp[Tok.shift]
 have m:=hw.tok (j:=0) Px u;have p:=hw.tok (j:=12) Px h1;rw[F]at m;rw[s1]at p;simp only[Nat.zero_add]at m p;have I:mF (Z5 (a++⟨#[32]⟩++b) 0)=false:=(VB _ Px m).2.2.2.2.1;have b1:mF (Z5 (a++⟨#[32]⟩++b) 12)=false:=(VB _ Px p).2.2.2.2.1;obtain⟨r,rfl,J⟩:=Zb9 (Z8e y) Px I m;obtain⟨O,rfl,U⟩:=Zb9 J Px b1 p;exact⟨O,rfl,U⟩
def Zy9(b:kB):Al (TR++⟨#[32]⟩++b) (KZ++⟨#[32]⟩++b) 13:=by
 refine⟨by rw[ByteArray.size_append,ByteArray.size_append,ByteArray.size_append,ByteArray.size_append];rfl,λi hi=>?_⟩;have p:TR.data.size=13:=rfl;have u:KZ.data.size=13:=rfl;have g:(TR.data++ #[32]).size=14:=rfl;have m:(KZ.data++ #[32]).size=14:=rfl;simp only[ByteArray.data_append,Array.getD_eq_getD_getElem?];by_cases h:i<14
 .have e:i=13:=by omega
  subst e;rw[Array.getElem?_append,Y5 (by rw[g];omega),Array.getElem?_append (xs:=KZ.data++ #[32]),Y5 (by rw[m];omega)];rfl
 .rw[Array.getElem?_append,Y3 (by rw[g];omega),Array.getElem?_append (xs:=KZ.data++ #[32]),Y3 (by rw[m];omega),g,m]
def Zma{f d:Nat}{kind:Int}:∀{p:List Tree} {ts ts':List Tok} {t:Tree},Z2 f (.stmts kind p) d ts=some (.ok (t,ts'))->∃g,t=.mk kind (if Up (p++g)then Cw else ByteArray.empty) 0 (p++g)/\
 ∀m,Z2 f (.stmts kind m) d ts=some (.ok (.mk kind (if Up (m++g)then Cw else ByteArray.empty) 0 (m++g),ts')):=by
 induction f with
 |zero=>intro p ts ts' t h;simp[Z2]at h
 |succ f u=>
   intro p ts ts' t h;unfold Z2 at h;by_cases hc:(if kind=1 then decide ((c9 ts).kind=6)else ak Zn ts)=true
   .rw[Y5 hc]at h;simp only[ir,Option.some.injEq,Except.ok.injEq,Prod.mk.injEq]at h;obtain⟨rfl,rfl⟩:=h;refine⟨[],by simp,λm=>?_⟩;unfold Z2;rw[Y5 hc];simp[ir]
   .rw[Y3 hc]at h;obtain⟨x,us,h1,y⟩:=Zwi h;obtain⟨g,rfl,F⟩:=u y;refine⟨x::g,by simp,λm=>?_⟩;unfold Z2;rw[Y3 hc,h1];simp only[Zq];have:=F (m++[x]);rw[this];simp
def Zmw{b:kB}{I tb:Tree}(ha:Zt (TR++⟨#[32]⟩++b)=.ok I)(hb:Zt (KZ++⟨#[32]⟩++b)=.ok tb) :
 ∃u,I=.mk 1 Cw 0 (Ey Vf::u)/\tb=.mk 1 ByteArray.empty 0 (Ey TZ::u):=by
 obtain⟨l,e,q1,h1,h2,h3,g⟩:=Z7i ha;obtain⟨m,e',q2,O,g2,g3,p⟩:=Z7i hb;obtain⟨r,hr,U⟩:=Zi2 (x:=b) rfl Zhs Zgt rfl rfl h1;obtain⟨X,J,Y⟩:=Zi2 (x:=b) rfl Zhp Zh4 rfl rfl O;have Z:=(Zy9 b).stand r 13 (Y0 _) U;have z:13<=(KZ++⟨#[32]⟩++b).size:=by rw[ByteArray.size_append,ByteArray.size_append];show 13<=13+1+b.size;omega
 have f1:=Zet _ r ((KZ++⟨#[32]⟩++b).size+1) 13 [] z Px Z;have y:=Zet _ X ((KZ++⟨#[32]⟩++b).size+1) 13 [] z Px Y;rw[f1]at y;simp only[List.nil_append,Except.ok.injEq]at y;subst y;have En:=congrArg List.length hr;have Eo:=congrArg List.length J;simp only[zL,zM,zN]at En Eo;rw[hr]at g;rw[J]at p;obtain⟨G,hG⟩:∃G,40*(l.length+1)+31=G+30+1:=⟨40*(l.length+1),by omega⟩
 have LY:40*(m.length+1)+31=G+30+1:=Px
 rw[hG]at g;rw[LY]at p;unfold Z2 at g p;rw[Y3 (by simp[c9]),x6,Y3 Py]at g p;rw[Nat.zero_add,Zgi]at g;rw[Nat.zero_add,Zhh]at p;simp only[Zq,List.nil_append]at g p;obtain⟨u,e1,e2⟩:=Zma g;have F:=e2 [Ey TZ];rw[p]at F;simp only[Option.some.injEq,Except.ok.injEq,Prod.mk.injEq]at F;refine⟨u,?_,?_⟩;·rw[e1];rfl
 .rw[F.1];rfl
mutual
def m':Tree->Nat->NT
 | .mk g t n l,k=>.mk k g t n (wD l (k+1))
def wD:List Tree->Nat->List NT
 | [],_=>[]
 |x::l,k=>m' x k::wD l (k+x.many)
end
theorem Za7(t:Tree)(k:Nat):(m' t k).kids=wD t.kids (k+1):=by cases t;simp only[m',NT.kids,Tree.kids]
theorem Ze7(t:Tree)(k:Nat):(m' t k).text=t.text:=by cases t;simp only[m',NT.text,Tree.text]
theorem Zb8(t:Tree)(k:Nat):(m' t k).kind=t.kind:=by cases t;simp only[m',NT.kind,Tree.kind]
section
variable {P:Program}{ai:Array Oper}{md:Region.Mode}{Q:Exit->Act->kV->Prop}{S:kV->Prop}{t:Nat}
def Zch{m:Array Bool}{i j:Nat}(h:i<m.size):(m.setIfInBounds i true).getD j false=if i=j then true else m.getD j false:=by
 by_cases e:i=j;·subst e;rw[Y5 rfl];simp[h]
 .rw[Y3 e,getD_set_ne false e]
def WR(P:Program)(md:Region.Mode)(ai:Array Oper)(Q:Exit->Act->kV->Prop)(S:kV->Prop)(t:Nat):Nat->Array Bool->Act->kV->Prop
 |0,g,a,w=>Region.ready md ai g=[]/\Q .normal a w
 |fuel+1,g,a,w=>
   (Region.ready md ai g=[]->Q .normal a w)/\
   ∀i∈Region.ready md ai g,wpOp P ai Q i (λa' w'=>((g.setIfInBounds i true).getD t false=false->S w')/\WR P md ai Q S t fuel (g.setIfInBounds i true) a' w') a w
theorem Zae:∀(fuel:Nat) (g:Array Bool) (a:Act) (w:kV),WR P md ai Q S t fuel g a w->wpAny P md ai Q fuel g a w
 |0,_,_,_,h=>h
 |fuel+1,_,_,_,h=>⟨h.1,λi hi=>wpOp_mono (λa' w' m=>Zae fuel _ a' w' m.2) (h.2 i hi)⟩
def Z8r{i:Nat}{g:Oper}{v:Value}{p:kV->Prop}(hi:ai[i]?=some g)(U:∀(j:Nat) (o:Oper) cs b,ai[j]?=some o->o.op≠.select cs b)
 (hQ:∀c a w,Q (.panic c) (a.put g.dst v) w->Q (.panic c) a w)(X:i≠t) :
 ∀ (fuel : Nat) (aa : Array Bool) (a : Act) (w : kV), aa.size = ai.size →
   (∀j m,ai[j]?=some m->j≠i->aa.getD j true=false->(∀e∈m.after,Region.binds md e=true->e.on≠i)->g.apart ai m=true)->
   i∈Region.ready md ai aa->YieldsIf P ai p g v a->((waits md ai t i=true/\aa.getD t false=false/\p=S)\/p=λ_=>True)->(aa.getD t false=false->S w)->
   WR P md ai Q S t fuel (aa.setIfInBounds i true) (a.put g.dst v) w->WR P md ai Q S t (fuel+1) aa a w:=by
 have key:∀(aa:Array Bool) (w:kV),((waits md ai t i=true/\aa.getD t false=false/\p=S)\/p=λ_=>True)->(aa.getD t false=false->S w)->p w:=by
  intro aa w h1 F;rcases h1 with⟨_,h,rfl⟩|rfl;·exact F h
  .trivial
 have same:∀(aa:Array Bool),(aa.setIfInBounds i true).getD t false=aa.getD t false:=λl=>getD_set_ne false X;intro fuel;induction fuel with
 |zero=>
   intro aa a w _ _ hr hy h1 hS H;refine⟨λh=>(by rw[h]at hr;cases hr),λj u=>?_⟩;by_cases cJ:j=i;·exact Zxz
   .have:=ready_mono u cJ;rw[H.1]at this;cases this
 |succ fuel ih=>
   intro aa a w aZ Y hr hy h1 hS H;refine⟨λh=>(by rw[h]at hr;cases hr),λj u=>?_⟩;by_cases cJ:j=i;·exact Zxz
   .have F:=H.2 j (ready_mono u cJ);obtain⟨Z,m,I,ao⟩:=mem_ready.1 u;have y:aa.getD i true=false:=(mem_ready.1 hr).1;have zj:aa.getD i false=false:=by
     rcases Nat.lt_or_ge i aa.size with J|J;·simp[J]at y ⊢;exact y
     .simp[J]
    have Es:∀e∈m.after,Region.binds md e=true->e.on≠i:=λe he hb Et=>by
     have h1:=ao e he hb;rw[Et,zj]at h1;cases h1
    have zk:waits md ai t i=true->j≠t:=λhw e=>by
     subst e;have:=Z8w hw u;rw[zj]at this;cases this
    have h3:=wpOp_putIf I (Y j m I cJ Z Es) (λcs b=>U i g cs b hi) (λcs b=>U j m cs b I) hQ hy F
    have vi:∀k ok,ai[k]?=some ok->k≠i->(aa.setIfInBounds j true).getD k true=false->
     (∀e∈ok.after,Region.binds md e=true->e.on≠i)->g.apart ai ok=true:=λk ok hk sg y dO=>by
     refine Y k ok hk sg ?_ dO;by_cases pU:j=k;·subst pU;exact Z
     .rw[getD_set_ne true pU]at y;exact y
    refine wpOp_mono (λa' w' O=>?_) h3;have hb:(aa.setIfInBounds j true).getD t false=false->S w':=λh=>O.2.1 (by rw[Z8c,getD_set_ne false X];exact h);refine⟨hb,ih (aa.setIfInBounds j true) a' w' QX vi (ready_mono hr (Ne.symm cJ)) O.1 ?_ hb ?_⟩
    .rcases h1 with⟨q1,q2,q3⟩|q;·exact .inl ⟨q1,by rw[getD_set_ne false (zk q1)];exact q2,q3⟩
     .exact .inr q
    .rw[Array.setIfInBounds_comm _ _ cJ];exact O.2.2
inductive Pl3
 |nil
 |take(i:Nat)(r:Pl3)
 |go(i:Nat)(r:Pl3)
 |two(i:Nat)(ri:Pl3)(j:Nat)(rj:Pl3)
 |three(i:Nat)(ri:Pl3)(j:Nat)(rj:Pl3)(k:Nat)(rk:Pl3)
def Pl3.len:Pl3->Nat
 | .nil=>0
 | .take _ r=>r.len+1
 | .go _ r=>r.len+1
 | .two _ r _ _=>r.len+1
 | .three _ r _ _ _ _=>r.len+1
def we(P:Program)(md:Region.Mode)(ai:Array Oper)(Q:Exit->Act->kV->Prop)(S:kV->Prop)(t:Nat):Pl3->Bool->Act->kV->Prop
 | .nil,_,a,w=>Q .normal a w
 | .take i r,b,a,w=>∃o v,ai[i]?=some o/\((b=false/\waits md ai t i=true/\YieldsIf P ai S o v a)\/YieldsIf P ai (λ_=>True) o v a)/\we P md ai Q S t r b (a.put o.dst v) w
 | .go i r,b,a,w=>wpOp P ai Q i (λa' w'=>((b||i==t)=false->S w')/\we P md ai Q S t r (b||i==t) a' w') a w
 | .two i g j m,b,a,w=>wpOp P ai Q i (λa' w'=>((b||i==t)=false->S w')/\we P md ai Q S t g (b||i==t) a' w') a w/\wpOp P ai Q j (λa' w'=>((b||j==t)=false->S w')/\we P md ai Q S t m (b||j==t) a' w') a w
 | .three i g j m k p,b,a,w=>wpOp P ai Q i (λa' w'=>((b||i==t)=false->S w')/\we P md ai Q S t g (b||i==t) a' w') a w/\wpOp P ai Q j (λa' w'=>((b||j==t)=false->S w')/\we P md ai Q S t m (b||j==t) a' w') a w/\wpOp P ai Q k (λa' w'=>((b||k==t)=false->S w')/\we P md ai Q S t p (b||k==t) a' w') a w
def tO(md:Region.Mode)(ai:Array Oper)(t:Nat):Pl3->Array Bool->Bool
 | .nil,g=>(Region.ready md ai g).isEmpty
 | .take i r,g=>(Region.ready md ai g).contains i&&Region.free md ai g i&&decide (i≠t)&&tO md ai t r (g.setIfInBounds i true)
 | .go i r,g=>decide (Region.ready md ai g=[i])&&tO md ai t r (g.setIfInBounds i true)
 | .two i m j p,g=>decide (Region.ready md ai g=[i,j])&&decide (m.len=p.len)&&tO md ai t m (g.setIfInBounds i true)&&tO md ai t p (g.setIfInBounds j true)
 | .three i m j p k u,g=>decide (Region.ready md ai g=[i,j,k])&&decide (m.len=p.len)&&decide (m.len=u.len)&&tO md ai t m (g.setIfInBounds i true)&&tO md ai t p (g.setIfInBounds j true)&&tO md ai t u (g.setIfInBounds k true)
theorem Z2r(dy:Region.noSelect ai=true)(hQ:∀c a d v w,Q (.panic c) (Act.put a d v) w->Q (.panic c) a w) :
 ∀(l:Pl3) (g:Array Bool) (b:Bool) (a:Act) (w:kV),g.size=ai.size->g.getD t false=b->tO md ai t l g=true->(b=false->S w)->we P md ai Q S t l b a w->WR P md ai Q S t l.len g a w
 | .nil,g,b,a,w,_,_,m,_,h=>⟨by simpa[tO]using m,h⟩
 | .take i r,g,b,a,w,aZ,hb,m,p,h=>by
   simp only[tO,Bool.and_eq_true,decide_eq_true_eq]at m;obtain⟨⟨⟨hr,hf⟩,F⟩,I⟩:=m;obtain⟨o,v,ho,u,h'⟩:=h;have zl:=Z2r dy hQ r (g.setIfInBounds i true) b _ w QX ((getD_set_ne false F).trans hb) I p h';rcases u with⟨h0,hw,u⟩|u;·exact Z8r ho (Region.noSelect_spec dy) (λc a w=>hQ c a _ _ w) F r.len g a w aZ (Region.free_spec ho hf) (by simpa using hr) u (.inl ⟨hw,hb.trans h0,rfl⟩) (λh=>p (hb.symm.trans h)) zl
   .exact Z8r ho (Region.noSelect_spec dy) (λc a w=>hQ c a _ _ w) F r.len g a w aZ (Region.free_spec ho hf) (by simpa using hr) u (.inr rfl) (λh=>p (hb.symm.trans h)) zl
 | .go i r,g,b,a,w,aZ,hb,m,p,h=>by
   simp only[tO,Bool.and_eq_true,decide_eq_true_eq]at m;obtain⟨hr,I⟩:=m;obtain⟨_,o,ho,_⟩:=mem_ready.1 (show i∈Region.ready md ai g by rw[hr];simp);have fe:i<g.size:=by rw[aZ];exact(Y1.1 ho).1
   have cO:(g.setIfInBounds i true).getD t false=(b||i==t):=by
    rw[Zch fe,hb];by_cases e:i=t;·subst e;simp
    .simp[e]
   refine⟨λh0=>RD,λk hk=>?_⟩;rw[hr]at hk;have sg:k=i:=Ra
   subst sg;exact wpOp_mono (λa' w' h'=>⟨λhh=>h'.1 (cO.symm.trans hh),Z2r dy hQ r _ _ a' w' QX cO I h'.1 h'.2⟩) h
 | .two i ri j J,g,b,a,w,aZ,hb,m,p,h=>by
   simp only[tO,Bool.and_eq_true,decide_eq_true_eq]at m;obtain⟨⟨⟨hr,O⟩,aO⟩,U⟩:=m;obtain⟨_,o1,X,_⟩:=mem_ready.1 (show i∈Region.ready md ai g by rw[hr];simp);obtain⟨_,o2,mG,_⟩:=mem_ready.1 (show j∈Region.ready md ai g by rw[hr];simp);have fe:i<g.size:=by rw[aZ];exact(Y1.1 X).1
   have y:j<g.size:=by rw[aZ];exact(Y1.1 mG).1
   have cO:∀k,k<g.size->(g.setIfInBounds k true).getD t false=(b||k==t):=λk hk=>by
    exact Zxh
   refine⟨λh0=>RD,λk hk=>?_⟩;rw[hr]at hk;have Y:k=i\/k=j:=Ra
   rcases Y with rfl|rfl;·exact Zy3
   .show wpOp P ai Q k (λa' w'=>_/\WR P md ai Q S t ri.len _ a' w') a w;rw[O];exact wpOp_mono (λa' w' h'=>⟨λhh=>h'.1 ((cO _ y).symm.trans hh),Z2r dy hQ J _ _ a' w' QX (cO _ y) U h'.1 h'.2⟩) h.2
 | .three i ri j J Z rk,g,b,a,w,aZ,hb,m,p,h=>by
   simp only[tO,Bool.and_eq_true,decide_eq_true_eq]at m;obtain⟨⟨⟨⟨⟨hr,O⟩,qi⟩,aO⟩,U⟩,hB3⟩:=m;have ay:∀x,x∈Region.ready md ai g->x<g.size:=λx hx=>by
    obtain⟨_,o1,X,_⟩:=mem_ready.1 hx;rw[aZ];exact(Y1.1 X).1
   have fe:i<g.size:=ay i (by rw[hr];simp);have y:j<g.size:=ay j (by rw[hr];simp);have aX:Z<g.size:=ay Z (by rw[hr];simp);have cO:∀k,k<g.size->(g.setIfInBounds k true).getD t false=(b||k==t):=λk hk=>by
    exact Zxh
   refine⟨λh0=>RD,λk hk=>?_⟩;rw[hr]at hk;have Y:k=i\/k=j\/k=Z:=Ra
   rcases Y with rfl|rfl|rfl;·exact Zy3
   .show wpOp P ai Q k (λa' w'=>_/\WR P md ai Q S t ri.len _ a' w') a w;rw[O];exact wpOp_mono (λa' w' h'=>⟨λhh=>h'.1 ((cO _ y).symm.trans hh),Z2r dy hQ J _ _ a' w' QX (cO _ y) U h'.1 h'.2⟩) h.2.1
   .show wpOp P ai Q k (λa' w'=>_/\WR P md ai Q S t ri.len _ a' w') a w;rw[qi];exact wpOp_mono (λa' w' h'=>⟨λhh=>h'.1 ((cO _ aX).symm.trans hh),Z2r dy hQ rk _ _ a' w' QX (cO _ aX) hB3 h'.1 h'.2⟩) h.2.2
def Zol(md:Region.Mode)(ai:Array Oper)(t:Nat)(pl:Pl3):Bool:=
 Region.noSelect ai&&tO md ai t pl (Array.replicate ai.size false)&&decide (pl.len=ai.size)
def Z2b{id:Nat}{l:List Oper}{a:Act}{w:kV}(pl:Pl3)(t:Nat)(S:kV->Prop)(hm:P.follows .mixedOrders=true)
 (m:Zol .any l.toArray t pl=true)(p:∀c a d v w,Q (.panic c) (Act.put a d v) w->Q (.panic c) a w)(u:S w.drew)
 (h:we P .any l.toArray Q S t pl false a w.drew):(Code.region id l.toArray true).wp P Q a w:=by
 simp only[Zol,Bool.and_eq_true,decide_eq_true_eq]at m;obtain⟨⟨y,F⟩,I⟩:=m;refine wp_region_any hm ?_;have g:=Zae _ _ _ _ (Z2r (P:=P) (md:=.any) (Q:=Q) (S:=S) (t:=t) y p pl (Array.replicate l.toArray.size false) false a w.drew PE (Z67 _ _) F (λ_=>u) h);rw[I]at g;exact g
def vy{P:Program}{Q:Exit->Act->kV->Prop}{id:Nat}{l:List Oper}{a:Act}{w:kV}(pl:Pl3)(t:Nat)(S:kV->Prop)(hS:S w.drew)
    (h:we P .any l.toArray Q S t pl false a w.drew)(hm:P.follows .mixedOrders=true:=by kernel_rfl)(hB:Zol .any l.toArray t pl=true:=by kernel_rfl)(hQ:∀c a d v w,Q (.panic c) (Act.put a d v) w->Q (.panic c) a w:=by(intro _ _ d _ _ h;cases d<;>exact h)):(Code.region id l.toArray true).wp P Q a w:=
  Z2b pl t S hm hB hQ hS h
def Z7v{o:Oper}{i:Nat}{r:Pl3}{a:Act}{w:kV}(v:Value)(ho:ai[i]?=some o)(g:waits md ai t i=true)
 (hw:Region.wanted o (yielded ai a.tmps)=true)(m:∀w',S w'->(execOp a.eval o).run P w'=.ok (.value v) w')(h:we P md ai Q S t r false (a.put o.dst v) w):we P md ai Q S t (.take i r) false a w:=
 ⟨o,v,ho,.inl ⟨rfl,g,.inl ⟨hw,m⟩⟩,h⟩
def Z57{o:Oper}{i:Nat}{r:Pl3}{b:Bool}{a:Act}{w:kV}(v:Value)(ho:ai[i]?=some o)
 (hw:Region.wanted o (yielded ai a.tmps)=true)(g:∀w',(execOp a.eval o).run P w'=.ok (.value v) w')(h:we P md ai Q S t r b (a.put o.dst v) w):we P md ai Q S t (.take i r) b a w:=
 ⟨o,v,ho,.inr (.inl ⟨hw,λw' _=>g w'⟩),h⟩
def Zq8{o:Oper}{i:Nat}{r:Pl3}{a:Act}{w:kV}(ho:ai[i]?=some o)(g:(i==t)=false)(hw:Region.wanted o (yielded ai a.tmps)=true)
 (h:∀K:Act->kV->Prop,(∀a' w',S w'->we P md ai Q S t r false a' w'->K a' w')->o.wp P a w K Q):we P md ai Q S t (.go i r) false a w:=by
 unfold we wpOp;simp only[ho];rw[Y5 hw];exact .inl (h _ λa' w' h1 m=>⟨λ_=>h1,by simpa[g]using m⟩)
def Zjq{o:Oper}{i:Nat}{r:Pl3}{b:Bool}{a:Act}{w:kV}(ho:ai[i]?=some o)(g:(b||i==t)=true)(hw:Region.wanted o (yielded ai a.tmps)=true)
 (h:∀K:Act->kV->Prop,(∀a' w',we P md ai Q S t r true a' w'->K a' w')->o.wp P a w K Q):we P md ai Q S t (.go i r) b a w:=by
 unfold we wpOp;simp only[ho];rw[Y5 hw];exact .inl (h _ λa' w' p=>⟨λm=>(by rw[g]at m;cases m),by rw[g];exact p⟩)
theorem Zlf{i j:Nat}{g m:Pl3}{b:Bool}{a:Act}{w:kV}(h1:we P md ai Q S t (.go i g) b a w)(p:we P md ai Q S t (.go j m) b a w):we P md ai Q S t (.two i g j m) b a w:=⟨h1,p⟩
theorem Si{b:Bool}{a:Act}{w:kV}(h:Q .normal a w):we P md ai Q S t .nil b a w:=h
end
open Go.Maps
def Zrz(w:kV)(s:kB)(g:s.size<=maxLen)(c0:Int)(hc:(UQ Abf).atKey (.string s.data.toList) (.lit (.int .i64 0))=.lit (.int .i64 c0)) :
 kC 152 #[.string s] w λe w'=>e=.returned (vI c0)/\kW w w':=by
 have kY:=@run_makeMap Tryz.prog;have O:=World.ownsMap_made (H:=Unit) w Tryz.prog 9 (plainElem Tryz.prog 3);have m:kW w (w.alloc (.map #[] 0)):=(Y2 _ _).alloc (Y0 _) _;have HL:=lh g;have U:=lh hc;clear g hc;go_enter func152,ntmps152
 go_wp2_with (first|(refine Zp _ rfl _ _ _ 237 rfl 9 3 dS underlying237 _ _ 0 _ rfl O PA _ _ _ rfl rfl (Yo Yj Py) _ [] (plainElem_int Yk Py) ?_;intro w1 h1 X)|(refine Zp _ rfl _ _ _ 237 rfl 9 3 dS underlying237 _ _ 1 _ rfl h1 PA _ _ _ rfl rfl (Yo Yj Py) _ [] (plainElem_int Yk Py) ?_;intro w2 Y Z)|(refine Zp _ rfl _ _ _ 237 rfl 9 3 dS underlying237 _ _ 2 _ rfl Y PA _ _ _ rfl rfl (Yo Yj Py) _ [] (plainElem_int Yk Py) ?_;intro w3 h3 g3)|(refine Zp _ rfl _ _ _ 237 rfl 9 3 dS underlying237 _ _ 3 _ rfl h3 PA _ _ _ rfl rfl (Yo Yj Py) _ [] (plainElem_int Yk Py) ?_;intro w4 h4 g4)|(refine Zp _ rfl _ _ _ 237 rfl 9 3 dS underlying237 _ _ 4 _ rfl h4 PA _ _ _ rfl rfl (Yo Yj Py) _ [] (plainElem_int Yk Py) ?_;intro w5 h5 g5)|(refine Zp _ rfl _ _ _ 237 rfl 9 3 dS underlying237 _ _ 5 _ rfl h5 PA _ _ _ rfl rfl (Yo Yj Py) _ [] (plainElem_int Yk Py) ?_;intro w6 h6 g6)|(refine Zp _ rfl _ _ _ 237 rfl 9 3 dS underlying237 _ _ 6 _ rfl h6 PA _ _ _ rfl rfl (Yo Yj Py) _ [] (plainElem_int Yk Py) ?_;intro w7 h7 g7)|(at_lookup;refine wpList_lookup_own_int _ rfl _ _ 237 rfl 9 3 .i64 dS underlying237 Yk (WL _) _ 7 _ rfl h7 _ _ rfl (Yo Yj HL.o) ?_;intro c gM LZ))
 go_ret;have e:=U.o.symm.trans gM;obtain rfl:c0=c:=by
  have:(DataW.lit (.int .i64 c0):DataW Unit)=.lit (.int .i64 c):=e;simpa using this
 have s0:w.heap.size<=(w.alloc (.map #[] 0)).heap.size:=m.size;have p:=T7 m X (Y0 _) s0;have u:=T7 p Z (Y0 _) p.size;have y:=T7 u g3 (Y0 _) u.size;have F:=T7 y g4 (Y0 _) y.size;have I:=T7 F g5 (Y0 _) F.size;have J:=T7 I g6 (Y0 _) I.size;exact⟨rfl,T7 J g7 (Y0 _) J.size⟩
def Zun(w:kV)(s:kB)(hs:WI s≠0):kC 152 #[.string s] w λe w'=>e=.returned (vI (WI s))/\kW w w':=by
 have g:s=Hs\/s=V0\/s=Wc\/s=Vt\/s=U5\/s=Vn\/s=V5:=by
  exact Ab7
 rcases g with rfl|rfl|rfl|rfl|rfl|rfl|rfl;all_goals exact Zrz w _ Py _ Pz
def Eg(lv:Nat)(rb:Nat):Array Value:=#[vP rb,vI lv]
def Zlc{lv:Nat}{ts:List Tok}(h:∀(i:Nat) (x:kB),(j4 lv)[i]?=some x->ak x ts=false):Dc lv ts=0:=by
 match lv with
 |0=>have g:=h 0 Hs rfl;simp[Dc,g]
 |1=>have g:=h 0 V0 rfl;simp[Dc,g]
 |2=>have g:=h 0 Wc rfl;simp[Dc,g]
 |3=>have g:=h 0 Vt rfl;simp[Dc,g]
 |4=>have g:=h 0 U5 rfl;have h1:=h 1 Vn rfl;simp[Dc,g,h1]
 |5=>have g:=h 0 V5 rfl;simp[Dc,g]
 |n+6=>rfl
def Zkh{lv:Nat}{ts:List Tok}{k:Nat}{x:kB}(hk:(j4 lv)[k]?=some x)(hx:ak x ts=true)(h:∀(i:Nat) (y:kB),i<k->(j4 lv)[i]?=some y->ak y ts=false):Dc lv ts=WI x/\WI x≠0:=by
 match lv with
 |0=>
   match k with
   | 0 => obtain rfl : Hs = x := by simpa [j4] using hk
          exact To
   |k+1=>simp[j4]at hk
 |1=>
   match k with
   | 0 => obtain rfl : V0 = x := by simpa [j4] using hk
          exact To
   |k+1=>simp[j4]at hk
 |2=>
   match k with
   | 0 => obtain rfl : Wc = x := by simpa [j4] using hk
          exact To
   |k+1=>simp[j4]at hk
 |3=>
   match k with
   | 0 => obtain rfl : Vt = x := by simpa [j4] using hk
          exact To
   |k+1=>simp[j4]at hk
 |4=>
   match k with
   | 0 => obtain rfl : U5 = x := by simpa [j4] using hk
          exact To
   | 1 => obtain rfl : Vn = x := by simpa [j4] using hk
          have g:=h 0 U5 Px rfl;exact⟨by simp[Dc,hx,g];decide,by decide⟩
   |k+2=>simp[j4]at hk
 |5=>
   match k with
   | 0 => obtain rfl : V5 = x := by simpa [j4] using hk
          exact To
   |k+1=>simp[j4]at hk
 |n+6=>simp[j4]at hk
def Zp7(f:Nat)(m:bH 151 cW .unary f):bH 139 (Eg 6) (.bin 6) (f+1):=by
 intro w rb B d ts r u hp;have hw:Z2 f .unary d ts=some r:=hp;have g:=lh (m w rb B d ts r u hw);clear u hp hw m;unfold cW at g;unfold Eg;go_enter func139,ntmps139
 go_wp2;go_step3
 go_wp2_with fail
 refine g.o.mono ?_;rcases r with⟨c,p⟩|⟨t,ts'⟩;·exact TC
 .rintro e w2⟨a,rfl,y,F,hF⟩;have I:=lh y;have J:=lh F;have O:=lh hF;clear y F hF g;go_wp2;try rw[Exit.noGoto_ret]
  go_ret;exact⟨a,rfl,I.o,J.o,O.o⟩
def Zdo{P:Program}{a:Act}{w:kV}{Q:Exit->Act->kV->Prop}{c g:Code}(l:Nat)(J:Act->kV->Prop)(μ:Act->kV->Nat)(hf:findLabel c l=some (Code.skip.seq g))
 (first:(∀a w,J a w->g.wp P (Exit.jump l J Q) a w)->c.wp P (Exit.jump l J Q) a w)
 (m:∀a w,J a w->g.wp P (Exit.jump l (λa' w'=>J a' w'/\μ a' w'<μ a w) Q) a w):(Code.scope c).wp P Q a w:=
 wp_scope_jumps l J μ hf (first λa w h=>Code.wp_mono (λe a' w' hq=>by cases e<;>first|exact hq|exact⟨hq.1,hq.2.1⟩) (m a w h)) λa w h=>wp_seq (wp_skip (m a w h))
def Abx(f lv d:Nat)(w:kV)(rb B:Nat)(r:Except (Int×Nat) (Tree×List Tok))(n:Nat)(a:ATree)(w':kV):Prop:=
 ∃(g:Nat) (us:List Tok) (t:Tree),g<=f/\Z2 g (.binLoop lv t) d us=some r/\Got w B w' a t/\Pre w' rb B d us/\RFr w w' rb/\us.length<=n
def Zqz(f lv:Nat)(dM:lv<6)(hB:∀g,g<=f->bH 139 (Eg (lv+1)) (.bin (lv+1)) g):bH 139 (Eg lv) (.bin lv) (f+1):=by
 intro w rb B d ts r hP hp;have hw:Zq (Z2 f (.bin (lv+1)) d ts) (λx ts=>Z2 f (.binLoop lv x) d ts)=some r:=by rw[<-hp,Z2,Y3 Px]
 obtain⟨Z,HB,H1⟩:=ds hP hB hw;have l6:((lv:Int)==6)=false:=PB
 have l0:0<=(lv:Int):=Px
 have l1:(lv:Int)<6:=Px
 have F:((lv+1:Nat):Int)=(lv:Int)+1:=Px
 clear hP hp hw hB;unfold Eg;go_enter func139,ntmps139
 go_wp2;refine Zdo 0 (λa' w'=>∃(a:ATree) (u2 u3 u6 u7 u8 u9 Iz IA IB IC ID IE IF IG u18 II IJ IK IL IM u24 u25 IN IO IP IQ IR IS IT IU IV IW IX IY IZ:Value),a'={tmps:=#[vP rb,vI lv,u2,u3,.pointer none,vP a.b,u6,u7,u8,u9,Iz,IA,IB,IC,ID,IE,IF,IG,u18,II,IJ,IK,IL,IM,u24,u25,IN,IO,IP,IQ,IR,IS,IT,IU,IV,IW,IX,IY,IZ],defers:=[]}/\Abx f lv d w rb B r ts.length a w') (λ_ w'=>leftOf w' rb) rfl (λvj=>?_) ?_
 .have vj:=lh vj;rcases Zf H1.o with⟨⟨c,p⟩,u,rfl⟩|⟨t,us,u,h2⟩
  .have m:=(HB.o f (Y0 _)) w rb B d _ _ Z.o u;unfold Eg at m;rw[F]at m;have m:=lh m;clear u F;go_wp2_with fail
   refine m.o.mono ?_;exact TC
  .have m:=(HB.o f (Y0 _)) w rb B d _ _ Z.o u;unfold Eg at m;rw[F]at m;have m:=lh m;have hl:=TL u;have H2:=lh h2;clear u h2 F;go_wp2_with fail
   refine m.o.mono ?_;rintro e w2⟨a,rfl,X,am,ap⟩;have hJ:Abx f lv d w rb B r ts.length a w2:=⟨f,us,t,Y0 _,H2.o,X,Z.o.next am ap hl,ap,hl⟩
   have HJ:=lh hJ;clear X am ap hl hJ;go_wp2_with fail
   go_step3
   rename_i Q1 K1 L0;refine L0 _ _ (vj.o _ _ ?_);exact⟨a,_,_,_,_,_,_,_,_,_,_,_,_,_,_,_,_,_,_,_,_,_,_,_,_,_,_,_,_,_,_,_,_,_,_,_,rfl,HJ.o⟩
 .rintro a' w1⟨a,u2,u3,u6,u7,u8,u9,Iz,IA,IB,IC,ID,IE,IF,IG,u18,II,IJ,IK,IL,IM,u24,u25,IN,IO,IP,IQ,IR,IS,IT,IU,IV,IW,IX,IY,IZ,rfl,g,us,t,hg,hq,X,Co,hF,hl⟩;have G1:=lh X;have U:=lh Co;have F1:=lh hF;have RL:=lh Co.rd.left;have HL:=lh hl;have HQ:=lh hq;obtain⟨tb,off,cap,hR⟩:=Co.rd;obtain⟨sb,so,sc,cV,bV,fZ,gN,iD⟩:=hR.lev lv dM;have Eu:=lh iD;obtain⟨n,hn⟩:=zX ((j4 lv).length)
  have n2:n<=2:=by rw[hn];match lv,dM with|0,_=>decide|1,_=>decide|2,_=>decide|3,_=>decide|4,_=>decide|5,_=>decide
  rw[<-hn]at fZ gN;have HN:=lh hn;have aZ:sb<w1.heap.size:=Nat.lt_trans bV hR.rlt;obtain⟨ab,bN⟩:=zX a.b
  rw[<-bN];have sw:=lh bN;clear X Co hF hl hR iD hn hq bN F;go_wp2_with fail
  go_loopw [5,20] (λv5 i wr=>v5=(vP ab)/\∃k:Nat,k<=n/\i=(vI k)/\Hid (∀(j:Nat) (y:kB),j<k->(j4 lv)[j]?=some y->ak y us=false)/\Hid (kW w1 wr)) (λ_ i _=>n-(intOf i).toNat)
  case atStart=>exact⟨rfl,0,Yh _,rfl,lh (λj y hj=>by omega),lh (Y2 _ _)⟩
  case round=>
   obtain⟨rfl,k,hk,rfl,NO,I⟩:=hrel;by_cases bX:k<n
   .obtain⟨x,hx⟩:∃x,(j4 lv)[k]? =some x:=⟨_,Y6 PU⟩
    have cx:=(I.o.cell (p:=⟨sb,so+k,none⟩) aZ).trans (Eu.o k x hx);have HX:=lh hx;have R2:=U.o.rd.below I.o;clear hx;by_cases hs:ak x us=true
    .have ay:=Zkh HX.o hs (λj y hj hy=>NO.o j y hj hy);have HT:=lh (xH wr rb us d x R2 hs);have HS:=lh hs;have LT:=lh ay;have fN:=Zm hs;have kt:=lh fN;clear hs R2 ay fN;cases g with
     |zero=>cases HQ.o
     |succ g=>
     have hq:Zq (Z2 g (.bin (lv+1)) d us.tail) (λy ts'=>Z2 g (.binLoop lv (.mk (Dc lv us) ByteArray.empty 0 [t,y])) d ts')=some r:=by
      have hq:=HQ.o;rw[Z2,Y3 (by rw[LT.o.1];exact LT.o.2)]at hq;exact hq
     rw[LT.o.1]at hq;have ch:=lh hq;clear hq;go_wp2_with fail
     refine Ta ?_;intro w2 am ap;obtain⟨P2,ry,Ev⟩:=ds ((U.o.below I.o).tail am ap) ((RFr.below (rb:=rb) I.o).trans ap) (Zun w2 x LT.o.2);obtain⟨Y,xK⟩:=zX (WI x)
     rw[<-xK]at Ev;have Ew:=lh xK;clear am ap HT xK;go_wp2_with fail
     refine Ev.o.mono ?_;rintro e w3⟨rfl,O⟩;have P3:=lh (P2.o.below O);have Cp:=lh (ry.o.trans (RFr.below (rb:=rb) O));have F:((lv+1:Nat):Int)=(lv:Int)+1:=Px
     clear O Ev;rcases Zf ch.o with⟨⟨c,p⟩,u,rfl⟩|⟨y,vs,u,h4⟩
     .have m:=(HB.o g Px) w3 rb B d _ _ P3.o u;unfold Eg at m;rw[F]at m;have m:=lh m;clear u F;go_wp2_with fail
      refine m.o.mono ?_;rintro e J⟨⟨b,rfl,h1,h2⟩,hF⟩;exact⟨rfl,mc.pre (F1.o.trans Cp.o) (r:=.error (c,p)) ⟨⟨b,rfl,h1,h2⟩,hF⟩⟩
     .have m:=(HB.o g Px) w3 rb B d _ _ P3.o u;unfold Eg at m;rw[F]at m;have m:=lh m;have nD:=TL u;have H4:=lh h4;clear u F h4;go_wp2_with fail
      refine m.o.mono ?_;rintro e J⟨c,rfl,hC,eK,be⟩;have vm:=G1.o.rfr U.o.lt Cp.o;have I0:=vm.rfr U.o.lt be;have F4:=(F1.o.trans Cp.o).trans be;have an:=Got.two (k:=Y) (t:=⟨#[]⟩) Z.o.le F4 I0 (wA:=w3) (λx hx=>(vm.new x hx).2) (F1.o.trans Cp.o).size hC;have ah:kW J (J.alloc (.cells #[vP ab,vP c.b] 22)):=(Y2 _ _).alloc (Y0 _) _
      have aA:kW J ((J.alloc (.cells #[vP ab,vP c.b] 22)).alloc (.cells #[vI Y,.string ⟨#[]⟩,vI 0,.slice (some ⟨J.heap.size,0,none⟩) 2 2] 41)):=ah.alloc PE _;obtain⟨F6,P6,ct,zo⟩:=en (F4.trans (RFr.below (rb:=rb) aA)) (((P3.o.next eK be nD).below aA)) an nD;clear hC eK be I0 vm F4 m ah aA an nD;go_wp2_with fail
      refine(Zw _ rb Y ⟨#[]⟩ _ 2 2).mono ?_;rintro e w7⟨rfl,rfl⟩;go_wp2;go_step3
      refine⟨rfl,⟨.mk (J.heap.size+1) (.slice (some ⟨J.heap.size,0,none⟩) 2 2) Y ⟨#[]⟩ 0 [a,c],_,_,_,_,_,_,_,_,_,_,_,_,_,_,_,_,_,_,_,_,_,_,_,_,_,_,_,_,_,_,_,_,_,_,_,rfl,g,vs,.mk Y ByteArray.empty 0 [t,y],by omega,?_,?_,P6.o,F6.o,?_⟩,?_⟩;·rw[Ew.o];exact H4.o
      .rw[sw.o];exact ct.o
      .have:=zo.o;have:=HL.o;have:=Zv us;omega
      .rw[P6.o.rd.left,RL.o];have:=zo.o;have:=kt.o;omega
    .have dK:ak x us=false:=by simpa using hs
     have HT:=lh (zi wr rb us d x R2 dK);have HS:=lh dK;clear hs dK R2;go_wp2_with fail
     refine HT.o.mono ?_;rintro e w2⟨rfl,ar⟩;have B2:=lh ar;clear ar;go_wp2;go_roundw
     case rel=>exact⟨rfl,k+1,by omega,by go_num,lh (λj y hj hy=>by
      by_cases e:j=k;·exact Zxc
      .exact NO.o j y Px hy),lh (I.o.trans (B2.o.mono I.o.size))⟩
     case measure=>simp[intOf];omega
   .have co:k=n:=by omega
    have L1:Hid (Dc lv us=0):=lh (Zlc λi y hi=>NO.o i y (by rw[co,HN.o];exact(List.getElem?_eq_some_iff.1 hi).1) hi);clear co;go_wp2_with fail
    simp only[Exit.jump];go_ret;cases g with
    |zero=>cases HQ.o
    |succ g=>
      have hq:=HQ.o;rw[Z2,Y5 L1.o]at hq;obtain rfl:=Yc hq;rw[sw.o];exact⟨a,rfl,G1.o.rfr U.o.lt (RFr.below I.o),U.o.rd.below I.o,F1.o.trans (RFr.below I.o)⟩
section
variable {P:Program}{ai:Array Oper}{md:Region.Mode}
def Zh9(P:Program)(ai:Array Oper)(K:Act->Prop):List Oper->Act->Prop
 | [],a=>K a
 |o::r,a=>∃v,YieldsIf P ai (λ_=>True) o v a/\Zh9 P ai K r (a.put o.dst v)
def Zkk{K:Act->Prop}{o:Oper}{r:List Oper}{a:Act}(v:Value)
 (hw:Region.wanted o (yielded ai a.tmps)=true)(g:∀w',True->(execOp a.eval o).run P w'=.ok (.value v) w')(h:Zh9 P ai K r (a.put o.dst v)):Zh9 P ai K (o::r) a:=
 ⟨v,.inl ⟨hw,g⟩,h⟩
def Zpl(md:Region.Mode)(ai:Array Oper):List Nat->Array Bool->Bool
 | [],_=>true
 |i::r,g=>(Region.ready md ai g).contains i&&Region.free md ai g i&&Zpl md ai r (g.setIfInBounds i true)
def Acl(md:Region.Mode)(ai:Array Oper)(pre L g:List Nat):Bool:=
 Region.noSelect ai&&SS md ai g&&Zhk md ai g (((List.range ai.size).map λj=>!g.contains j).toArray)&&Zpl md ai pre (uq g (Array.replicate ai.size false))&&
  decide (pre.length+L.length+g.length=ai.size)&&(pre.all λi=>decide (i<ai.size))&&((List.range ai.size).all λj=>pre.contains j||L.contains j||g.contains j)
def We{m:Array Bool}{i j:Nat}(h:i<m.size):(m.setIfInBounds i true).getD j false=if i=j then true else m.getD j false:=by
 by_cases e:i=j;·subst e;simp[h]
 .rw[getD_set_ne false e,Y3 e]
def Zno {Q:Exit→Act→kV→Prop} {L:List Nat} (Inv:Array Bool→Act→kV→Prop) (U:Zp5 md ai=true)
 (X:∀g i a w,g.size=ai.size->i∈L->i<ai.size->g.getD i false=false->(∀j,waits md ai i j=true->g.getD j false=true)->Inv g a w->wpOp P ai Q i (λa' w'=>Inv (g.setIfInBounds i true) a' w') a w)
 (J:∀g a w,(∀j,j<ai.size->g.getD j false=true)->Inv g a w->Q .normal a w) :
 ∀(k:Nat) (g:Array Bool) (a:Act) (w:kV),g.size=ai.size->(∀j,j<ai.size->g.getD j false=true\/j∈L)->(L.filter λj=>!g.getD j true).length<=k->Inv g a w->wpAnyH P md ai Q (λ_=>True) k g a w:=by
 have done:∀g:Array Bool,g.size=ai.size->Region.ready md ai g=[]->∀j,j<ai.size->g.getD j false=true:=by
  intro g hs hr j m;cases h:g.getD j false with
  |true=>rfl
  |false=>exact absurd hr (Z8u U hs j m h)
 intro k;induction k with
 |zero=>
   intro g a w hs u hk hI;have hr:Region.ready md ai g=[]:=by
    refine List.eq_nil_iff_forall_not_mem.2 λi hi=>?_;obtain⟨p,o,ho,_⟩:=mem_ready.1 hi;have y:i<ai.size:=(Y1.1 ho).1;have h1:i∈L:=(u i y).resolve_left (by rw[<-Zdm Px,p];simp);have:i∈L.filter λj=>!g.getD j true:=List.mem_filter.2 ⟨h1,by rw[p];rfl⟩;have:=List.length_pos_of_mem this;omega
   exact⟨hr,J g a w (done g hs hr) hI⟩
 |succ k Y=>
   intro g a w hs u hk hI;refine⟨λhr=>J g a w (done g hs hr) hI,λi hi=>?_⟩;obtain⟨p,o,ho,Z⟩:=mem_ready.1 hi;have y:i<ai.size:=(Y1.1 ho).1;have O:g.getD i false=false:=by rw[<-Zdm Px];exact p
   have h1:i∈L:=(u i y).resolve_left (by rw[O];simp);refine wpOp_mono (λa' w' h=>⟨trivial,Y _ a' w' (by simpa using hs) (λj m=>?_) ?_ h⟩) (X g i a w hs h1 y O (λj m=>Z8w m hi) hI)
   .rw[We Px];by_cases e:i=j;·rw[Y5 e];exact .inl rfl
    .rw[Y3 e];exact u j m
   .have ay:(L.filter λj=>!(g.setIfInBounds i true).getD j true).length<(L.filter λj=>!g.getD j true).length:=by
     have sub:∀l:List Nat,(l.filter λj=>!(g.setIfInBounds i true).getD j true).length<=(l.filter λj=>!g.getD j true).length/\(i∈l->(l.filter λj=>!(g.setIfInBounds i true).getD j true).length<(l.filter λj=>!g.getD j true).length):=by
      intro l;induction l with
      |nil=>exact⟨Y0 _,λh=>by cases h⟩
      |cons x l F=>
        by_cases e:i=x
        .subst e;have I:(g.setIfInBounds i true).getD i true=true:=by simp[show i<g.size by omega]
         simp only[List.filter_cons,I,p,Bool.not_true,Bool.not_false,if_true,Bool.false_eq_true,if_false,List.length_cons];exact⟨by omega,λ_=>by omega⟩
        .have I:(g.setIfInBounds i true).getD x true=g.getD x true:=getD_set_ne true e;simp only[List.filter_cons,I];cases g.getD x true
         .simp only[Bool.not_false,if_true,List.length_cons];exact⟨by omega,λh=>by have:=F.2 QA;omega⟩
         .simp only[Bool.not_true,Bool.false_eq_true,if_false];exact⟨F.1,λh=>F.2 QA⟩
     exact(sub L).2 h1
    omega
theorem Zfe{Q:Exit->Act->kV->Prop}(m:Region.noSelect ai=true)(p:∀c a d v w,Q (.panic c) (Act.put a d v) w->Q (.panic c) a w){w:kV}{fuel:Nat} :
 ∀(l:List Nat) (g:Array Bool) (a:Act),Zpl md ai l g=true->(∀i∈l,i<ai.size)->Zh9 P ai (λa'=>wpAnyH P md ai Q (λ_=>True) fuel (uq l g) a' w) (l.filterMap (ai[·]?)) a->wpAnyH P md ai Q (λ_=>True) (fuel+l.length) g a w
 | [],g,a,_,_,h=>h
 |i::l,g,a,u,y,h=>by
   simp only[Zpl,Bool.and_eq_true]at u;obtain⟨⟨hr,hf⟩,F⟩:=u;have I:=y i (Yv ..);have ho:ai[i]?=some ai[i]:=Array.getElem?_eq_getElem I;rw[List.filterMap_cons,ho]at h;obtain⟨v,J,O⟩:=h;have e:fuel+(i::l).length=(fuel+l.length)+1:=PB
   rw[e];exact wpAnyH_take ho m hf hr (λc a w=>p c a _ _ w) J trivial (Zfe m p l _ _ F (λj U=>y j (List.mem_cons_of_mem _ U)) O)
def Zdh{Q:Exit->Act->kV->Prop}{id:Nat}{l:List Oper}{a:Act}{w:kV}(pre L ph:List Nat)(hm:P.follows .mixedOrders=true)
 (F:Acl .any l.toArray pre L ph=true)(I:∀c a d v w,Q (.panic c) (Act.put a d v) w->Q (.panic c) a w)(Inv:Array Bool->Act->kV->Prop)
 (J:Zh9 P l.toArray (λa'=>Inv (uq pre (uq ph (Array.replicate l.toArray.size false))) a' w.drew) (pre.filterMap (l.toArray[·]?)) a)
 (O:∀g i a w,g.size=l.toArray.size->i∈L->i<l.toArray.size->g.getD i false=false->(∀j,waits .any l.toArray i j=true->g.getD j false=true)->Inv g a w->wpOp P l.toArray (Ends (wpList P l.toArray Q (ph.filterMap (l.toArray[·]?))) Q) i (λa' w'=>Inv (g.setIfInBounds i true) a' w') a w)
 (U:∀g a w,(∀j,j<l.toArray.size->g.getD j false=true)->Inv g a w->wpList P l.toArray Q (ph.filterMap (l.toArray[·]?)) a w):(Code.region id l.toArray true).wp P Q a w:=by
 simp only[Acl,Bool.and_eq_true,decide_eq_true_eq]at F;obtain⟨⟨⟨⟨⟨⟨X,r8⟩,rY⟩,Y⟩,aE⟩,Z⟩,EA⟩:=F;refine wp_region_any hm ?_;have jT:Zp5 .any l.toArray=true:=by
  cases ph with
  |nil=>simp[SS]at r8
  |cons t r=>simp only[SS,Bool.and_eq_true]at r8;exact r8.1.1.1
 have jq:∀t∈ph,t<l.toArray.size:=by
  exact XA
 have aZ:(uq pre (uq ph (Array.replicate l.toArray.size false))).size=l.toArray.size:=by rw[Z3m,Z3m];simp
 have G:∀a w,Inv (uq pre (uq ph (Array.replicate l.toArray.size false))) a w->wpAnyH P .any l.toArray (Ends (wpList P l.toArray Q (ph.filterMap (l.toArray[·]?))) Q) (λ_=>True) L.length (uq pre (uq ph (Array.replicate l.toArray.size false))) a w:=λa w h=>
  Zno (P:=P) (Q:=Ends (wpList P l.toArray Q (ph.filterMap (l.toArray[·]?))) Q) Inv jT O U L.length _ a w aZ (λj y=>by
   have h1:=List.all_eq_true.1 EA j (List.mem_range.2 y);simp only[Bool.or_eq_true,List.contains_eq_mem,decide_eq_true_eq]at h1;rcases h1 with(h1|h1)|h1;·exact .inl (Z4j h1 (by rw[Z3m];simpa using y))
   .exact .inr h1
   .exact .inl (Z3g (Z4j h1 (by simpa using y)))) (List.length_filter_le _ _) h
 have mono:∀(os:List Oper) (a:Act),Zh9 P l.toArray (λa'=>Inv (uq pre (uq ph (Array.replicate l.toArray.size false))) a' w.drew) os a->Zh9 P l.toArray (λa'=>wpAnyH P .any l.toArray (Ends (wpList P l.toArray Q (ph.filterMap (l.toArray[·]?))) Q) (λ_=>True) L.length (uq pre (uq ph (Array.replicate l.toArray.size false))) a' w.drew) os a:=by
  intro os;induction os with
  |nil=>intro a h;exact G a w.drew h
  |cons o os ih=>intro a h;obtain⟨v,hy,h⟩:=h;exact⟨v,hy,ih _ h⟩
 have H:=Zfe (P:=P) (md:=.any) (Q:=Ends (wpList P l.toArray Q (ph.filterMap (l.toArray[·]?))) Q) X I pre _ a Y (λi hi=>by simpa using List.all_eq_true.1 Z i hi) (mono _ a J);have p:=Za4 (Q:=Q) r8 (λm hs rX=>?_) (L.length+pre.length) (Array.replicate l.toArray.size false) a w.drew PE ?_ ?_ (wpAny_of_held _ _ _ _ H);·rw[show L.length+pre.length+ph.length=l.toArray.size by omega]at p;exact p
 .exact AbX
 .intro j o _ hl;rw[Z67]at hl;cases hl
 .intro t _;exact Z67 _ _
end
def S8:List kB:=[SY,TF,T6]
def Zvn{ts:List Tok}(h:∀(i:Nat) (x:kB),i<3->S8[i]?=some x->ak x ts=false):Oh ts=0:=by
 have g:=h 0 SY Px rfl;have h1:=h 1 TF Px rfl;have m:=h 2 T6 Px rfl;simp[Oh,g,h1,m]
def Zuv {ts:List Tok} {k:Nat} {x:kB} (hk:S8[k]?=some x) (hx:ak x ts=true) (h:∀ (i:Nat) (y:kB),i < k→S8[i]?=some y→ak y ts=false):Oh ts=32 + k∧x.size≤maxLen ∧
 (UQ [(SY,32),(TF,33),(T6,34)]).atKey (.string x.data.toList) (.lit (.int .i64 0))=.lit (.int .i64 (32+k)):=by
 match k with
 | 0 => obtain rfl : SY = x := by simpa [S8] using hk
        exact⟨by simp[Oh,hx],by decide,by kernel_rfl⟩
 | 1 => obtain rfl : TF = x := by simpa [S8] using hk
        have g:=h 0 SY Px rfl;exact⟨by simp[Oh,hx,g],by decide,by kernel_rfl⟩
 | 2 => obtain rfl : T6 = x := by simpa [S8] using hk
        have g:=h 0 SY Px rfl;have h1:=h 1 TF Px rfl;exact⟨by simp[Oh,hx,g,h1],by decide,by kernel_rfl⟩
 |k+3=>simp[S8]at hk
def Z8t{P:Program}{ai:Array Oper}{Q:Exit->Act->kV->Prop}{i:Nat}{o:Oper}{K:Act->kV->Prop}{a:Act}{w:kV}(hi:ai[i]?=some o)
 (h:if Region.wanted o (yielded ai a.tmps)=true then o.wp P a w K Q else K (a.put o.dst undef) w):wpOp P ai Q i K a w:=by
 unfold wpOp;simp only[hi];split;·rename_i hw;rw[Y5 hw]at h;exact .inl h
 .rename_i hw;rw[Y3 hw]at h;exact h
def Z7t{H:Type}{P:Program}{w:kV}{o:Oper}{a:Act}{K:Act->kV->Prop}{Q:Exit->Act->kV->Prop}
 (m x v:Operand)(t:TypeId)(u:o.op=Op.insert t m x v)
 (k e:TypeId)(y:Keyed P k)(ht:P.underlying t=some (.map k e))(R:Value->Option (DataW H×List MemPlace))(b n:Nat)(D:DataW H)
 (hm:a.eval m=.map (some b))(F:w.ownsMap P k R b n D)(hn:n<maxLen)(g val:Value)(p:Lit)(hx:a.eval x=g)(G:a.eval v=val)(I:keyOf P k g=some p)
 (d:DataW H)(ps:List MemPlace)(J:R val=some (d,ps))
 (O:∀w',w'.ownsMap P k R b (n+1) (D.put p d)->w.grownBy w' (some b)->K (a.put o.dst undef) w'):o.wp P a w K Q:=by
 obtain⟨w',U,X,Y⟩:=F.update y ht hn I J;unfold Oper.wp;simp[execOp,u,hm,hx,G,U,Result.andThen];exact O w' X Y
def Zar{H:Type}{P:Program}{w:kV}{o:Oper}{a:Act}{K:Act->kV->Prop}{Q:Exit->Act->kV->Prop}
 (m x:Operand)(t:TypeId)(u:o.op=Op.lookup t m x false)
 (k e:TypeId)(q:IntKind)(y:Keyed P k)(ht:P.underlying t=some (.map k e))(he:P.underlying e=some (.int q))(F:(zeroValue e).run P w=.ok (.int q 0) w)(b n:Nat)(D:DataW H)
 (hm:a.eval m=.map (some b))(G:w.ownsMap P k (plainElem P e) b n D)(g:Value)(p:Lit)(hx:a.eval x=g)(I:keyOf P k g=some p)
 (J:∀c:Int,D.atKey p (.lit (.int q 0))=.lit (.int q c)->K (a.put o.dst (.int q c)) w):o.wp P a w K Q:=by
 obtain⟨c,O,U,X⟩:=G.lookup_int y ht he F I;unfold Oper.wp;simp[execOp,u,hm,hx,O,Result.andThen];exact J c U
def Tn(b2 b3 b4:Bool):DataW Unit:=UQ ((if b2 then[(SY,32)]else[])++(if b3 then[(TF,33)]else[])++(if b4 then[(T6,34)]else[]))
theorem Ab9(b3 b4:Bool):(Tn false b3 b4).put (.string [33]) (.lit (.int .i64 32))=Tn true b3 b4:=by cases b3<;>cases b4<;>kernel_rfl
theorem AaI(b2 b4:Bool):(Tn b2 false b4).put (.string [116,121,112,101,111,102]) (.lit (.int .i64 33))=Tn b2 true b4:=by cases b2<;>cases b4<;>kernel_rfl
theorem AbJ(b2 b3:Bool):(Tn b2 b3 false).put (.string [100,101,108,101,116,101]) (.lit (.int .i64 34))=Tn b2 b3 true:=by cases b2<;>cases b3<;>kernel_rfl
def AcX(w0:kV)(k:Nat)(b1 b2 b3 b4 b5 b7:Bool)(fG gd gf:Value)(w':kV)(mb:Nat):Prop:=
 (b1 = true → fG = .map (some mb) ∧ w0.heap.size ≤ mb ∧ mb < w'.heap.size ∧ ∃ n, n ≤ b2.toNat + b3.toNat + b4.toNat ∧ w'.ownsMap (H := Unit) Tryz.prog 9 (plainElem Tryz.prog 3) mb n (Tn b2 b3 b4)) ∧ (b5 = true → gd = .map (some mb) ∧ b1 = true ∧ b2 = true ∧ b3 = true ∧ b4 = true) ∧ (b7 = true → gf = (vI (32 + (k : Int)))) ∧
  (b1=false->b2=false/\b3=false/\b4=false)
def ZH(w0:kV)(rb B d:Nat)(us:List Tok)(r:Except (Int×Nat) (Tree×List Tok))(b1 jL gh:Bool)(eX fp:Value)(w':kV)(mb:Nat):Prop:=
 (jL = false → Pre w' rb B d us ∧ RFr w0 w' rb ∧ gh = false) ∧ (jL = true → ∃ (a : ATree) (t : Tree) (ts' : List Tok), r = .ok (t, ts') ∧ eX = (vP a.b) ∧ Got w0 B w' a t ∧ Rd w' rb ts' d ∧ RFr w0 w' rb ∧ (b1 = true → mb ∉ a.blocks) ∧
  (gh=true->∃g,fp=.slice (some ⟨g,0,none⟩) 1 1/\(b1=true->g≠mb)/\g∉a.blocks/\w0.heap.size<=g/\w'.heap[g]?=some (.cells #[a.ptr] 22 (0,0))))
def ga(w0:kV)(rb B d:Nat)(us:List Tok)(r:Except (Int×Nat) (Tree×List Tok))(k:Nat)(b1 b2 b3 b4 b5 b7 jL gh:Bool)(fG gd gf eX fp:Value)(w':kV):Prop:=
 ∃mb,AcX w0 k b1 b2 b3 b4 b5 b7 fG gd gf w' mb/\ZH w0 rb B d us r b1 jL gh eX fp w' mb/\rb<B/\B<=w0.heap.size/\w0.heap.size<=w'.heap.size
section
variable {w0 w' dL:kV}{rb B d k mb:Nat}{us:List Tok}{r:Except (Int×Nat) (Tree×List Tok)}{fG gd gf eX fp:Value}{b1 b2 b3 b4 b5 b7 jL gh:Bool}
theorem ZH.keep(h:ZH w0 rb B d us r b1 jL gh eX fp w' mb)(hr:rb<B)(hB:B<=w0.heap.size)(hs:w'.heap.size<=dL.heap.size)(ho:dL.os=w'.os)(ht:dL.tape=w'.tape)(J:dL.output=w'.output)(hb:∀x,x<w'.heap.size->x≠mb->dL.heap[x]?=w'.heap[x]?)
 {O:Bool}(hm:w0.heap.size<=mb)(hp:b1=true\/w'.heap.size<=mb):ZH w0 rb B d us r O jL gh eX fp dL mb:=by
 have p:∀{w0:kV},w0.heap.size<=mb->RFr w0 w' rb->RFr w0 dL rb:=λhm h=>⟨ho.trans h.os,ht.trans h.tape,J.trans h.output,Y4 h.size hs,λx hx hn=>(hb x (Y7 hx h.size) Px).trans (h.block x hx hn)⟩;refine⟨λhq=>?_,λhq=>?_⟩
 .obtain⟨h1,m,U⟩:=h.1 hq;have:=h1.rd.rlt;exact⟨⟨h1.rd.keep hs λx hx=>hb x Px Px,h1.deep,h1.lt,Y4 h1.le hs,h1.few⟩,p hm m,U⟩
 .obtain⟨a,t,ts',X,Y,G,R,F,hn,m⟩:=h.2 hq;have u:mb∉a.blocks:=by
   rcases hp with hp|hp;·exact hn hp
   .intro hx;have:=(G.new mb hx).2;omega
  have:=R.rlt;refine⟨a,t,ts',X,Y,⟨G.tree,G.at'.keepB λx hx=>hb x (G.new x hx).2 (λe=>u (e▸hx)),G.nodup,λx hx=>⟨(G.new x hx).1,Y7 (G.new x hx).2 hs⟩⟩,R.keep hs λx hx=>hb x Px Px,p hm F,λ_=>u,λZ=>?_⟩;obtain⟨g,e3,vq,EB,tG,y⟩:=m Z;have cV:g<w'.heap.size:=(Y1.1 y).1;have I:g≠mb:=by
   rcases hp with hp|hp;·exact vq hp
   .omega
  exact⟨g,e3,λ_=>I,EB,tG,(hb g cV I).trans y⟩
def ZH.any(h:ZH w0 rb B d us r b1 jL gh eX fp w' mb)(hp:b1=false)(m:Nat):ZH w0 rb B d us r b1 jL gh eX fp w' m:=by
 refine⟨h.1,λhq=>?_⟩;obtain⟨a,t,ts',p,u,G,R,F,hn,y⟩:=h.2 hq;refine⟨a,t,ts',p,u,G,R,F,λh=>(by rw[hp]at h;cases h),λI=>?_⟩;obtain⟨g,J,U,O⟩:=y I;exact⟨g,J,λh=>(by rw[hp]at h;cases h),O⟩
def ga.make(h:ga w0 rb B d us r k false b2 b3 b4 b5 b7 jL gh fG gd gf eX fp w'):ga w0 rb B d us r k true b2 b3 b4 b5 b7 jL gh (.map (some w'.heap.size)) gd gf eX fp (w'.alloc (.map #[] 0)):=by
 obtain⟨mb,hm,hc,hr,m,hs⟩:=h;obtain⟨rfl,rfl,rfl⟩:=hm.2.2.2 rfl;have g:kW w' (w'.alloc (.map #[] 0)):=(Y2 _ _).alloc (Y0 _) _;refine⟨w'.heap.size,⟨λ_=>⟨rfl,hs,by simp,0,by simp,World.ownsMap_made _ _ _ _⟩,λh=>(by have:=(hm.2.1 h).2.1;cases this),hm.2.2.1,(λh=>by cases h)⟩,(hc.any rfl w'.heap.size).keep hr m g.size g.os g.tape g.output (λx hx _=>g.block x hx) hs (.inr (Y0 _)),hr,m,Y4 hs g.size⟩
def ga.ins2(h:ga w0 rb B d us r k true false b3 b4 false b7 jL gh fG gd gf eX fp w'):∃mb n,fG=.map (some mb)/\n<4/\w'.ownsMap (H:=Unit) Tryz.prog 9 (plainElem Tryz.prog 3) mb n (Tn false b3 b4)/\
 ∀dL,dL.ownsMap (H:=Unit) Tryz.prog 9 (plainElem Tryz.prog 3) mb (n+1) ((Tn false b3 b4).put (.string [33]) (.lit (.int .i64 32)))->w'.grownBy dL (some mb)->ga w0 rb B d us r k true true b3 b4 false b7 jL gh fG gd gf eX fp dL:=by
 obtain⟨mb,hm,hc,hr,hB,hs⟩:=h;obtain⟨e,h1,h2,n,m,h5⟩:=hm.1 rfl;have g:n<4:=by have:=Bool.toNat_le b3;have:=Bool.toNat_le b4;have:(false).toNat=0:=rfl;omega
 refine⟨mb,n,e,g,h5,λdL ho hg=>?_⟩;rw[Ab9]at ho;exact Aaa
def ga.ins3(h:ga w0 rb B d us r k true b2 false b4 false b7 jL gh fG gd gf eX fp w'):∃mb n,fG=.map (some mb)/\n<4/\w'.ownsMap (H:=Unit) Tryz.prog 9 (plainElem Tryz.prog 3) mb n (Tn b2 false b4)/\
 ∀dL,dL.ownsMap (H:=Unit) Tryz.prog 9 (plainElem Tryz.prog 3) mb (n+1) ((Tn b2 false b4).put (.string [116,121,112,101,111,102]) (.lit (.int .i64 33)))->w'.grownBy dL (some mb)->ga w0 rb B d us r k true b2 true b4 false b7 jL gh fG gd gf eX fp dL:=by
 obtain⟨mb,hm,hc,hr,hB,hs⟩:=h;obtain⟨e,h1,h2,n,m,h5⟩:=hm.1 rfl;have g:n<4:=by have:=Bool.toNat_le b2;have:=Bool.toNat_le b4;have:(false).toNat=0:=rfl;omega
 refine⟨mb,n,e,g,h5,λdL ho hg=>?_⟩;rw[AaI]at ho;exact Aaa
def ga.ins4(h:ga w0 rb B d us r k true b2 b3 false false b7 jL gh fG gd gf eX fp w'):∃mb n,fG=.map (some mb)/\n<4/\w'.ownsMap (H:=Unit) Tryz.prog 9 (plainElem Tryz.prog 3) mb n (Tn b2 b3 false)/\
 ∀dL,dL.ownsMap (H:=Unit) Tryz.prog 9 (plainElem Tryz.prog 3) mb (n+1) ((Tn b2 b3 false).put (.string [100,101,108,101,116,101]) (.lit (.int .i64 34)))->w'.grownBy dL (some mb)->ga w0 rb B d us r k true b2 b3 true false b7 jL gh fG gd gf eX fp dL:=by
 obtain⟨mb,hm,hc,hr,hB,hs⟩:=h;obtain⟨e,h1,h2,n,m,h5⟩:=hm.1 rfl;have g:n<4:=by have:=Bool.toNat_le b2;have:=Bool.toNat_le b3;have:(false).toNat=0:=rfl;omega
 refine⟨mb,n,e,g,h5,λdL ho hg=>?_⟩;rw[AbJ]at ho;exact Aaa
def ga.move(h:ga w0 rb B d us r k true true true true false b7 jL gh fG gd gf eX fp w'):ga w0 rb B d us r k true true true true true b7 jL gh fG fG gf eX fp w':=by
 obtain⟨mb,hm,hc,hr,g,hs⟩:=h;exact⟨mb,⟨hm.1,λ_=>⟨(hm.1 rfl).1,rfl,rfl,rfl,rfl⟩,hm.2.2.1,hm.2.2.2⟩,hc,hr,g,hs⟩
def ga.look(h:ga w0 rb B d us r k b1 b2 b3 b4 true false jL gh fG gd gf eX fp w'):(∃mb n,gd=.map (some mb)/\w'.ownsMap (H:=Unit) Tryz.prog 9 (plainElem Tryz.prog 3) mb n (UQ [(SY,32),(TF,33),(T6,34)]))/\ga w0 rb B d us r k b1 b2 b3 b4 true true jL gh fG gd (vI (32+(k:Int))) eX fp w':=by
 obtain⟨mb,hm,hc,hr,g,hs⟩:=h;obtain⟨e,rfl,rfl,rfl,rfl⟩:=hm.2.1 rfl;obtain⟨m,h1,p,n,u,h5⟩:=hm.1 rfl;exact⟨⟨mb,n,e,h5⟩,mb,⟨hm.1,hm.2.1,λ_=>rfl,hm.2.2.2⟩,hc,hr,g,hs⟩
def ga.pre(h:ga w0 rb B d us r k b1 b2 b3 b4 b5 b7 false gh fG gd gf eX fp w'):Pre w' rb B d us/\RFr w0 w' rb:=by
 obtain⟨mb,hm,hc,hr,g,hs⟩:=h;exact⟨(hc.1 rfl).1,(hc.1 rfl).2.1⟩
def ga.call(h:ga w0 rb B d us r k b1 b2 b3 b4 b5 b7 false gh fG gd gf eX fp w'){a:ATree}{t:Tree}{ts':List Tok}(hr:r=.ok (t,ts'))(G:Got w' B dL a t)(R:Rd dL rb ts' d)(F:RFr w' dL rb) :
 ga w0 rb B d us r k b1 b2 b3 b4 b5 b7 true gh fG gd gf (vP a.b) fp dL:=by
 obtain⟨mb,hm,hc,p,u,hs⟩:=h;obtain⟨y,m,rfl⟩:=hc.1 rfl;refine⟨mb,⟨λhp=>?_,hm.2.1,hm.2.2.1,hm.2.2.2⟩,⟨(λh=>by cases h),λ_=>⟨a,t,ts',hr,rfl,G.pre m,R,m.trans F,λhp=>?_,(λh=>by cases h)⟩⟩,p,u,Y4 hs F.size⟩
 .obtain⟨e,h1,g,n,I,h5⟩:=hm.1 hp;have:=y.rd.rlt;have rf:dL.heap[mb]?=w'.heap[mb]?:=F.block mb g Px;refine⟨e,h1,Y7 g F.size,n,I,?_⟩;exact Zzm
 .obtain⟨e,h1,g,_⟩:=hm.1 hp;intro hx;have:=(G.new mb hx).1;omega
def ga.ptr(h:ga w0 rb B d us r k b1 b2 b3 b4 b5 b7 true gh fG gd gf eX fp w'):∃pb,eX=(vP pb):=by
 obtain⟨mb,hm,hc,m,p,hs⟩:=h;obtain⟨a,t,ts',u,g,_⟩:=hc.2 rfl;exact⟨_,g⟩
def ga.box(h:ga w0 rb B d us r k b1 b2 b3 b4 b5 b7 true false fG gd gf eX fp w'):ga w0 rb B d us r k b1 b2 b3 b4 b5 b7 true true fG gd gf eX (.slice (some ⟨w'.heap.size,0,none⟩) 1 1) (w'.alloc (.cells #[eX] 22)):=by
 obtain⟨mb,hm,hc,p,u,hs⟩:=h;have g:kW w' (w'.alloc (.cells #[eX] 22)):=(Y2 _ _).alloc (Y0 _) _;obtain⟨a,t,ts',y,rfl,G,R,F,hn,_⟩:=hc.2 rfl;refine⟨mb,⟨λhp=>?_,hm.2.1,hm.2.2.1,hm.2.2.2⟩,⟨(λh=>by cases h),λ_=>⟨a,t,ts',y,rfl,G.rfr p (RFr.below g),R.below g,F.trans (RFr.below g),hn,λ_=>⟨w'.heap.size,rfl,λhp=>?_,λhx=>?_,hs,Yq w' _⟩⟩⟩,p,u,Y4 hs g.size⟩
 .obtain⟨e,h1,m,n,I,h5⟩:=hm.1 hp;have rf:=g.block mb m;refine⟨e,h1,Y7 m g.size,n,I,?_⟩;exact Zzm
 .obtain⟨e,h1,m,_⟩:=hm.1 hp;omega
 .have:=(G.new _ hx).2;omega
def ga.fin(h:ga w0 rb B d us r k b1 b2 b3 b4 b5 true true true fG gd gf eX fp w'):∃(a:ATree) (t:Tree) (ts':List Tok) (g:Nat),r=.ok (t,ts')/\gf=(vI (32+(k:Int)))/\fp=.slice (some ⟨g,0,none⟩) 1 1/\RFr w0 w' rb/\Rd w' rb ts' d/\
 Got w0 B (w'.alloc (.cells #[vI (32+(k:Int)),.string ⟨#[]⟩,vI 0,.slice (some ⟨g,0,none⟩) 1 1] 41)) (.mk w'.heap.size (.slice (some ⟨g,0,none⟩) 1 1) (32+(k:Int)) ⟨#[]⟩ 0 [a]) (.mk (32+(k:Int)) ⟨#[]⟩ 0 [t]):=by
 obtain⟨mb,hm,hc,U,p,hs⟩:=h;obtain⟨a,t,ts',u,rfl,G,R,F,hn,y⟩:=hc.2 rfl;obtain⟨g,rfl,X,I,J,m⟩:=y rfl;have O:kW w' (w'.alloc (.cells #[vI (32+(k:Int)),.string ⟨#[]⟩,vI 0,.slice (some ⟨g,0,none⟩) 1 1] 41)):=(Y2 _ _).alloc (Y0 _) _;have Y:g<w'.heap.size:=(Y1.1 m).1;refine⟨a,t,ts',g,u,hm.2.2.1 rfl,rfl,F,R,⟨by simp[ATree.tree,f6,G.tree],?_,?_,?_⟩⟩
 .refine TreeAt.new (Y4 p hs) ⟨by simp,.inr ⟨g,1,#[a.ptr],rfl,by omega,m,by simp,by unfold maxLen;omega,by simp,by simp⟩⟩ λx hx=>?_;simp only[List.mem_singleton]at hx;subst hx;exact G.at'
 .simp only[ATree.blocks,Value.ownBlock,Option.toList,yn,List.append_nil,List.nodup_cons,List.cons_append,List.nil_append,List.mem_cons,not_or];exact⟨⟨by omega,λhx=>by have:=(G.new _ hx).2;omega⟩,I,G.nodup⟩
 .intro x hx;simp only[ATree.blocks,Value.ownBlock,Option.toList,yn,List.append_nil,List.cons_append,List.nil_append,List.mem_cons]at hx;have :=O.size;rcases hx with rfl|rfl|hx;·exact⟨hs,by simp⟩
  .exact⟨J,by omega⟩
  .have:=G.new x hx;omega
end
def Aco(w0:kV)(rb B d:Nat)(us:List Tok)(r:Except (Int×Nat) (Tree×List Tok))(k:Nat)(g:Value->Value->Value->Value->Value->Act)(m:Array Bool)(a':Act)(w':kV):Prop:=
 ∃fG gd gf eX fp,a'=g fG gd gf eX fp/\ga w0 rb B d us r k (m.getD 1 false) (m.getD 2 false) (m.getD 3 false) (m.getD 4 false) (m.getD 5 false) (m.getD 7 false) (m.getD 11 false) (m.getD 12 false) fG gd gf eX fp w'
def Zjt(f:Nat)(hU:bH 151 cW .unary f)(I3:bH 164 cW .postfix_ f):bH 151 cW .unary (f+1):=by
 intro w rb B d ts r hP hp;have hw:(if Oh ts=0 then Z2 f .postfix_ d ts else Zq (x6 d ts.tail (Z2 f .unary (d+1) ts.tail)) λx ts'=>ir (.mk (Oh ts) ByteArray.empty 0 [x]) ts')=some r:=hp;obtain⟨HP,HU,I4,H1⟩:=en hP hU I3 hw;obtain⟨X,Y⟩:=zX w.heap.size
 obtain⟨w1,dD⟩:=zX (w.alloc (.cells #[.string SY,.string TF,.string T6] 9))
 have aO:kW w w1:=Ql
 have EC:X<w1.heap.size:=by rw[dD,Y];simp
 have iD:∀(i:Nat) (x:kB),S8[i]?=some x->w1.cell? ⟨X,i,none⟩=some (.string x):=by
  intro i x hx;have hb:w1.heap[X]?=some (.cells #[.string SY,.string TF,.string T6] 9 (0,0)):=by rw[dD,Y];exact Yq w _
  match i,hx with
  | 0, hx => obtain rfl : SY = x := by simpa [S8] using hx
             simp[vC,World.cell?,hb]
  | 1, hx => obtain rfl : TF = x := by simpa [S8] using hx
             simp[vC,World.cell?,hb]
  | 2, hx => obtain rfl : T6 = x := by simpa [S8] using hx
             simp[vC,World.cell?,hb]
  |i+3,hx=>simp[S8]at hx
 have Eu:=lh iD;have B1:=lh aO;unfold SY TF T6 at dD;refine FG ?_;intro iO;have L3:=lh iO;clear hP hp hw hU I3 iD aO iO;unfold cW;go_enter func151,ntmps151
 go_wp2_with fail
 rw[<-dD,<-Y];have OK:=lh Y;have mB:=lh dD;clear dD Y;go_loopw [7] (λi wr=>∃k:Nat,k<=3/\i=(vI k)/\Hid (∀(j:Nat) (y:kB),j<k->S8[j]?=some y->ak y ts=false)/\Hid (kW w1 wr)) (λi _=>3-(intOf i).toNat)
 case atStart=>exact⟨0,by omega,rfl,lh (λj y Z=>by omega),lh (Y2 _ _)⟩
 case round=>
  obtain⟨k,hk,rfl,NO,BW⟩:=hrel;have I:=(HP.o.below B1.o).below BW.o;have F2:=lh ((RFr.below (rb:=rb) B1.o).trans (RFr.below BW.o));by_cases bX:k<3
  .obtain⟨x,hx⟩:∃x,S8[k]? =some x:=⟨_,Y6 bX⟩
   have cx:=(BW.o.cell (p:=⟨X,k,none⟩) EC).trans (Eu.o k x hx);have HX:=lh hx;clear hx;by_cases hs:ak x ts=true
   .have jG:=Zuv HX.o hs (λj y Z hy=>NO.o j y Z hy);have HT:=lh (xH wr rb ts d x I.rd hs);have I4:=Zm hs;have I:=lh I;have US:=lh jG;have ci:Zq (x6 d ts.tail (Z2 f .unary (d+1) ts.tail)) (λx ts'=>ir (.mk (Oh ts) ByteArray.empty 0 [x]) ts')=some r:=by
     have h:=H1.o;rw[Y3 (by rw[jG.1];omega)]at h;exact h
    rw[jG.1]at ci;have H2:=lh ci;clear hs jG ci;go_wp2_with fail
    refine Ta ?_;intro w2 am ap;have P3:=I.o.tail am ap;have F3:=F2.o.trans ap;have P3:=lh P3;have F3:=lh F3;clear am ap HT;go_wp2_with fail
    obtain⟨J,pg,HE,HK⟩:∃J,x6 d ts.tail (Z2 f .unary (d+1) ts.tail)=some J/\Hid (∀e,J=.error e->r=.error e)/\Hid (∀t vs,J=.ok (t,vs)->r=.ok (.mk (32+(k:Int)) ByteArray.empty 0 [t],vs)):=by
     rcases Zf H2.o with⟨e,he,rfl⟩|⟨t,vs,he,h2⟩;·exact⟨_,he,lh (λe' h=>by cases h;rfl),lh (λt vs h=>by cases h)⟩
     .exact⟨_,he,lh (λe' h=>by cases h),lh (λt' pW h=>by cases h;exact(Yc h2).symm)⟩
    have L4:=lh pg;have kY:=@run_makeMap Tryz.prog;clear pg
    refine Zdh [0,6,8,9,10] [1,2,3,4,5,7,11,12] [13,14] Pz Pz (λ_ _ d _ _ h=>by cases d<;>exact h)
     (Aco w2 rb B d ts.tail J k λfG gd gf eX fp=>{tmps:=#[vP rb,undef,u2,undef,.string x,.slice (some ⟨X,0,none⟩) 3 3,vI 3,vI k,.bool true,.pointer (some ⟨X,k,none⟩),.string x,vP rb,.string x,.bool true,vP rb,fG,gd,.string x,gf,vP rb,vP rb,.func (.func 151) #[vP rb] #[],eX,fp,u24,u25,undef,undef],defers:=[]}) ?_ ?_ ?_
    .have ST:Hid (∀fG gd gf eX fp,ga w2 rb B d ts.tail J k false false false false false false false false fG gd gf eX fp w2.drew):=lh λ_ _ _ _ _=>
      ⟨0,⟨(λh=>by cases h),(λh=>by cases h),(λh=>by cases h),λ_=>⟨rfl,rfl,rfl⟩⟩,⟨λ_=>⟨P3.o.below (Y2 _ _).drew,(RFr.refl w2 rb).drew,rfl⟩,(λh=>by cases h)⟩,P3.o.lt,P3.o.le,Y0 _⟩
     simp only[List.filterMap_cons,List.filterMap_nil,List.getElem?_toArray,List.getElem?_cons_zero,List.getElem?_cons_succ];have iO:=L3.o;iterate 5 (refine Zkk ?_ PM (λw' _=>?_) ?_;rotate_left;(go_simp;first|done|with_reducible rfl);simp only[Act.put,zA,zB,zC])
     exact⟨_,_,_,_,_,rfl,ST.o _ _ _ _ _⟩
    .intro m i a' w3 hm hi _ F hd hI;obtain⟨fG,gd,gf,eX,fp,rfl,u⟩:=hI;have HS:=lh u;clear u;have hm:m.size=15:=hm;simp only[List.mem_cons,List.not_mem_nil,or_false]at hi;have ED:∀j,(j=2\/j=3\/j=4)->m.getD j false=false->m.getD 5 false=false:=λj Z hf=>by
      cases h5:m.getD 5 false with
      |false=>rfl
      |true=>
        obtain⟨mb,hm,_⟩:=HS.o;obtain⟨_,_,e2,e3,e4⟩:=hm.2.1 h5;rcases Z with rfl|rfl|rfl;·rw[hf]at e2;cases e2
        .rw[hf]at e3;cases e3
        .rw[hf]at e4;cases e4
     rcases hi with rfl|rfl|rfl|rfl|rfl|rfl|rfl|rfl
     .have u:=HS.o;rw[F]at u;refine Zto ?_;simp only[We (show 1<m.size by rw[hm];decide)];refine Zkm ?_;exact u.make
     .have n5:=ED 2 (.inl rfl) F;have d1:=hd 1 Pz;have u:=HS.o;rw[d1,F,n5]at u;obtain⟨mb,n,rfl,hn,O,hK⟩:=u.ins2;refine Z8t PM ?_;rw[Y5 PM];refine Z7t _ _ _ 237 rfl 9 3 dS underlying237 _ mb n _ rfl O PA _ _ _ rfl rfl (Yo Yj Py) _ [] (plainElem_int Yk Py) λw4 h4 g4=>?_;refine⟨_,_,_,_,_,rfl,?_⟩;simp only[We (show 2<m.size by rw[hm];decide)];exact Zwj
     .have n5:=ED 3 (.inr (.inl rfl)) F;have d1:=hd 1 Pz;have u:=HS.o;rw[d1,F,n5]at u;obtain⟨mb,n,rfl,hn,O,hK⟩:=u.ins3;refine Z8t PM ?_;rw[Y5 PM];refine Z7t _ _ _ 237 rfl 9 3 dS underlying237 _ mb n _ rfl O PA _ _ _ rfl rfl (Yo Yj Py) _ [] (plainElem_int Yk Py) λw4 h4 g4=>?_;refine⟨_,_,_,_,_,rfl,?_⟩;simp only[We (show 3<m.size by rw[hm];decide)];exact Zwj
     .have n5:=ED 4 (.inr (.inr rfl)) F;have d1:=hd 1 Pz;have u:=HS.o;rw[d1,F,n5]at u;obtain⟨mb,n,rfl,hn,O,hK⟩:=u.ins4;refine Z8t PM ?_;rw[Y5 PM];refine Z7t _ _ _ 237 rfl 9 3 dS underlying237 _ mb n _ rfl O PA _ _ _ rfl rfl (Yo Yj Py) _ [] (plainElem_int Yk Py) λw4 h4 g4=>?_;refine⟨_,_,_,_,_,rfl,?_⟩;simp only[We (show 4<m.size by rw[hm];decide)];exact Zwj
     .have d1:=hd 1 Pz;have d2:=hd 2 Pz;have d3:=hd 3 Pz;have d4:=hd 4 Pz;have u:=HS.o;rw[d1,d2,d3,d4,F]at u;refine Zto ?_;simp only[We (show 5<m.size by rw[hm];decide)];refine Zkm ?_;rw[d1,d2,d3,d4];exact u.move
     .have d5:=hd 5 Pz;have u:=HS.o;rw[d5,F]at u;obtain⟨⟨mb,n,rfl,O⟩,hK⟩:=u.look;refine Z8t PM ?_;rw[Y5 PM];refine Zar _ _ 237 rfl 9 3 .i64 dS underlying237 Yk (WL _) mb n _ rfl O _ _ rfl (Yo Yj US.o.2.1) λc hc=>?_;obtain rfl:32+(k:Int)=c:=by
       have e:=US.o.2.2.symm.trans hc;simpa using e
      refine⟨_,_,_,_,_,rfl,?_⟩;simp only[We (show 7<m.size by rw[hm];decide)];refine Zkm ?_;rw[d5];exact hK
     .have u:=HS.o;rw[F]at u;obtain⟨U,F4⟩:=u.pre;have HC:=Zei w3 rb B ts.tail d _ J U.rd (by have :=U.deep;omega) U.lt L4.o λhd h1 w4 hR hs=>HU.o w4 rb B (d+1) ts.tail J ⟨hR,hd,U.lt,by have :=U.le;omega,U.few⟩ h1;have HC:=lh HC;have F4:=lh F4;have bW:=lh u;clear U u;refine Z8t PM ?_;go_simp
      refine HC.o.mono ?_;rcases J with⟨c,p⟩|⟨t,ts'⟩
      .rintro e w4⟨⟨b,rfl,h1,h2⟩,hF⟩;obtain rfl:=HE.o _ rfl;exact⟨rfl,mc.pre (F3.o.trans F4.o) (r:=.error (c,p)) ⟨⟨b,rfl,h1,h2⟩,hF⟩⟩
      .rintro e w4⟨a,rfl,hG,hR,hF⟩;refine⟨_,_,_,_,_,rfl,?_⟩;simp only[We (show 11<m.size by rw[hm];decide)];refine Zkm ?_;exact bW.o.call rfl hG hR hF
     .have I5:=hd 11 Pz;have u:=HS.o;rw[I5,F]at u;obtain⟨pb,rfl⟩:=u.ptr;refine Zto ?_;simp only[We (show 12<m.size by rw[hm];decide)];refine Zkm ?_;rw[I5];exact u.box
    .rintro m a' w3 ao⟨fG,gd,gf,eX,fp,rfl,u⟩;rw[ao 7 Py,ao 11 Py,ao 12 Py]at u;obtain⟨a,t,ts',g,e1,rfl,rfl,hF,hR,hG⟩:=u.fin;simp only[List.filterMap_cons,List.filterMap_nil,List.getElem?_toArray,List.getElem?_cons_zero,List.getElem?_cons_succ];obtain rfl:=HK.o _ _ e1;have HG:=lh hG;have HR:=lh hR;have HF:=lh (F3.o.trans hF);clear hG hR hF u e1 ao;go_wp2_with fail
     refine(Zw w3 rb (32+(k:Int)) ⟨#[]⟩ (some ⟨g,0,none⟩) 1 1).mono ?_;rintro e w7⟨rfl,EE⟩;have cP:kW w3 w7:=by rw[EE];exact(Y2 _ _).alloc (Y0 _) _
     have yp:=lh EE;have uO:=lh cP;clear EE cP;go_wp2;go_ret;refine⟨_,?pt,(by rw[yp.o];exact HG.o.pre F3.o),HR.o.below uO.o,HF.o.trans (RFr.below uO.o)⟩;case pt=>simp[ATree.b]
   .have dK:ak x ts=false:=by simpa using hs
    obtain⟨HT,HS,I⟩:=ds (zi wr rb ts d x I.rd dK) dK I;clear hs dK;go_wp2_with fail
    refine HT.o.mono ?_;rintro e w2⟨rfl,ar⟩;have B2:=lh ar;clear ar;go_wp2;go_roundw
    case rel=>exact⟨k+1,by omega,by go_num,lh (λj y Z hy=>by
     by_cases e:j=k;·exact Zxc
     .exact NO.o j y Px hy),lh (BW.o.trans (B2.o.mono BW.o.size))⟩
    case measure=>simp[intOf];omega
  .have h3:k=3:=by omega
   subst h3;have hn:=Zvn λi y hi hy=>NO.o i y hi hy;have hq:=H1.o;rw[Y5 hn]at hq;have HC:=I4.o wr rb B d ts r I hq;unfold cW at HC;have HC:=lh HC;clear hn hq I;go_wp2_with fail
   refine HC.o.mono ?_;rcases r with⟨c,p⟩|⟨t,ts'⟩
   .rintro e w2⟨⟨b,rfl,h1,h2⟩,hF⟩;exact Aa8
   .rintro e w2⟨a,rfl,hG,hR,hF⟩;exact ZE
