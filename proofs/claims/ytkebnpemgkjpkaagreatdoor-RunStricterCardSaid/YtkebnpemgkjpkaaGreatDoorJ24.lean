import Derived.Test.YtkebnpemgkjpkaaGreatDoorJ23
set_option maxRecDepth 100000
set_option maxHeartbeats 20000000
set_option linter.all false
namespace Go.Proofs.YtkebnpemgkjpkaaGreatDoor
open Go Go.RowKit Go.Proofs.Tryz Tryz
section
variable {C:RCtx}{M M1:MRep}{w z W:kV}{s:MSt}{B:Nat}{x:CloR}{pn bd:ATree}{v:Value}{vs:List LVal}{nx:Int}{d:Nat}{A:Act}{K:Act->kV->Prop}{Q:Exit->Act->kV->Prop}
def Zpe(hc:EnC C M w z x pn bd B v vs)(hM:MAt C M1 W s)(hF:MFr M M1 z W)(iS:(bd.nt C.N).stm/\(bd.nt C.N).tree.many<=1500)(hn:bd.kids.length<=1500){fb:Nat}{wF:kV}{st:Bool}(lf:Lo C M1 wF W fb #[.bool st,vI nx] 63)
 (hI:Inv s (d+6*(bd.nt C.N).funcs.length))(h0:0<=nx)(h1:nx<s.H.scopes.length)(fr:FrA 240 (tL C w v nx bd [(21,vP fb)]) [] A)
 (U:∀A' F M',FrA 240 (tL C w v nx bd [(21,vP fb)]) [] A'->MAt C M' F (s.funcs (λs _=>s) (λt a v=>t.bindTo nx a v) (bd.nt C.N).funcs nx ⟨st,nx⟩)->MFr M1 M' W F->K A' F)(hQ:∀c a d v w,Q (.panic c) (Act.put a d v) w->Q (.panic c) a w) :
 (iy [1,1,1,1,1,1,1,1,1,1,1,0]).wp Tryz.prog (Exit.then K Q) A W:=by
 have iI:=V1 iS.1 iS.2;rw[ZS]at U hI iI;have cO:=hc.bdT;have cB:=hF.tree cO.1 cO.2;have HL:=lh (YN W B bd cB.1 Px);obtain⟨P,hP⟩:=zX (bd.kids.filter xk)
 rw[<-hP]at HL U hI iI;refine Zwf ?_;intro nj;have vJ:P.length<=1500:=Qo
 obtain⟨S,hS⟩:=zX (s.funcs (λs _=>s) (λt a v=>t.bindTo nx a v) (P.map (ATree.nt C.N)) nx ⟨st,nx⟩)
 rw[<-hS]at U;rw[Ym]at hI;refine Zsm ?_;intro nY;obtain⟨qy,HO,Z,HKK,fA,HM,dB,HS,j9,HI⟩:=lB hc.ok (Y4 (Y4 hc.old hc.below.size) hF.size) cB U hQ hM lf hS (Yu h0 h1) hI;unfold tL at fr;obtain⟨pv,nv,cv,rfl⟩:∃pv nv cv,v=.slice pv nv cv:=by
  exact Ms
 obtain⟨xt,rfl,e0,e2,e4,e6,e8,e9,qE,-⟩:=U9 fr;rw[e0,e2,e4,e6,e8,e9,qE];clear e0 e2 e4 e6 e8 e9 qE fr hc hF U cO cB hP hM hS hI h0 h1 lf iS iI hQ;unfold ATree.ptr at HL;conv=>arg 2;whnf
 go_wp2_with fail
 refine HL.o.mono ?_;rintro e w5⟨v5,rfl,hZ,eM⟩;obtain⟨p5,rc,rfl,jh,mP,gC⟩:=hZ.slice;refine WC ?_;intro gB m eT;rw[<-eT]at jh hZ gB ⊢;have rn:=lh (HM.o.below eM);have gI:=lh eM;refine Zw9 ?_;intro N5 kK io HQ1 kY;clear hZ eM gC gB eT HL;go_wp2_with fail
 go_loopw [192] (λi wr=>∃(k:Nat) (Mk:MRep) (sk:MSt),k<=m/\i=(vI k)/\Hid (MAt C Mk wr sk)/\Hid (MFr M1 Mk w5 wr)/\Hid (Inv sk (d+6*(m-k)))/\Hid (Ext s sk/\sk.steps=s.steps)/\Hid (S=sk.funcs (λs _=>s) (λt a v=>t.bindTo nx a v) ((P.drop k).map (ATree.nt C.N)) nx ⟨st,nx⟩)) (λi _=>m-(intOf i).toNat)
 case atStart=>exact⟨0,M1,s,Yh _,rfl,rn,lh (.refl _ _),lh (HI.o.less RO),lh ⟨Ext.refl _,rfl⟩,lh QW⟩
 case round=>
  obtain⟨k,Mk,sk,hk,rfl,HMk,HFk,ep,dG,HRk⟩:=hrel;by_cases bX:k<m
  .obtain⟨y,hy⟩:∃y,P[k]? =some y:=⟨_,Y6 PP⟩
   obtain⟨g0,hp⟩:=io.o k y hy;subst hp;refine Zwh ?_;intro aT bJ cx HFz;have dP:=HFz.o.tree Z.o.1 Z.o.2;have mh:=dP.1.kid bJ;have fR:=dP.2.kid bJ;obtain⟨f0,f1⟩:=(dB.o.fr HFz.o).two;have nM:=ep.o.less (d':=d+6*(m-(k+1))+6) Px;have X:0<=nx/\nx<sk.H.scopes.length:=⟨j9.o.1,by have h1:=j9.o.2;have h3:=dG.o.1.ls;omega⟩
   have gG:=Z32 qy.o HMk.o (d:=d+6*(m-(k+1))+2) (nM.less Px) mh fR (nY.o y aT) nx ⟨st,nx⟩ X.1 X.2;obtain⟨p,Y⟩:=zX sk.nextO
   obtain⟨u,jj⟩:=zX (sk.funS (y.nt C.N) nx ⟨st,nx⟩)
   rw[<-Y,<-jj]at gG;have iz:=lh gG;simp only[ATree.ptr]at iz;obtain⟨j1,j2,j3⟩:=Z74 (d:=d+6*(m-(k+1))+1) (n:=y.nt C.N) (sc:=nx) (fr:=⟨st,nx⟩) (nM.less Px) (nY.o y aT) X.1 X.2;have vU:=(Z6h (s:=sk) (sc:=nx) (fr:=⟨st,nx⟩) (n:=y.nt C.N)).2;rw[<-jj]at j1 j2 j3 vU;have HJ:=lh (show Inv u (d+6*(m-(k+1))+1)/\Ext sk u/\(LVal.ref p).ok u.H.objects.length from⟨j1,j2,Te (by rw[Y];show(0:Int)<=sk.H.objects.length;omega) (by rw[j3,Y];show(sk.H.objects.length:Int)<_;omega)⟩)
   have J5:=lh (show Ext s u/\u.steps=s.steps from⟨dG.o.1.trans j2,vU.trans dG.o.2⟩);have hR:=HRk.o;rw[show P.drop k=y::P.drop (k+1) by
    refine XQ ?_;intro hl he;rw[Yt hl,he],List.map_cons,Z76,rH,<-jj,<-Y]at hR
   have dQ:=lh hR;clear dP mh fR nM X gG Y jj j1 j2 j3 vU hR hy;go_wp2_with fail
   refine iz.o.mono ?_;rintro e W1⟨rfl,Ma,nP,iE⟩;have I:=Lo.new (wE:=W) nP (Y4 HFz.o.size iE.size) HO.o #[vI 5,vI p,.string ⟨#[]⟩] 56;have J:=Z1 W1 (.cells #[vI 5,vI p,.string ⟨#[]⟩] 56);obtain⟨gS,bR,ba,rh⟩:=en I (nP.below J) (HFz.o.trans (iE.trans (.of_below J))) (HFk.o.trans (iE.trans (.of_below J)));clear nP iE I J f0 f1 iz;go_wp2_with fail
   have I:=gS.o;have aM:=bR.o;have ap:=ba.o;have mu:=rh.o;clear gS bR ba rh;generalize W1.alloc (.cells #[vI 5,vI p,.string ⟨#[]⟩] 56)=W2 at I aM ap mu ⊢;generalize W1.heap.size=O at I aM ap mu ⊢;have dZ:=lh mu;have Ge:=lh ap;clear ap mu
   have nN:=lh (show∀F M',MFr Ma M' W2 F->vC F y.b 1 (.string y.text)/\vC F O 0 (vI 5)/\vC F O 1 (vI p)/\vC F O 2 (.string ⟨#[]⟩)from
    λF M' f=>⟨((Ge.o.trans f).tree Z.o.1 Z.o.2).1.kid bJ|>.c1,(I.fr f).cell rfl,(I.fr f).cell rfl,(I.fr f).cell rfl⟩)
   have ei:=Z5b (d:=d+6*(m-(k+1))) (sc:=nx) (name:=y.text) (v:=.ref p) HJ.o.1 HJ.o.2.2;obtain⟨cd,gi⟩:=zX ((u.H.declare nx y.text 0 (.ref p)).2)
   have eV:=Vp aM.drew HJ.o.1 nx y.text 0 (.ref p);have qC:=λ(F:kV) (M':MRep) (h:MAt C M' F u)=>Zf0 h HJ.o.1 nx y.text (.ref p);simp only[LVal.agg,LVal.ref]at eV qC;have wi:=gi;simp only[LVal.ref]at wi;rw[<-wi]at eV;have lZ:=lh eV;have AT:=lh qC;obtain⟨sb,aK⟩:=zX (u.bindTo nx y.text (.ref p))
   have hR:=dQ.o;rw[<-aK]at ei hR;have bA:=lh hR;have ti:=lh ei.1;have tj:=lh (show Ext s sb/\sb.steps=s.steps from⟨J5.o.1.trans ei.2,by rw[aK];exact Z5j.2.trans J5.o.2⟩);have cE:=lh aK;have qD:=lh gi;clear I aM ei eV qC gi wi aK hR aT bJ cx
   refine Z9 [(true,0),(true,1),(true,2),(true,3),(true,4),(true,5),(true,6),(true,7),(true,8)] [9,10] (λW=>vC W y.b 1 (.string y.text)/\vC W O 0 (vI 5)/\vC W O 1 (vI p)/\vC W O 2 (.string ⟨#[]⟩)) Pz Pz (λc a d v w h=>fA.o c a d v w h) (nN.o _ _ (.drew (.refl _ _))) (λbq=>?_);refine oK ?_;refine Z0 ?_;go_wp2_with fail
   refine lZ.o.mono ?_;rintro e W3⟨rfl,M3,dC,bg⟩;have bK:=lh ((MFr.drew (.refl Ma W2)).trans bg);by_cases fZ:cd=0
   .have cF:u.declare nx y.text 0 (.ref p)=sb:=by rw[cE.o];unfold MSt.bindTo;rw[Y5 (qD.o▸fZ)]
    have dE:=lh (show MAt C M3 W3 sb from cF▸dC);exact YZ
   .have cF:u.declare nx y.text 0 (.ref p)=u:=by unfold MSt.declare;rw[Z6x (qD.o▸fZ)];rfl
    have iT:u.write nx y.text (.ref p)=sb:=Qj
    have AU:MAt C M3 W3 u:=cF▸dC;have hw:=AT.o _ _ AU.drew;have Ct:u.write nx y.text ⟨5,p,⟨#[]⟩⟩=sb:=iT;rw[Ct]at hw;have HW:=lh hw;rw[show da cd=.iface 44 (vI cd) by unfold da;rw[Y3 fZ]];clear dC AU bg cF iT Ct fZ hw;go_wp2_with fail
    refine Z9 [(true,0),(true,1),(true,2),(true,3),(true,4),(true,5),(true,6),(true,7),(true,8)] [9] (λW=>vC W y.b 1 (.string y.text)/\vC W O 0 (vI 5)/\vC W O 1 (vI p)/\vC W O 2 (.string ⟨#[]⟩)) Pz Pz (λc a d v w h=>fA.o c a d v w h) (nN.o _ _ (bK.o.trans (.drew (.refl _ _)))) (λbq=>?_);exact Aae
  .have aR:k=m:=by omega
   exact tu1 gI
end
section
variable {C:RCtx}{M M1:MRep}{w z W:kV}{s:MSt}{B:Nat}{x:CloR}{D:DF}{b:Int}{pn bd:ATree}{v:Value}{vs:List LVal}{nx:Int}{d:Nat}{A:Act}{K:Act->kV->Prop}{Q:Exit->Act->kV->Prop}
def AbF(hc:EnC C M w z x pn bd B v vs)(u:MAt C M1 W s)(fr:FrA 240 (tL C w v nx bd []) [] A)
 (m:∀y F,FrA 240 (tL C w v nx bd [(13,.bool (s.H.has nx Za))]) [] y->kW W F->K y F) :
 (iy [1,1,1,1,0]).wp Tryz.prog (Exit.then K Q) A W:=by
 have g:=Wj u nx Za;obtain⟨hb,I⟩:=zX (s.H.has nx Za)
 rw[<-I]at g m;simp only[Za]at g;have HH:=lh g;have p:=lh m;unfold tL at fr;obtain⟨pv,nv,cv,rfl⟩:∃pv nv cv,v=.slice pv nv cv:=by
  exact Ms
 obtain⟨xt,rfl,J,O,U,X,Y,Z,-⟩:=U9 fr;rw[J,O,U,X,Y,Z];clear J O U X Y Z fr hc m u g I;conv=>arg 2;whnf
 go_wp2_with fail
 refine HH.o.mono ?_;rintro e w2⟨rfl,ar⟩;have aN:=lh ar;clear ar;go_wp2_with fail
 exact p.o _ _ ⟨rfl,⟨rfl,rfl,rfl,rfl,rfl,rfl,rfl,trivial⟩,rfl⟩ aN.o
def Zs9(hc:EnC C M w z x pn bd B v vs)(m:MFr M M1 z W)(fr:FrA 240 (tL C w v nx bd []) [] A)
 (p:∀u,FrA 240 (tL C w v nx bd [(21,vP W.heap.size)]) [] u->K u (W.alloc (.cells #[.bool x.strict,vI nx] 63))) :
 (iy [1,1,1,1,1,1,1,1,0]).wp Tryz.prog (Exit.then K Q) A W:=by
 have X:=(hc.lc.fr m).cell (i:=2) rfl;have g:=lh p;unfold tL at fr;obtain⟨pv,nv,cv,rfl⟩:∃pv nv cv,v=.slice pv nv cv:=by
  exact Ms
 obtain⟨Y,rfl,y,F,I,J,O,U,-⟩:=U9 fr;rw[y,F,I,J,O,U];clear y F I J O U fr hc p m;conv=>arg 2;whnf
 go_wp2_with fail
 exact g.o _ ⟨rfl,⟨rfl,rfl,rfl,rfl,rfl,rfl,rfl,trivial⟩,rfl⟩
def Ztb(hc:EnC C M w z x pn bd B v vs)(F:MAt C M1 W s)(I:MFr M M1 z W)(hI:Inv s (d+bd.kids.length))(hn:bd.kids.length<=1500){J:Value}(fr:FrA 240 (tL C w v nx bd [(21,J)]) [] A)
 (g:∀O m M',FrA 240 (tL C w v nx bd [(21,J)]) [] O->MAt C M' m (s.lets (bd.nt C.N).lets nx)->MFr M1 M' W m->K O m) :
 (iy [1,1,1,1,1,1,1,1,1,1,0]).wp Tryz.prog (Exit.then K Q) A W:=by
 have p:=hc.bdT;have u:=I.tree p.1 p.2;have hl:=Z84 F hI u.1 u.2 Px nx;obtain⟨S,U⟩:=zX (s.lets (bd.nt C.N).lets nx)
 rw[<-U]at hl g;unfold ATree.ptr at hl;have HL:=lh hl;have y:=lh g;unfold tL at fr;obtain⟨pv,nv,cv,rfl⟩:∃pv nv cv,v=.slice pv nv cv:=by
  exact Ms
 obtain⟨xt,rfl,X,Y,Z,e6,e8,e9,qE,-⟩:=U9 fr;rw[X,Y,Z,e6,e8,e9,qE];clear X Y Z e6 e8 e9 qE fr hc g I F hI p u hl U;conv=>arg 2;whnf
 go_wp2_with fail
 refine HL.o.mono ?_;rintro e w2⟨rfl,M2,aM,ap⟩;have bR:=lh aM;have ba:=lh ap;clear aM ap;go_wp2_with fail
 exact y.o _ _ M2 ⟨rfl,⟨rfl,rfl,rfl,rfl,rfl,rfl,rfl,trivial⟩,rfl⟩ bR.o ba.o
def Zqb(r:MSt×Except Er (Bool×LVal)):MSt×Except Er LVal:=match r with
 |(s1,.ok (b,v))=>(s1,.ok (if b then v else LVal.zero))
 |(s1,.error e)=>(s1,.error e)
def Zut{D:DF}{sc:Int}{fr:Frm}{l:List NT}:Zx (oB D sc fr l) (λr=>d9 (if r.1 then r.2 else LVal.zero)) s=Zqb (oB D sc fr l s):=by
 unfold Zx Zqb;rcases oB D sc fr l s with⟨s1,e|⟨b,v⟩⟩<;>rfl
def Zvm(cT:G8 C D b)(hD:DH D b)(hc:EnC C M w z x pn bd B v vs)(hM:MAt C M1 W s)(U:MFr M M1 z W)(hst:(bd.nt C.N).stm)(hm:(bd.nt C.N).tree.many<=1500)(hn:bd.kids.length<=1500){fb:Nat}{wF:kV}{st:Bool}(lf:Lo C M1 wF W fb #[.bool st,vI nx] 63)
 (hI:Inv s d)(hA:FAt s nx ⟨st,nx⟩)(hb:b<=s.steps)(hs:s.steps<=20000)(fr:FrA 240 (tL C w v nx bd [(21,vP fb)]) [] A)
 (HR:∀y a' w',(results f144 a'.tmps).run Tryz.prog w'=.ok y w'->a'.defers=[]->cK C M w (Zqb (oB D nx ⟨st,nx⟩ (bd.nt C.N).kids s)) (.returned y) w'->Q .ret a' w')(hQ:∀c a d v w,Q (.panic c) (Act.put a d v) w->Q (.panic c) a w) :
 (iy [1,1,1,1,1,1,1,1,1,1,1,1]).wp Tryz.prog Q A W:=by
 have cO:=hc.bdT;have I:=U.tree cO.1 cO.2;obtain⟨pb,cb,Y,bU,ej,cU⟩:=ll.slice I.1.rowOf;obtain⟨qb,mt⟩:=zX bd.kids.length
 rw[<-mt]at Y;obtain⟨r,hr⟩:=zX (oB D nx ⟨st,nx⟩ (bd.nt C.N).kids s)
 rw[<-hr]at HR;rw[Zu,AC]at hr;have ao:=X8 hst hm;have bD:∀y∈bd.kids,(y.nt C.N).wf .s/\(y.nt C.N).tree.many<=1500:=λy hy=>ao (y.nt C.N) Q7
 have HC:=lh (show∀p,kW W p->kC 24 #[vP C.mb,.slice pb qb cb,vI nx,.agg #[.bool st,vI nx]] p λe w'=>∃M' b k n t ev,e=.returned (.tuple #[.bool b,ag k n t,ev])/\mA C M1 p r w' M' b k n t ev from
  λp hB=>by
   have h:=Calls.dres (Z5c (fr:=⟨st,nx⟩) cT hD (hM.below hB) hI hA hb hs (I.1.bel hB) I.2 hn bD);rw[Y,<-hr]at h;exact h)
 have HS:=lh (show∀p M',MFr M1 M' W p->vC p bd.b 3 (.slice pb qb cb)/\vC p fb 0 (.bool st)/\vC p fb 1 (vI nx)from
  λp M' f=>⟨by have:=(f.tree I.1 I.2).1.c3;rwa[Y]at this,(lf.fr f).cell rfl,(lf.fr f).cell rfl⟩)
 obtain⟨HM,Z,HE,HO,g,F,fd,fA⟩:=kw hM U (Y4 hc.below.size U.size) hc.old hc.lr hc.below HR hQ;unfold tL at fr;obtain⟨pv,nv,cv,rfl⟩:∃pv nv cv,v=.slice pv nv cv:=by
  exact Ms
 obtain⟨xt,rfl,e0,e2,e4,e6,e8,e9,qE,-⟩:=U9 fr;rw[e0,e2,e4,e6,e8,e9,qE];clear e0 e2 e4 e6 e8 e9 qE fr cT hD hc hM U hst hm hn lf hI hA hb hs HR hQ cO I Y bU ej cU mt hr ao bD;conv=>arg 2;whnf
 refine po ?_;intro K HK;refine Z2b (.take 0 (.take 1 (.take 2 (.take 3 (.take 4 (.take 5 (.take 6 (.two 7 (.take 8 (.take 9 (.take 10 (.take 11 (.go 12 (.go 13 (.go 14 (.go 15 (.nil))))))))) 12 (.go 7 (.take 8 (.take 9 (.take 10 (.take 11 (.go 13 (.go 14 (.go 15 (.nil))))))))))))))))) 14 (λW=>vC W bd.b 3 (.slice pb qb cb)/\vC W fb 0 (.bool st)/\vC W fb 1 (vI nx)) Pz Pz (λc a d v w h=>fA.o c a d v w h) (HS.o _ _ (MFr.drew (.refl _ _))) ?_;refine qa ?_;refine Zr ?_
 apply Zjy (H:=Ld C w M1 W r);·exact kDA HS HC HE.o HO.o
 .exact Ac8 HS HC HM HE.o HO.o
 intro W1 p1 M2 b1 k1 n1 t1 J O;refine HK.o _ _ ?_;clear HK K;have F1:=Z.o.trans O.1.2.1;have bw:=lh F1;have u:=lh O;obtain⟨b0,jl,b2,y0,y1,y2⟩:=O.2.six;obtain⟨q0,q1,q2,z0,z1,z2⟩:=(g.o.fr F1).six;have li:p1≠w.heap.size+1:=by have h1:=O.2.late;have h2:=g.o.lt;have h3:=Z.o.size;omega
 clear O F1;cases b1
 .have gS:=lh (u.o.2.fill (x':=(vI 0)) (y':=(vI 0)) (z':=.string ⟨#[]⟩) u.o.1.1 u.o.1.2.1 u.o.2.late);go_wp2_with fail
  refine fd.o (.tuple #[.agg #[vI 0,vI 0,.string ⟨#[]⟩],J]) _ _ ?_ rfl ?_;·simp[results,results144,go_sem,q0,q1,q2]
  .obtain⟨g1,g2,g3,g4⟩:=gS.o;obtain⟨s9,q9⟩:=r;cases q9 with
   |error x9=>exact .err g.o F.o g1 (Z.o.trans g2) (g4 _ _ (show ax C M2 W1 x9 J from u.o.1.2.2))
   |ok v9=>
     obtain⟨rfl,rfl⟩:v9=(false,⟨k1,n1,t1⟩)/\J=.nilIface:=u.o.1.2.2;exact .fine g.o F.o g1 (Z.o.trans g2)
 .go_wp2_with fail
  refine fd.o (.tuple #[.agg #[vI k1,vI n1,.string t1],J]) _ _ ?_ rfl ?_;·simp[results,results144,go_sem,q0,q1,q2]
  .obtain⟨s9,q9⟩:=r;cases q9 with
   |error x9=>exact .err g.o F.o u.o.1.1 bw.o (show ax C M2 W1 x9 J from u.o.1.2.2)
   |ok v9=>
     obtain⟨rfl,rfl⟩:v9=(true,⟨k1,n1,t1⟩)/\J=.nilIface:=u.o.1.2.2;exact .fine g.o F.o u.o.1.1 bw.o
def AcT(h:MAt C M w s)(x:CloR):kW w ((w.alloc (.cells #[vP x.a.b,vI x.scope,.bool x.strict] 117)).alloc (vO 0 0 ⟨#[]⟩))/\Lo C M w ((w.alloc (.cells #[vP x.a.b,vI x.scope,.bool x.strict] 117)).alloc (vO 0 0 ⟨#[]⟩)) w.heap.size #[x.a.ptr,vI x.scope,.bool x.strict] 117/\
 Lo C M w ((w.alloc (.cells #[vP x.a.b,vI x.scope,.bool x.strict] 117)).alloc (vO 0 0 ⟨#[]⟩)) (w.heap.size+1) #[vI 0,vI 0,.string ⟨#[]⟩] 56:=by
 have h1:=Z1 w (.cells #[vP x.a.b,vI x.scope,.bool x.strict] 117);have h2:=Lo.new (wE:=w) h (Y0 _) h.old.size #[x.a.ptr,vI x.scope,.bool x.strict] 117;have hs:(w.alloc (.cells #[vP x.a.b,vI x.scope,.bool x.strict] 117)).heap.size=w.heap.size+1:=World.size_alloc _ _;exact Zy0
theorem Zsn:f144.body=some (iy []):=by kernel_rfl
theorem Zr6:iy []=Code.seq (iy [0]) (Code.seq (iy [1,0]) (Code.seq (iy [1,1,0]) (Code.seq (iy [1,1,1,0]) (Code.seq (iy [1,1,1,1,0]) (Code.seq (iy [1,1,1,1,1,0]) (Code.seq (iy [1,1,1,1,1,1,0]) (Code.seq (iy [1,1,1,1,1,1,1,0]) (Code.seq (iy [1,1,1,1,1,1,1,1,0]) (Code.seq (iy [1,1,1,1,1,1,1,1,1,0]) (Code.seq (iy [1,1,1,1,1,1,1,1,1,1,0]) (Code.seq (iy [1,1,1,1,1,1,1,1,1,1,1,0]) (iy [1,1,1,1,1,1,1,1,1,1,1,1])))))))))))):=by kernel_rfl
def Zjs(gj:K8 C.w0)(hC:C.Ok)(cT:G8 C D b)(hD:DH D b)(h:MAt C M w s)(hI:Inv s (d+17000))(hr:Root s)(iS:KU (x.a.nt C.N))(lq:0<=x.scope)(dI:x.scope<s.H.scopes.length)(ha:TreeAt w B x.a)(hf:x.a.free M)
 (ae:∃wA,VRow C M wA w v vs)(dt:∀u∈vs,VQ s u)(hl:vs.length<=1500)(hb:b<=s.steps)(hs:s.steps<=20000) :
 kC 144 #[vP C.mb,.agg #[x.a.ptr,vI x.scope,.bool x.strict],v] w λe w'=>cK C M w (U7 D (x.clo C.N) vs s) e w':=by
 obtain⟨pk,bk,co,ud,hst,Gf,lG,-⟩:=Z8g iS;have X:=co;rw[Zu,AC]at X;obtain⟨pn,bd,jb⟩:∃pn bd,x.a.kids=[pn,bd]:=by
  match hl:x.a.kids,X with
  | [],hk=>simp at hk
  | [x],hk=>simp at hk
  | [x,y],hk=>exact⟨x,y,rfl⟩
  |x::y::z::l,hk=>simp at hk
 rw[jb]at X;simp only[List.map_cons,List.map_nil,List.cons.injEq,and_true]at X;obtain⟨rfl,rfl⟩:=X;have J6:(x.a.nt C.N).kid 0=pn.nt C.N:=wX R9;have Gg:(x.a.nt C.N).kid 1=bd.nt C.N:=wX R9;have lJ:pn.kids.length<=1500:=by rw[Zu,AC,Ym]at ud;exact ud
 have dw:(bd.nt C.N).tree.many=bd.many:=by rw[VZ];exact Vi bd
 have iJ:bd.kids.length<=1500:=by have:=SP (n:=bd.nt C.N);rw[Zu,AC,Ym]at this;omega
 have dr:(zt bd).length<=1500:=by have:=Z7y (n:=bd.nt C.N);rw[VY]at this;omega
 have qG:(bd.nt C.N).funcs.length<=1500:=by have:=Z6w (n:=bd.nt C.N);have:=SP (n:=bd.nt C.N);omega
 obtain⟨nx,p⟩:=zX s.next
 obtain⟨so,aU⟩:=zX (s.opens x.scope (-1) (C.N x.a.b))
 obtain⟨Y,uR⟩:=zX (MSt.params nx (pn.kids.map (ATree.nt C.N)) vs so)
 obtain⟨o,ho⟩:=zX (((Y.H.has nx Za||(bd.nt C.N).funcs.any λk=>Zg k.text Za)||(bd.nt C.N).lets.any λk=>Zg k.text Za))
 obtain⟨sa,CV⟩:=zX (if o then Y else Y.argsObj nx vs)
 obtain⟨sv,nI⟩:=zX (sa.vars (bd.nt C.N).vars nx)
 obtain⟨sl,bV⟩:=zX (sv.lets (bd.nt C.N).lets nx)
 obtain⟨Z,jj⟩:=zX (sl.funcs (λs _=>s) (λt a v=>t.bindTo nx a v) (bd.nt C.N).funcs nx ⟨x.strict,nx⟩)
 have hE:s.enterS (x.clo C.N) vs=Z:=by
  rw[jj,bV,nI,CV,ho,uR,aU,p];unfold MSt.enterS CloR.clo;dsimp only
  rw[J6,Gg,Zcc,Zu,AC,Bool.or_assoc];rfl
 have an:U7 D (x.clo C.N) vs s=Zqb (oB D nx ⟨x.strict,nx⟩ (bd.nt C.N).kids Z):=by
  unfold U7;rw[hE,<-p,<-Zut];unfold CloR.clo;dsimp only
  rw[Gg]
 rw[an];obtain⟨t1,t2,t3⟩:=Zcb (c:=x.clo C.N) (vs:=vs) hI hr ⟨iS,lq,dI⟩ dt hl;obtain⟨u1,u2⟩:=Zbj (s:=s) (c:=x.clo C.N) (vs:=vs);rw[hE]at t1 t2 t3 u1 u2;rw[<-p]at t3;have t3:FAt Z nx ⟨x.strict,nx⟩:=t3;have i0:=hI.opens (d:=d+16999) (outer:=x.scope) (object:=-1) (owner:=C.N x.a.b) Px dI Py Px;rw[<-aU]at i0;have me:∀u∈vs,VQ so u:=λu hu=>VQ.ext (dt u hu) i0.2;have F:=Z97 (sc:=nx) (pn.kids.map (ATree.nt C.N)) vs so (d+15499) (i0.1.less (by rw[Ym];omega)) me;rw[<-uR]at F
 have Gh:∀u∈vs,VQ Y u:=λu hu=>VQ.ext (me u hu) F.2;have i2:Inv sa (d+13996)/\Ext Y sa:=by
  rw[CV];split;·exact⟨F.1.less Px,Ext.refl _⟩
  .exact Zac (F.1.less Px) Gh Px
 have i3:=Zi8 (l:=(bd.nt C.N).vars) (sc:=nx) (d:=d+12496) (i2.1.less (by rw[VY];omega));rw[<-nI]at i3;have i4:=VO (l:=(bd.nt C.N).lets) (sc:=nx) (d:=d+10996) (i3.1.less (by have:=Z70 (n:=bd.nt C.N);have:=SP (n:=bd.nt C.N);omega));rw[<-bV]at i4;have hn0:0<=nx:=by rw[p];show(0:Int)<=s.H.scopes.length;omega
 have iR:nx<sl.H.scopes.length:=by
  have h1:=((F.2.trans i2.2).trans i3.2).trans i4.2;have h2:=h1.ls;have h3:so.H.scopes.length=s.H.scopes.length+1:=by rw[aU];simp[MSt.opens]
  rw[p];show(s.H.scopes.length:Int)<_;omega
 obtain⟨I,lc,lr⟩:=AcT h x;unfold vO at I lc lr;obtain⟨z,hz⟩:=zX ((w.alloc (.cells #[vP x.a.b,vI x.scope,.bool x.strict] 117)).alloc (.cells #[vI 0,vI 0,.string ⟨#[]⟩] 56))
 rw[<-hz]at I lc lr;have hc:EnC C M w z x pn bd B v vs:=⟨hC,h.old.size,I,lc,lr,ha.bel I,hf,jb,by obtain⟨wA,hr⟩:=ae;exact⟨wA,hr.fr (.of_below I)⟩,hl,iS⟩
 have aD:=h.below I;obtain⟨kg,kc,AJ,yZ,hk⟩:=hc.two;obtain⟨g,iP,HD,wh,HM,pi,mr,HT,J7,ii,eC,oN⟩:=oh hc cT hD gj aD hk (Yu hst lG) (Yu t1 t3) (show b<=Z.steps/\Z.steps<=20000 by omega) i0.1 F.1 i2.1;obtain⟨nT,FU,Np,Nq,tM,yh,sh,HO,Nr,vF,j8⟩:=nG i3.1 i4.1 me Gh (Yu hn0 iR) aU uR ho CV nI bV
 have Ns:=lh jj;have pX:=λW (hW:kW z W)=>Z5o hC (aD.below hW) (hc.tr.bel hW);have oG:=lh pX;have eD:=λW (hW:kW z W)=>Wm (aD.below hW) hI x.scope (-1) (C.N x.a.b);rw[<-aU,<-p]at eD;obtain⟨jE,dp,HZ⟩:=ds eD (show∀W M',MFr M M' z W->vC W w.heap.size 0 (vP x.a.b)/\vC W w.heap.size 1 (vI x.scope)from λW M' f=>⟨(lc.fr f).cell rfl,(lc.fr f).cell rfl⟩) hz
 have m:=lh (Yu lJ (Yu iJ (Yu dr (Yu qG (dw▸lG)))));obtain⟨pv,nv,cv,rfl⟩:∃pv nv cv,v=.slice pv nv cv:=by
  obtain⟨wA,hr⟩:=ae;obtain⟨pv,cv,h,-⟩:=hr.form;exact⟨pv,_,cv,h⟩
 clear gj hC cT hD h hI hr iS lq dI ha hf ae dt hl hb hs co ud hst Gf lG jb J6 Gg lJ dw iJ dr qG hE an t1 t2 t3 u1 u2 i0 F i2 i3 i4 me Gh hn0 iR I lc lr hc aD hk pX eD p aU uR ho CV nI bV jj hz;unfold ATree.ptr at oG ⊢;refine calls_of_wp (c:=iy []) func144 Zsn ?_;simp only[ntmps144,List.size_toArray,List.length_cons,List.length_nil,Nat.reduceAdd,Nat.reduceSub,Array.replicate_succ,Array.replicate_zero,List.push_toArray,List.append_toArray,List.nil_append,List.cons_append];rw[Zr6];refine dq ?_;intro K HK;go_wp2;rw[<-HZ.o]
 refine HK.o _ _ ?_;clear HK K;refine dq ?_;intro K HK;refine ow [(true,0),(true,1),(true,2),(true,3),(true,4),(true,5),(false,6)] [7,8] (λW=>vC W w.heap.size 0 (vP x.a.b)/\vC W w.heap.size 1 (vI x.scope)) (dp.o _ _ (.drew (.refl _ _))) (λbq=>?_);refine f8 ?_;intro K hK;refine(oG.o _ (Zd _)).mono ?_;rintro e W1⟨rfl,rfl⟩;refine hK _ _ (dp.o _ _ (.drew (.refl _ _))) ?_;clear hK K;refine Z0 ?_;go_wp2_with fail
 refine(jE.o _ (Zd _)).mono ?_;rintro e W2⟨rfl,M2,aM,ap⟩;have bR:=lh aM;have ba:=lh ((MFr.drew (.refl M z)).trans ap);clear aM ap;go_wp2_with fail
 refine HK.o _ _ ?_;clear HK K;obtain⟨f0,f1,f2,f3⟩:=pi.o _ _ ba.o;refine dq ?_;intro K HK;go_wp2_with fail
 refine HK.o _ _ ?_;clear HK K f0 f1 f2 f3;refine po ?_;intro K HK;refine Zo0 (d:=d+15499) g.o bR.o ba.o (ii.o.less (by have:=m.o.1;omega)) Np.o m.o.1 ⟨rfl,⟨rfl,rfl,rfl,rfl,rfl,rfl,trivial⟩,rfl⟩ (λA3 W3 M3 ue dC bg=>?_) (λ_ _ d _ _ h=>by cases d<;>exact h);rw[<-sh.o]at dC;have bg:=ba.o.trans bg;refine HK.o _ _ ?_;clear HK K;refine po ?_;intro K HK;refine AbF g.o dC ue (λA4 W4 uf eF=>?_);have fC:=dC.below eF;have be:=bg.trans (.of_below eF);refine HK.o _ _ ?_;clear HK K dC bg eF ue
 refine po ?_;intro K HK;refine Zuk g.o be m.o.2.1 uf (λA5 W5 AV eM=>?_);have l9:=fC.below eM;have eN:=be.trans (.of_below eM);refine HK.o _ _ ?_;clear HK K fC be eM uf;refine po ?_;intro K HK;refine Zu1 g.o eN m.o.2.1 AV (λA6 W6 AW Gi=>?_);have rE:=l9.below Gi;have fB:=eN.trans (.of_below Gi);rw[<-HO.o]at AW;refine HK.o _ _ ?_;clear HK K l9 eN Gi AV;refine po ?_;intro K HK
 refine Ztg (d:=d+13996) wh.o g.o rE fB (eC.o.less (by have:=g.o.few;omega)) Nq.o AW (λA7 W7 M7 J8 km J=>?_) (λ_ _ d _ _ h=>by cases d<;>exact h);rw[<-Nr.o]at km;have J:=fB.trans J;refine HK.o _ _ ?_;clear HK K rE fB AW;refine po ?_;intro K HK;refine Zs9 g.o J J8 (λA8 J9=>?_);have pN:=Z1 W7 (.cells #[.bool x.strict,vI nx] 63);have J':=Lo.new (wE:=w) km (Y4 g.o.below.size J.size) g.o.old #[.bool x.strict,vI nx] 63;have tW:=km.below pN;have sM:=J.trans (.of_below pN)
 refine HK.o _ _ ?_;clear HK K km J J8 pN;generalize W7.alloc (.cells #[.bool x.strict,vI nx] 63)=W8 at *;generalize W7.heap.size=fb at *;refine po ?_;intro K HK;refine Zti (d:=d+12496) g.o tW sM m.o.2.2.2.2 (oN.o.less (by have:=m.o.2.2.1;omega)) J9 (λA9 W9 M9 CW xp O=>?_);rw[<-vF.o]at xp;have Ka:=J'.fr O;have O:=sM.trans O;refine HK.o _ _ ?_;clear HK K tW sM J9 J';refine po ?_;intro K HK
 refine Ztb (d:=d+10996) g.o xp O (nT.o.less (by have:=m.o.2.1;omega)) m.o.2.1 CW (λAa Wa Ma Kb nP U=>?_);rw[<-j8.o]at nP;have Gj:=Ka.fr U;have U:=O.trans U;refine HK.o _ _ ?_;clear HK K xp O CW Ka;refine po ?_;intro K HK;refine Zpe (d:=d) g.o nP U mr.o m.o.2.1 Gj (FU.o.less (by have:=m.o.2.2.2.1;omega)) tM.o.1 tM.o.2 Kb (λAb Wb Mb Nt xZ ug=>?_) (λ_ _ d _ _ h=>by cases d<;>exact h);rw[<-Ns.o]at xZ;have Nu:=Gj.fr ug;have ug:=U.trans ug;refine HK.o _ _ ?_
 clear HK K nP U Kb Gj;exact Zvm (d:=d) iP.o HD.o g.o xZ ug mr.o.1 mr.o.2 m.o.2.1 Nu HT.o.1 HT.o.2 J7.o.1 J7.o.2 Nt (λy a' w' h1 h2 h3=>Yp h1 h2 h3) (λ_ _ d _ _ h=>by cases d<;>exact h)
end
noncomputable def ky(p:List Nat):Code:=Ip p (f145.body.getD .skip)
def KY(C:RCtx)(w:kV)(sc:Int)(a:ATree)(l:List (Nat×Value)):List (Nat×Value):=
 (0,vP C.mb)::(2,vI sc)::(7,vP w.heap.size)::(8,.pointer (some ⟨w.heap.size+1,0,none⟩))::(10,vP a.b)::l
structure EvS(C:RCtx)(M:MRep)(w:kV)(st:Bool)(vr:Int)(M1:MRep)(W:kV)(s:MSt):Prop where
 mat:MAt C M1 W s
 fr:MFr M M1 w W
 lf:Lo C M1 w W w.heap.size #[.bool st,vI vr] 63
 lr:Lo C M1 w W (w.heap.size+1) #[vI 0,vI 0,.string ⟨#[]⟩] 56
section
variable {C:RCtx}{M M1:MRep}{w W:kV}{s:MSt}{B:Nat}{a:ATree}{sc vr:Int}{st:Bool}{d:Nat}{A:Act}{K:Act->kV->Prop}{Q:Exit->Act->kV->Prop}
theorem EvS.bel(h:EvS C M w st vr M1 W s){m:kV}(g:kW W m):EvS C M w st vr M1 m s:=⟨h.mat.below g,h.fr.trans (.of_below g),h.lf.bel g,h.lr.bel g⟩
theorem EvS.step(h:EvS C M w st vr M1 W s){M2:MRep}{g:kV}{s':MSt}(m:MAt C M2 g s')(f:MFr M1 M2 W g):EvS C M w st vr M2 g s':=⟨m,h.fr.trans f,h.lf.fr f,h.lr.fr f⟩
theorem EvS.size(h:EvS C M w st vr M1 W s):w.heap.size+2<=W.heap.size:=h.lr.lt
theorem Zvz:f145.body=some (ky []):=by kernel_rfl
theorem Zl6{H:LHeap}{n:NT}{f:Nat}{c:Int}:T2 H n vr (f+1) c=((n.names true).any (λt=>(H.kindOf c t==1||H.kindOf c t==2)&& !(n.lets.any λk=>Zg k.text t))||(if c=vr then false else T2 H n vr f (H.outerOf c))):=rfl
def Zpa{H:LHeap}(hw:H.WF){c:Int}(h:Anc H vr c)(g:c≠vr):0<=c/\Anc H vr (H.outerOf c)/\H.outerOf c<c:=by
 cases h with
 |refl=>exact absurd rfl g
 | @up _ x hc ha=>
   have e:H.outerOf c=x.outer:=by unfold LHeap.outerOf;rw[hc]
   obtain⟨m,rfl,hm⟩:=LHeap.scope?_some hc;have:=hw m x hm;rw[e];exact⟨by omega,ha,this.2⟩
def Zr2(hS:EvS C M w false vr M1 W s)(pc:s.H.WF)(AX:Anc s.H vr sc)(gm:0<=vr)(ha:TreeAt W B a)(hn:a.kids.length<=1500){Kc:Value}{B2:Nat}(hnm:Zz W B2 Kc (La true a))(fr:FrA 193 (KY C w sc a [(12,Kc)]) [] A)
 (HK:∀A' Y,T2 s.H (a.nt C.N) vr (sc+1).toNat sc=false->FrA 193 (KY C w sc a []) [] A'->kW W Y->K A' Y)
 (HR:∀y a' w',T2 s.H (a.nt C.N) vr (sc+1).toNat sc=true->(results f145 a'.tmps).run Tryz.prog w'=.ok y w'->a'.defers=[]->cK C M w (s,.error (.thr (.say SO))) (.returned y) w'->Q .ret a' w') :
 (ky [1,1,1,1,1,1,0]).wp Tryz.prog (Exit.then K Q) A W:=by
 obtain⟨J,qo⟩:=zX (T2 s.H (a.nt C.N) vr (sc+1).toNat sc)
 rw[<-qo]at HK HR;obtain⟨nm,wj⟩:=zX (La true a)
 have AY:(a.nt C.N).names true=nm:=by rw[wj];exact Z9p true
 rw[<-wj]at hnm;obtain⟨pn,cn,rfl,bU,ej,cU⟩:=hnm.form2;obtain⟨q,hq⟩:=zX nm.length
 have eJ:=lh hnm;rw[<-hq]at fr bU;obtain⟨HQ,tU,HS,Kd,Nv,Nw,HT,HN,x7,HKK,fd,iU⟩:=oh hq cU hS pc AX gm ha (show a.kids.length<1099511627776 by omega) AY HK HR qo;unfold maxLen at ej;obtain⟨f0,f1⟩:=hS.lf.two;unfold KY at fr;obtain⟨xt,rfl,e0,e2,e7,e8,gU,lN,-⟩:=Zcj fr;rw[e0,e2,e7,e8,gU,lN];clear e0 e2 e7 e8 gU lN fr;clear hS pc AX gm ha hn hnm HK HR qo wj AY cU hq;conv=>arg 2;whnf
 go_wp2_with fail
 clear f0 f1;go_loopw [13] (λu wr=>∃(c:Int) (f:Nat),u=(vI c)/\Hid (kW W wr)/\Hid (Anc s.H vr c)/\Hid ((c+1).toNat<=f/\J=T2 s.H (a.nt C.N) vr f c)) (λu _=>(intOf u+1).toNat)
 case atStart=>exact⟨sc,_,rfl,lh (Y2 _ _),Nv,lh ⟨Y0 _,iU.o⟩⟩
 case round=>
  obtain⟨c,f,rfl,U,HA,Z⟩:=hrel;obtain⟨wo,Nx⟩:=zX wr
  subst Nx;have rG:vr<=c:=HA.o.le Kd.o;obtain⟨g,rfl⟩:∃g,f=g+1:=⟨f-1,by have:=Nw.o;have:=Z.o.1;omega⟩
  have m:=Z.o.2;rw[Zl6,x7.o]at m;obtain⟨cI,lK⟩:=zX ((if c=vr then false else T2 s.H (a.nt C.N) vr g (s.H.outerOf c)))
  rw[<-lK]at m;obtain⟨bP,AZ,HG,Gk,Ny,Gl⟩:=gq m lK Z.o.1 (HS.o.bel U.o) (HT.o.bel U.o) (eJ.o.bel U.o);clear m lK Z;go_wp2_with fail
  go_loopw [68] (λi wr=>∃(k:Nat),k<=q/\i=(vI k)/\Hid (kW wo wr)/\Hid (J=((nm.drop k).any (λt=>(s.H.kindOf c t==1||s.H.kindOf c t==2)&& !((a.nt C.N).lets.any λk=>Zg k.text t))||cI))) (λi _=>q-(intOf i).toNat)
  case atStart=>exact⟨0,Yh _,rfl,lh (Y2 _ _),lh (by rw[List.drop_zero];exact bP.o)⟩
  case round=>
   obtain⟨k,hk,rfl,X,Gm⟩:=hrel;by_cases bX:k<q
   .obtain⟨y,hy⟩:∃y,nm[k]? =some y:=⟨_,Y6 QH⟩
    obtain⟨g0,hp⟩:=tU.o k y hy;subst hp;have cx:=(Gl.o.bel X.o).cells rfl hy;have bD:=Zkr (Gk.o.bel X.o).mat.heap c y;obtain⟨I,wl⟩:=zX (s.H.kindOf c y)
    have m:=Gm.o;rw[show nm.drop k=y::nm.drop (k+1) by
     refine XQ ?_;intro hl he;rw[Yt hl,he],List.any_cons,<-wl]at m
    rw[<-wl]at bD;have pP:=lh bD;have rP:=lh m;clear hy bD wl m Gm;by_cases wm:I=1\/I=2
    .obtain⟨bl,iJ⟩:=zX (((a.nt C.N).lets.any λk=>Zg k.text y))
     have fe:=λ(Y:kV) (hB:kW wo Y)=>Zjj C.N (Ny.o.bel hB) HN.o y;rw[<-iJ]at fe;have m:=rP.o;rw[<-iJ]at m;have Ke:(I==1||I==2)=true:=by rcases wm with h|h<;>rw[h]<;>rfl
     rw[Ke,Bool.true_and]at m;have xT:=lh fe;have Kf:=lh m;simp only[ATree.ptr]at xT;clear iJ fe m Ke rP;rcases wm with h|h
     all_goals
      subst h;go_wp2_with fail
      refine pP.o.mono ?_;rintro e w3⟨rfl,p⟩;have F:=zT X p;clear p;go_wp2_with fail
      refine(xT.o _ F.o).mono ?_;rintro e w4⟨rfl,eF⟩;have eg:=zT F eF;clear eF;cases bl
      .have hT:J=true:=by rw[Kf.o];rfl
       have jp:=Sf (Gk.o.bel eg.o).mat SO;simp only[SO]at jp;have uN:=lh jp;clear jp;go_wp2_with fail
       refine uN.o.mono ?_;rintro e w5⟨o6,rfl,rm,eM⟩;have xw:=lh (show ax C M1 w5 (.thr (.say SO)) o6 from rm);have lx:=lh ((Gk.o.bel eg.o).bel eM);obtain⟨q0,q1,q2,z0,z1,z2⟩:=lx.o.lr.six;clear rm eM;go_wp2_with fail
       refine fd.o (.tuple #[.agg #[vI 0,vI 0,.string ⟨#[]⟩],o6]) _ _ hT ?_ rfl ?_;·exact ZQ
       .obtain⟨g1,g2,g3⟩:=lx.o.lr.ret (x':=(vI 0)) (y':=(vI 0)) (z':=.string ⟨#[]⟩) lx.o.mat lx.o.fr;exact⟨M1,g1,g2,⟨0,0,⟨#[]⟩⟩,o6,rfl,g3 _ _ xw.o⟩
      .have Ba:=lh (show J=_ from by rw[Kf.o]);go_wp2_with fail
       go_roundw
       case rel=>exact⟨k+1,by omega,by go_num,eg,Ba⟩
       case measure=>first|(simp[intOf];omega)|simp[intOf]
    .have h1:(I==1)=false:=by simp;omega
     have h2:(I==2)=false:=PB
     have Ba:=lh (show J=_ from by rw[rP.o,h1,h2]);have h3:decide (I=1)=false:=PB
     have h4:decide (I=2)=false:=PB
     clear wm rP;go_wp2_with fail
     refine pP.o.mono ?_;rintro e w3⟨rfl,p⟩;have F:=zT X p;clear p;go_wp2_with fail
     go_roundw
     case rel=>exact⟨k+1,by omega,by go_num,F,Ba⟩
     case measure=>first|(simp[intOf];omega)|simp[intOf]
   .have aR:k=q:=by omega
    subst aR;have m:=Gm.o;rw[List.drop_eq_nil_of_le QT,List.any_nil,Bool.false_or,AZ.o]at m;have Kg:=lh m;have CX:=lh (U.o.trans (X.o.mono U.o.size));obtain⟨f0,f1⟩:=(HS.o.bel CX.o).lf.two;clear m bX;by_cases O:c=vr
    .have hT:J=false:=by rw[Kg.o,Y5 O]
     subst O;go_wp2_with fail
     exact HKK.o _ _ hT ⟨rfl,⟨rfl,rfl,rfl,rfl,rfl,trivial⟩,rfl⟩ CX.o
    .obtain⟨fZ,kQ,ay⟩:=Zpa Kd.o HA.o O;have mf:(c==vr)=false:=by simp;exact O
     have gi:decide (c=vr)=false:=by simp;exact O
     have x8:=Zg2 (HS.o.bel CX.o).mat.heap c;obtain⟨oc,Gn⟩:=zX (s.H.outerOf c)
     rw[<-Gn]at x8 kQ ay;have Nz:=lh x8;have Gp:=lh kQ;have NB:=lh (show(oc+1).toNat<=g/\J=T2 s.H (a.nt C.N) vr g oc from⟨by have:=HG.o;omega,by rw[Kg.o,Y3 O,Gn]⟩);clear x8 kQ O Gn;go_wp2_with fail
     refine Nz.o.mono ?_;rintro e w6⟨rfl,lE⟩;rw[lE];clear lE w6;go_wp2_with fail
     go_roundw
     case rel=>exact⟨oc,g,rfl,CX,Gp,NB⟩
     case measure=>first|(simp[intOf];omega)|simp[intOf]
theorem Zgz{n:kB}{l:List kB}{sc:Int}:s.looses (n::l) sc=(s.loose sc n).looses l sc:=rfl
def Zvr(Y:EvS C M w st vr M1 W s)(ha:TreeAt W B a)(hm:a.many<=1500)(hI:Inv s (d+(zt a).length))(fr:FrA 193 (KY C w sc a []) [] A)
 (m:∀Z J M',FrA 193 (KY C w sc a []) [] Z->MAt C M' J (s.looses (a.nt C.N).vars vr)->MFr M1 M' W J->K Z J) :
 (ky [1,1,1,1,1,1,1,0]).wp Tryz.prog (Exit.then K Q) A W:=by
 rw[VY]at m;have HL:=lh (Z89 W B a ha Px);obtain⟨P,hP⟩:=zX (zt a)
 obtain⟨S,O⟩:=zX (s.looses P vr)
 rw[<-hP]at HL m hI;rw[<-O]at m;obtain⟨U,sj,HS⟩:=ds m O Y;unfold KY at fr;obtain⟨xt,rfl,e0,e2,e7,e8,gU,-⟩:=Zcj fr;rw[e0,e2,e7,e8,gU];clear e0 e2 e7 e8 gU fr;clear Y m hP O ha hm;unfold ATree.ptr at HL;conv=>arg 2;whnf
 go_wp2_with fail
 refine HL.o.mono ?_;rintro e w2⟨v2,rfl,p,X,nC⟩;obtain⟨p2,jR,rfl,dF,fQ,dc⟩:=p.form2;have gQ:∀g,(Value.slice p2 P.length jR).ownBlock=some g->g<w2.heap.size/\¬M1.has g:=λg hg=>⟨(Y9 p g hg).2,HS.o.mat.fresh (Y9 p g hg).1⟩;refine Og ?_;intro q cS ni;have eJ:=lh p;have kK:=lh gQ;rw[<-cS]at dF hI ⊢;obtain⟨gR,HQ1,aN,bW,ii⟩:=gp dc cS X (HS.o.bel X) hI;clear p X dc gQ cS HL nC hI;go_wp2_with fail
 go_loopw [100] (λi wr=>∃(k:Nat) (I:MRep) (u:MSt),k<=q/\i=(vI k)/\Hid (MAt C I wr u)/\Hid (MFr M1 I w2 wr)/\Hid (Inv u (d+(q-k)))/\Hid (S=u.looses (P.drop k) vr)) (λi _=>q-(intOf i).toNat)
 case atStart=>exact⟨0,M1,s,Yh _,rfl,lh bW.o.mat,lh (.refl _ _),ii,lh Qw⟩
 case round=>
  obtain⟨k,I,u,hk,rfl,HMk,HFk,ep,F⟩:=hrel;by_cases bX:k<q
  .obtain⟨y,hy⟩:∃y,P[k]? =some y:=⟨_,Y6 PP⟩
   obtain⟨g0,hp⟩:=gR.o k y hy;subst hp;obtain⟨mC,i'⟩:=kK.o g0 rfl;have cx:=(HFk.o.cell mC i').trans (eJ.o.cells rfl hy);obtain⟨f0,f1⟩:=(bW.o.lf.fr HFk.o).two;have eV:=Zcw HMk.o ep.o vr y;have lZ:=lh eV;have hR:=F.o;rw[show P.drop k=y::P.drop (k+1) by
    refine XQ ?_;intro hl he;rw[Yt hl,he],Zgz]at hR
   have HR:=lh hR;have jq:=Z8s (d:=d+(q-(k+1))) (sc:=vr) (name:=y) (ep.o.less Px);exact AcH
  .have aR:k=q:=by omega
   subst aR;have hR:=F.o;rw[List.drop_eq_nil_of_le Qx]at hR;have am:S=u:=hR;go_wp2_with fail
   exact U.o _ _ I ⟨rfl,⟨rfl,rfl,rfl,rfl,rfl,trivial⟩,rfl⟩ QL ((MFr.of_below aN.o).trans HFk.o)
def Zvl(X:EvS C M w st vr M1 W s)(ha:TreeAt W B a)(hf:a.free M1)(hn:a.kids.length<=1500)(hI:Inv s (d+1+a.kids.length))(Y:-1<=sc)(Z:sc<s.H.scopes.length)(fr:FrA 193 (KY C w sc a [(19,vI sc)]) [] A)
 (g:∀A' m M',FrA 193 (KY C w sc a [(19,vI (if(a.nt C.N).lets.isEmpty then sc else s.next))]) [] A'->MAt C M' m (if(a.nt C.N).lets.isEmpty then s else(s.opens sc (-1) (-3)).lets (a.nt C.N).lets s.next)->MFr M1 M' W m->K A' m) :
 (ky [1,1,1,1,1,1,1,1,1,0]).wp Tryz.prog (Exit.then K Q) A W:=by
 have HL:=lh (YU W B a ha Px);obtain⟨P,I⟩:=zX (a.kids.filter vG)
 have J:(a.nt C.N).lets=P.map (ATree.nt C.N):=by rw[I];exact Zb1
 rw[<-I]at HL;obtain⟨HS,O,HI,HN,jF⟩:=gp X (Yu ha hf) hI hn (Yu Y Z);unfold KY at fr;obtain⟨xt,rfl,e0,e2,e7,e8,gU,uh,-⟩:=Zcj fr;rw[e0,e2,e7,e8,gU,uh];clear e0 e2 e7 e8 gU uh fr;unfold ATree.ptr at HL;rcases ya:P with _|⟨y,l⟩
 .rw[J,ya]at g;simp only[List.map_nil,List.isEmpty_nil,if_true]at g;rw[ya]at HL;have HKK:=lh g;clear X ha hf hn hI Y Z g J I ya;conv=>arg 2;whnf
  go_wp2_with fail
  refine HL.o.mono ?_;rintro e w2⟨v2,rfl,p,u⟩;obtain⟨p2,jR,rfl,dF,fQ,dc⟩:=p.slice;have F:=lh u;clear p u dc;simp only[List.length_nil];go_wp2_with fail
  exact HKK.o _ _ M1 ⟨rfl,⟨rfl,rfl,rfl,rfl,rfl,rfl,trivial⟩,rfl⟩ (HS.o.mat.below F.o) (.of_below F.o)
 .have hem:(a.nt C.N).lets.isEmpty=false:=by rw[J,ya];rfl
  rw[hem]at g;simp only[Bool.false_eq_true,if_false]at g;obtain⟨q,hq⟩:=zX P.length
  have h0:decide (0<q)=true:=by rw[hq,ya];simp
  have HQ:=lh hq;obtain⟨nx,ez⟩:=zX s.next
  obtain⟨so,aU⟩:=zX (s.opens sc (-1) (-3))
  obtain⟨sl,bV⟩:=zX (so.lets (a.nt C.N).lets nx)
  rw[<-aU,<-ez,<-bV]at g;have HKK:=lh g;have eD:=λm (hB:kW W m)=>Wm (HS.o.mat.below hB) HI.o sc (-1) (-3);rw[<-aU,<-ez]at eD;have jE:=lh eD;have eE:=(HI.o.less (d':=d+a.kids.length+1) Px).opens (d:=d+a.kids.length) (outer:=sc) (object:=-1) (owner:=-3) jF.o.1 jF.o.2 Py Px;rw[<-aU]at eE;have ng:=lh eE.1;have j8:=lh bV;clear X ha hf hn hI Y Z g J I ya hem hq ez aU bV eD eE;conv=>arg 2;whnf
  go_wp2_with fail
  refine HL.o.mono ?_;rintro e w2⟨v2,rfl,p,u⟩;obtain⟨p2,jR,rfl,dF,fQ,dc⟩:=p.slice;have F:=lh u;rw[<-HQ.o];clear p u dc dF;go_wp2_with fail
  refine(jE.o _ F.o).mono ?_;rintro e w3⟨rfl,M3,dC,bg⟩;have U:=(MFr.of_below (M:=M1) F.o).trans bg;have hl:=Z84 dC (d:=d) ng.o (U.tree O.o.1 O.o.2).1 (U.tree O.o.1 O.o.2).2 QJ nx;rw[<-j8.o]at hl;have bK:=lh U;have oR:=lh hl;simp only[ATree.ptr]at oR;clear dC bg U hl;go_wp2_with fail
  refine oR.o.mono ?_;rintro e w4⟨rfl,M4,fC,be⟩;have iZ:=lh fC;have ko:=lh (bK.o.trans be);exact Zwv
def U8(vr:Int)(s:MSt)(t:kB)(v:LVal):MSt:=if 0<=s.H.objectOf vr then s.put (s.H.objectOf vr) t v false else s.write vr t v
def Zkx{t:kB}{v:LVal}(hi:Inv s (d+1))(g:v.ok s.H.objects.length):Inv (U8 vr s t v) d/\Ext s (U8 vr s t v):=by
 unfold U8;split;·exact Ez hi g
 .exact Z87 hi g
def Zpi(hC:C.Ok)(hS:EvS C M w st vr M1 W s)(ha:TreeAt W B a)(hf:a.free M1)(iS:(a.nt C.N).stm/\(a.nt C.N).tree.many<=1500)(hn:a.kids.length<=1500){ju:Int}
 (hI:Inv s (d+6*(a.nt C.N).funcs.length))(h0:0<=ju)(h1:ju<s.H.scopes.length)(fr:FrA 193 (KY C w sc a [(19,vI ju)]) [] A)
 (HK:∀A' p M',FrA 193 (KY C w sc a [(19,vI ju)]) [] A'->MAt C M' p (s.funcs (λs t=>s.loose vr t) (U8 vr) (a.nt C.N).funcs ju ⟨st,vr⟩)->MFr M1 M' W p->K A' p)(hQ:∀c a d v w,Q (.panic c) (Act.put a d v) w->Q (.panic c) a w) :
 (ky [1,1,1,1,1,1,1,1,1,1,0]).wp Tryz.prog (Exit.then K Q) A W:=by
 have iI:=V1 iS.1 iS.2;rw[ZS]at HK hI iI;have HL:=lh (YN W B a ha Px);obtain⟨P,hP⟩:=zX (a.kids.filter xk)
 rw[<-hP]at HL HK hI iI;refine Zrd ?_;intro nj;have vJ:P.length<=1500:=Qo
 obtain⟨S,mR⟩:=zX (s.funcs (λs t=>s.loose vr t) (U8 vr) (P.map (ATree.nt C.N)) ju ⟨st,vr⟩)
 rw[<-mR]at HK;rw[Ym]at hI;refine Zsm ?_;intro nY;obtain⟨qy,HO,U,HKK,fA,xN,sj,j9,HI⟩:=ld hC (Y4 hS.mat.old.size (Y0 _)) (Yu ha hf) HK hQ hS mR (Yu h0 h1) hI;unfold KY at fr;obtain⟨xt,rfl,e0,e2,e7,e8,gU,uh,-⟩:=Zcj fr;rw[e0,e2,e7,e8,gU,uh];clear e0 e2 e7 e8 gU uh fr;clear hC hS ha hf HK hP mR hI h0 h1 iS iI hQ;unfold ATree.ptr at HL;conv=>arg 2;whnf
 go_wp2_with fail
 refine HL.o.mono ?_;rintro e w5⟨v5,rfl,hZ,eM⟩;obtain⟨p5,rc,rfl,jh,mP,gC⟩:=hZ.slice;have gB:∀g,(Value.slice p5 P.length rc).ownBlock=some g->¬M1.has g:=λg hg=>xN.o.mat.fresh (Y9 hZ g hg).1;obtain⟨m,eT⟩:=zX P.length
 rw[<-eT]at jh hZ gB ⊢;have gI:=lh eM;have lx:=lh (xN.o.bel eM);refine Zw9 ?_;intro N5 kK io HQ1 kY;clear hZ eM gC gB eT HL;go_wp2_with fail
 go_loopw [125] (λi wr=>∃(k:Nat) (X:MRep) (J:MSt),k<=m/\i=(vI k)/\Hid (MAt C X wr J)/\Hid (MFr M1 X w5 wr)/\Hid (Inv J (d+6*(m-k)))/\Hid (Ext s J)/\Hid (S=J.funcs (λs t=>s.loose vr t) (U8 vr) ((P.drop k).map (ATree.nt C.N)) ju ⟨st,vr⟩)) (λi _=>m-(intOf i).toNat)
 case atStart=>exact⟨0,M1,s,Yh _,rfl,lh lx.o.mat,lh (.refl _ _),lh (HI.o.less RO),lh (Ext.refl _),lh Qw⟩
 case round=>
  obtain⟨k,X,J,hk,rfl,HMk,HFk,ep,dG,HRk⟩:=hrel;by_cases bX:k<m
  .obtain⟨y,hy⟩:∃y,P[k]? =some y:=⟨_,Y6 PP⟩
   obtain⟨g0,hp⟩:=io.o k y hy;subst hp;refine Zwh ?_;intro aT bJ cx HFz;have nM:=ep.o.less (d':=d+6*(m-(k+1))+6) Px;have ic:0<=ju/\ju<J.H.scopes.length:=⟨j9.o.1,by have h1:=j9.o.2;have h3:=dG.o.ls;omega⟩
   obtain⟨s1,aF⟩:=zX (J.loose vr y.text)
   have gz:=Zcw HMk.o.drew ep.o vr y.text;have Y:=Z8s (d:=d+6*(m-(k+1))+5) (sc:=vr) (name:=y.text) nM;rw[<-aF]at gz Y;have Kh:=lh gz;have ah:ju<s1.H.scopes.length:=by have:=Y.2.ls;omega
   have gG:=λ(p:kV) (M':MRep) (h:MAt C M' p s1) (f:MFr M1 M' W p)=>Z32 qy.o h (d:=d+6*(m-(k+1))+1) (Y.1.less Px) ((f.tree U.o.1 U.o.2).1.kid bJ) ((f.tree U.o.1 U.o.2).2.kid bJ) (nY.o y aT) ju ⟨st,vr⟩ ic.1 ah;obtain⟨u,dO⟩:=zX s1.nextO
   obtain⟨sf,jj⟩:=zX (s1.funS (y.nt C.N) ju ⟨st,vr⟩)
   rw[<-dO,<-jj]at gG;have iz:=lh gG;simp only[ATree.ptr]at iz;obtain⟨j1,j2,j3⟩:=Z74 (d:=d+6*(m-(k+1))+1) (n:=y.nt C.N) (sc:=ju) (fr:=⟨st,vr⟩) (Y.1.less Px) (nY.o y aT) ic.1 ah;rw[<-jj]at j1 j2 j3;have jY:(LVal.ref u).ok sf.H.objects.length:=Te (by rw[dO];show(0:Int)<=s1.H.objects.length;omega) (by rw[j3,dO];show(s1.H.objects.length:Int)<_;omega);obtain⟨sb,aK⟩:=zX (U8 vr sf y.text (.ref u))
   have ei:=Zkx (d:=d+6*(m-(k+1))) (vr:=vr) (t:=y.text) (v:=.ref u) j1 jY;rw[<-aK]at ei;have Z:=HRk.o;rw[show P.drop k=y::P.drop (k+1) by
    refine XQ ?_;intro hl he;rw[Yt hl,he],List.map_cons,Z76,rH,<-aF,<-jj,<-dO,<-aK]at Z
   obtain⟨bA,HJ,ti,tj,cE⟩:=gp Z j1 ei.1 (((dG.o.trans Y.2).trans j2).trans ei.2) aK
   have AI:=lh (show∀p M',MFr X M' wr p->vC p w.heap.size 1 (vI vr)/\vC p y.b 1 (.string y.text)from
    λp M' f=>⟨((lx.o.lf.fr HFk.o).fr f).cell rfl,((HFz.o.trans f).tree U.o.1 U.o.2).1.kid bJ|>.c1⟩)
   clear nM ic gz Y ah gG dO jj j1 j2 j3 jY aK ei Z hy aF aT;go_wp2_with fail
   refine Z9 [(true,0),(true,1),(true,2),(true,3),(true,4),(true,5),(true,6)] [7] (λW=>vC W w.heap.size 1 (vI vr)/\vC W y.b 1 (.string y.text)) Pz Pz (λc a d v w h=>fA.o c a d v w h) (AI.o _ _ (.drew (.refl _ _))) (λbq=>?_);refine oK ?_;refine Z0 ?_;go_wp2_with fail
   refine Kh.o.mono ?_;rintro e W1⟨rfl,Ma,nP,iE⟩;have F1:=(MFr.drew (.refl X wr)).trans iE;have CU:=lh nP;have dW:=lh F1;obtain⟨f0,f1⟩:=((lx.o.lf.fr HFk.o).fr F1).two;have CZ:=lh (iz.o _ _ nP (HFz.o.trans F1));clear nP iE F1 iz Kh cx;go_wp2_with fail
   refine CZ.o.mono ?_;rintro e W2⟨rfl,Mb,xZ,ug⟩;have F:=Lo.new (wE:=W) xZ (Y4 HFz.o.size (Y4 dW.o.size ug.size)) HO.o #[vI 5,vI u,.string ⟨#[]⟩] 56;have O:=Z1 W2 (.cells #[vI 5,vI u,.string ⟨#[]⟩] 56);obtain⟨gS,bR,ba⟩:=ds F (xZ.below O) (dW.o.trans (ug.trans (.of_below O)));clear xZ ug F O f0 f1 CZ CU;go_wp2_with fail
   have F:=gS.o;have aM:=bR.o;have ap:=ba.o;clear gS bR ba;generalize W2.alloc (.cells #[vI 5,vI u,.string ⟨#[]⟩] 56)=W3 at F aM ap ⊢;generalize W2.heap.size=I at F aM ap ⊢;have dE:=lh aM;have bK:=lh (HFk.o.trans ap)
   have nN:=lh (show∀p M',MFr Mb M' W3 p->vC p y.b 1 (.string y.text)/\vC p I 0 (vI 5)/\vC p I 1 (vI u)/\vC p I 2 (.string ⟨#[]⟩)from
    λp M' f=>⟨(AI.o _ _ (ap.trans f)).2,(F.fr f).cell rfl,(F.fr f).cell rfl,(F.fr f).cell rfl⟩)
   have C0:=lh (show∀p M',MFr Mb M' W3 p->vC p w.heap.size 1 (vI vr)from λp M' f=>(AI.o _ _ (ap.trans f)).1);have xR:=Z6o dE.o.drew.heap vr;obtain⟨oo,ws⟩:=zX (sf.H.objectOf vr)
   rw[<-ws]at xR;have NC:=lh xR;have CG:=lh ws;clear F aM ap xR ws;refine Z9 [(true,0),(true,1),(true,2),(true,3),(true,4)] [5,6] (λW=>vC W w.heap.size 1 (vI vr)) Pz Pz (λc a d v w h=>fA.o c a d v w h) (C0.o _ _ (.drew (.refl _ _))) (λbq=>?_);refine oK ?_;refine Z0 ?_;go_wp2_with fail
   refine NC.o.mono ?_;rintro e W4⟨rfl,Ki⟩;rw[Ki];clear Ki W4;by_cases ho:0<=oo
   .have hpt:=B7 dE.o.drew.drew HJ.o oo y.text (.ref u) false;have qH:sf.put oo y.text (.ref u) false=sb:=by rw[cE.o];unfold U8;rw[<-CG.o,Y5 ho]
    rw[qH]at hpt;simp only[LVal.agg,LVal.ref]at hpt;have kp:=lh hpt;clear hpt qH;go_wp2_with fail
    refine Z9 [(true,0),(true,1),(true,2),(true,3),(true,4),(true,5),(true,6),(true,7),(true,8)] [9] (λW=>vC W y.b 1 (.string y.text)/\vC W I 0 (vI 5)/\vC W I 1 (vI u)/\vC W I 2 (.string ⟨#[]⟩)) Pz Pz (λc a d v w h=>fA.o c a d v w h) (nN.o _ _ ((MFr.drew (.refl _ _)).trans (.drew (.refl _ _)))) (λbq=>?_);exact AaW
   .have hpt:=Zf0 dE.o.drew.drew HJ.o vr y.text (.ref u);have qH:sf.write vr y.text (.ref u)=sb:=by rw[cE.o];unfold U8;rw[<-CG.o,Y3 ho]
    rw[qH]at hpt;simp only[LVal.agg,LVal.ref]at hpt;have kp:=lh hpt;clear hpt qH;go_wp2_with fail
    refine Z9 [(true,0),(true,1),(true,2),(true,3),(true,4),(true,5),(true,6),(true,7),(true,8),(true,9)] [10] (λW=>vC W w.heap.size 1 (vI vr)/\vC W y.b 1 (.string y.text)/\vC W I 0 (vI 5)/\vC W I 1 (vI u)/\vC W I 2 (.string ⟨#[]⟩)) Pz Pz (λc a d v w h=>fA.o c a d v w h) (⟨C0.o _ _ ((MFr.drew (.refl _ _)).trans (.drew (.refl _ _))),nN.o _ _ ((MFr.drew (.refl _ _)).trans (.drew (.refl _ _)))⟩) (λbq=>?_)
    exact AaW
  .have aR:k=m:=by omega
   subst aR;have Z:=HRk.o;rw[List.drop_eq_nil_of_le Qx]at Z;have am:S=J:=Z;go_wp2_with fail
   exact HKK.o _ _ X ⟨rfl,⟨rfl,rfl,rfl,rfl,rfl,rfl,trivial⟩,rfl⟩ QL ((MFr.of_below gI.o).trans HFk.o)
end
section
variable {C:RCtx}{M M1:MRep}{w W:kV}{s:MSt}{B:Nat}{a:ATree}{sc vr:Int}{st:Bool}{d:Nat}{D:DF}{b ju:Int}{A:Act}{K:Act->kV->Prop}{Q:Exit->Act->kV->Prop}
def evR(r:MSt×Except Er (Bool×LVal)):MSt×Except Er LVal:=match r with
 |(g,.ok _)=>(g,.ok g.last)
 |(g,.error e)=>(g,.error e)
def Zu2(cT:G8 C D b)(hD:DH D b)(g:EvS C M w st vr M1 W s)(ha:TreeAt W B a)(hf:a.free M1)(hst:(a.nt C.N).stm)(hm:(a.nt C.N).tree.many<=1500)(hn:a.kids.length<=1500){m:MSt}(gL:m={s with last:=LVal.zero})
 (hI:Inv m d)(hA:FAt m ju ⟨st,vr⟩)(hb:b<=m.steps)(hs:m.steps<=20000)(fr:FrA 193 (KY C w sc a [(19,vI ju)]) [] A)
 (Z:∀y a' w',(results f145 a'.tmps).run Tryz.prog w'=.ok y w'->a'.defers=[]->cK C M w (evR (oB D ju ⟨st,vr⟩ (a.nt C.N).kids m)) (.returned y) w'->Q .ret a' w')(hQ:∀c a d v w,Q (.panic c) (Act.put a d v) w->Q (.panic c) a w) :
 (ky [1,1,1,1,1,1,1,1,1,1,1]).wp Tryz.prog Q A W:=by
 obtain⟨pb,cb,O,bU,ej,cU⟩:=ll.slice ha.rowOf;obtain⟨qb,mt⟩:=zX a.kids.length
 rw[<-mt]at O;obtain⟨r,hr⟩:=zX (oB D ju ⟨st,vr⟩ (a.nt C.N).kids m)
 rw[<-hr]at Z;rw[Zu,AC]at hr;have ao:=X8 hst hm;refine Zyf ?_;intro bD;obtain⟨p,u⟩:=Zd5 g.mat LVal.zero;rw[<-gL]at p;simp only[LVal.zero]at p u;have AO:=g.mat.cell 14 (vI s.last.kind) PI;have AP:=g.mat.cell 15 (vI s.last.n) PI;have AQ:=g.mat.cell 16 (.string s.last.s) PI;have CO:=g.mat.fz 14;have CQ:=g.mat.fz 15;have CR:=g.mat.fz 16
 obtain⟨W1,ui⟩:=zX (((W.setCell ⟨C.mb,14,none⟩ (vI 0)).setCell ⟨C.mb,15,none⟩ (vI 0)).setCell ⟨C.mb,16,none⟩ (.string ⟨#[]⟩))
 rw[<-ui]at p u;have U:=g.step p u;obtain⟨Gq,tD⟩:=u.tree ha hf;have HC:=lh (Calls.dres (Z5c (fr:=⟨st,vr⟩) cT hD p.drew hI hA hb hs Gq.drew tD hn bD));rw[O,<-hr]at HC
 have C1:=lh (show∀F M',MFr M1 M' W1 F->vC F w.heap.size 0 (.bool st)/\vC F w.heap.size 1 (vI vr)/\vC F a.b 3 (.slice pb qb cb)from
  λF M' f=>⟨(U.lf.fr f).cell rfl,(U.lf.fr f).cell rfl,by have:=(f.tree Gq tD).1.c3;rwa[O]at this⟩)
 obtain⟨dp,fd,fA,mB⟩:=en U Z hQ ui;unfold KY at fr;obtain⟨xt,rfl,e0,e2,e7,e8,gU,uh,-⟩:=Zcj fr;rw[e0,e2,e7,e8,gU,uh];clear e0 e2 e7 e8 gU uh fr;clear cT hD g ha hf hst hm hn gL hI hA hb hs Z hQ O bU ej cU mt hr ao bD p u ui U Gq tD;conv=>arg 2;whnf
 go_wp2_with fail
 rw[<-mB.o];clear AO AP AQ CO CQ CR;refine Z9 [(true,0),(true,1),(true,2),(true,3),(true,4),(true,5),(true,6),(false,7),(true,8),(true,9),(true,10),(true,11)] [12] (λW=>vC W w.heap.size 0 (.bool st)/\vC W w.heap.size 1 (vI vr)/\vC W a.b 3 (.slice pb qb cb)) Pz Pz (λc a d v w h=>fA.o c a d v w h) (C1.o _ _ (.drew (.refl _ _))) (λbq=>?_);refine f8 ?_;intro K hK;refine HC.o.mono ?_;rintro e W2⟨M2,b2,k2,n2,t2,nK,rfl,hr2⟩
 have F2:=(MFr.drew (.refl M1 W1)).trans hr2.2.1;refine hK _ _ (C1.o _ _ F2) ?_;clear hK K;have bA:=lh hr2;have X:=lh (dp.o.step hr2.1 F2);have AO:=hr2.1.cell 14 (vI r.1.last.kind) PI;have AP:=hr2.1.cell 15 (vI r.1.last.n) PI;have AQ:=hr2.1.cell 16 (.string r.1.last.s) PI;obtain⟨q0,q1,q2,z0,z1,z2⟩:=X.o.lr.six;clear hr2 F2 HC;refine B' ?_;obtain⟨I,fj⟩:=zX r.1.last.kind
 obtain⟨J,ia⟩:=zX r.1.last.n
 obtain⟨lt,ay⟩:=zX r.1.last.s
 rw[<-fj]at AO;rw[<-ia]at AP;rw[<-ay]at AQ;have ND:=lh (show r.1.last=⟨I,J,lt⟩ by rw[fj,ia,ay]);clear fj ia ay;go_wp2_with fail
 refine fd.o (.tuple #[.agg #[vI I,vI J,.string lt],nK]) _ _ ?_ rfl ?_;·exact ZQ
 .obtain⟨g1,g2,g3⟩:=X.o.lr.ret (x':=(vI I)) (y':=(vI J)) (z':=.string lt) X.o.mat X.o.fr;have h3:=bA.o.2.2;obtain⟨Y,q9⟩:=r;cases q9 with
  |error x9=>exact⟨M2,g1,g2,⟨I,J,lt⟩,nK,rfl,g3 _ _ h3⟩
  |ok v9=>
    obtain⟨-,rfl⟩:=h3;refine⟨M2,g1,g2,?_⟩;show _=Ending.returned (.tuple #[.agg #[vI Y.last.kind,vI Y.last.n,.string Y.last.s],.nilIface]);rw[show Y.last=⟨I,J,lt⟩from ND.o]
end
section
variable {C:RCtx}{M M1:MRep}{w W:kV}{s:MSt}{B:Nat}{a:ATree}{sc vr:Int}{st:Bool}{d:Nat}{D:DF}{b:Int}{A:Act}{K:Act->kV->Prop}{Q:Exit->Act->kV->Prop}
theorem Zoq:ky [1,1,1,1,1,1,1]=Code.seq (ky [1,1,1,1,1,1,1,0]) (Code.seq (ky [1,1,1,1,1,1,1,1,0]) (Code.seq (ky [1,1,1,1,1,1,1,1,1,0]) (Code.seq (ky [1,1,1,1,1,1,1,1,1,1,0]) (ky [1,1,1,1,1,1,1,1,1,1,1])))):=by kernel_rfl
def Zhi:∀(l:List kB) (u:MSt),(u.looses l vr).next=u.next:=by
 have g:∀(l:List kB) (u:MSt),(u.looses l vr).H.scopes.length=u.H.scopes.length:=by
  intro l;induction l with
  |nil=>intro u;rfl
  |cons x l m=>
    intro u;refine(m (u.loose vr x)).trans ?_;exact Zzf
 intro l u;unfold MSt.next;rw[g]
def Zot{D:DF}{n:NT}{sc:Int}{fr:Frm}:Uk D n sc fr s=evR (oB D (if n.lets.isEmpty then sc else s.next) fr n.kids (s.evalS n sc fr)):=by
 unfold Uk evR;rcases oB D (if n.lets.isEmpty then sc else s.next) fr n.kids (s.evalS n sc fr)with⟨g,e|v⟩<;>rfl
def Zpq(fr:FrA 193 (KY C w sc a []) [] A)(m:∀p,FrA 193 (KY C w sc a [(19,vI sc)]) [] p->K p W):(ky [1,1,1,1,1,1,1,1,0]).wp Tryz.prog (Exit.then K Q) A W:=by
 have g:=lh m;unfold KY at fr;obtain⟨J,rfl,u,y,F,G,I,-⟩:=Zcj fr;rw[u,y,F,G,I];clear u y F G I fr;clear m;conv=>arg 2;whnf
 go_wp2_with fail
 exact g.o _ ⟨rfl,⟨rfl,rfl,rfl,rfl,rfl,rfl,trivial⟩,rfl⟩
def Zlp(hC:C.Ok)(cT:G8 C D b)(hD:DH D b)(Z:EvS C M w st vr M1 W s)(ha:TreeAt W B a)(hf:a.free M1)(hst:(a.nt C.N).stm)(hm:(a.nt C.N).tree.many<=1500)
 (hI:Inv s (d+13600))(hA:FAt s sc ⟨st,vr⟩)(hb:b<=s.steps)(hs:s.steps<=20000)(fr:FrA 193 (KY C w sc a []) [] A)
 (HR:∀y a' w',(results f145 a'.tmps).run Tryz.prog w'=.ok y w'->a'.defers=[]->cK C M w (Uk D (a.nt C.N) sc ⟨st,vr⟩ s) (.returned y) w'->Q .ret a' w')(hQ:∀c a d v w,Q (.panic c) (Act.put a d v) w->Q (.panic c) a w) :
 (ky [1,1,1,1,1,1,1]).wp Tryz.prog Q A W:=by
 have dw:(a.nt C.N).tree.many=a.many:=by rw[VZ];exact Vi a
 have O:a.kids.length<=1500:=Qf
 have dr:(zt a).length<=1500:=by have:=Z7y (n:=a.nt C.N);rw[VY]at this;omega
 have qG:(a.nt C.N).funcs.length<=1500:=by have:=Z6w (n:=a.nt C.N);have:=SP (n:=a.nt C.N);omega
 have nD:(a.nt C.N).lets.length<=1500:=by have:=Z70 (n:=a.nt C.N);have:=SP (n:=a.nt C.N);omega
 obtain⟨s1,I⟩:=zX (s.looses (a.nt C.N).vars vr)
 have J:s1.next=s.next:=by rw[I];exact Zhi _ _
 obtain⟨ju,m⟩:=zX ((if(a.nt C.N).lets.isEmpty then sc else s.next))
 obtain⟨U,X⟩:=zX ((if(a.nt C.N).lets.isEmpty then s1 else(s1.opens sc (-1) (-3)).lets (a.nt C.N).lets s1.next))
 obtain⟨s3,cF⟩:=zX (U.funcs (λs t=>s.loose vr t) (U8 vr) (a.nt C.N).funcs ju ⟨st,vr⟩)
 obtain⟨p,gL⟩:∃p:MSt,p={s3 with last:=LVal.zero}:=⟨_,rfl⟩
 have hE:s.evalS (a.nt C.N) sc ⟨st,vr⟩=p:=by
  rw[gL,cF,m,<-J,X,I];rfl
 have an:=Zot (D:=D) (n:=a.nt C.N) (sc:=sc) (fr:=⟨st,vr⟩) (s:=s);rw[hE,<-m]at an;rw[an]at HR;obtain⟨t1,t2,t3⟩:=Zfv hI hA hst hm;obtain⟨u1,u2⟩:=Zc6 (s:=s) (n:=a.nt C.N) (sc:=sc) (fr:=⟨st,vr⟩);rw[hE]at t1 t2 t3 u1 u2;rw[<-m]at t3;have u:=Zcq (l:=(a.nt C.N).vars) (sc:=vr) (d:=d+12100) (s:=s) (hI.less (by rw[VY];omega));rw[<-I]at u;have g:=hA.ext u.2;have i2:Inv U (d+9000)/\0<=ju/\ju<U.H.scopes.length:=by
  rw[X,m];cases hem:(a.nt C.N).lets.isEmpty with
  |true=>exact⟨u.1.less Px,g.lo,g.hi⟩
  |false=>
    simp only[Bool.false_eq_true,if_false];obtain⟨b1,b2⟩:=u.1.opens (d:=d+12099) (outer:=sc) (object:=-1) (owner:=-3) (by have:=g.lo;omega) g.hi Py Px;obtain⟨c1,c2⟩:=VO (l:=(a.nt C.N).lets) (sc:=s1.next) (d:=d+10599) (b1.less Px);have Y:=(g.opens b2).ext c2;rw[J]at Y;exact⟨c1.less Px,Y.lo,by rw[J];exact Y.hi⟩
 have F:b<=p.steps/\p.steps<=20000:=Px
 rw[Zoq];refine po ?_;intro K HK;refine Zvr (d:=d+12100) Z ha Px (hI.less Px) fr (λA3 W3 M3 ue dC bg=>?_);rw[<-I]at dC;have wg:=Z.step dC bg;obtain⟨Kj,xf⟩:=bg.tree ha hf;refine HK.o _ _ ?_;clear HK K;refine po ?_;intro K HK;refine Zpq ue (λA4 uf=>?_);refine HK.o _ _ ?_;clear HK K;refine po ?_;intro K HK;refine Zvl (d:=d+10000) wg Kj xf O (u.1.less Px) (by have:=g.lo;omega) g.hi uf (λA5 W5 M5 AV l9 eN=>?_);rw[<-X]at l9;rw[J,<-m]at AV;have Kk:=wg.step l9 eN
 obtain⟨Kl,Km⟩:=eN.tree Kj xf;refine HK.o _ _ ?_;clear HK K;refine po ?_;intro K HK;refine Zpi (d:=d) hC Kk Kl Km ⟨hst,hm⟩ O (i2.1.less Px) i2.2.1 i2.2.2 AV (λA6 W6 M6 AW rE fB=>?_) hQ;rw[<-cF]at rE;have NF:=Kk.step rE fB;obtain⟨NG,NH⟩:=fB.tree Kl Km;refine HK.o _ _ ?_;clear HK K;exact Zu2 (d:=d) cT hD NF NG NH hst hm O gL t1 t3 F.1 F.2 AW HR hQ
end
structure Ar(k:Int)(n:Nat):Prop where
 call:k=35->n≠0
 two:k=9\/k=8\/k=24\/k=5\/k=37->n=2
 if':k=7->n=2\/n=3
 one:k=13\/k=34->n=1
theorem Ar.any{k:Int}{n:Nat}(h:k≠35/\k≠9/\k≠8/\k≠24/\k≠5/\k≠37/\k≠7/\k≠13/\k≠34):Ar k n:=⟨by omega,by omega,by omega,by omega⟩
mutual
def WT:Tree->Prop
 | .mk k _ _ l=>Ar k l.length/\WTL l
def WTL:List Tree->Prop
 | []=>True
 |t::l=>WT t/\WTL l
end
def WA(a:ATree):Prop:=∀x∈a.subs,Ar x.kind x.kids.length
theorem WA.kid{a k:ATree}(h:WA a)(hk:k∈a.kids):WA k:=λx hx=>h x (Zd9 hk hx)
theorem WA.self{a:ATree}(h:WA a):Ar a.kind a.kids.length:=h a (Z8n a)
mutual
theorem Zva:∀(a:ATree),WT a.tree->WA a
 | .mk b v k t n g,h=>by
   intro x hx;simp only[ATree.tree,WT]at h;simp only[ATree.subs,List.mem_cons]at hx;rcases hx with rfl|hx
   .simp only[ATree.kind,ATree.kids];have:=h.1;rw[Z9z,Ym]at this;exact this
   .exact Zsa g h.2 x hx
theorem Zsa:∀(l:List ATree),WTL (f6 l)->∀x∈lw l,Ar x.kind x.kids.length
 | [],_,x,hx=>by simp[lw]at hx
 |a::l,h,x,hx=>by
   simp only[f6,WTL]at h;simp only[lw,List.mem_append]at hx;rcases hx with hx|hx;·exact Zva a h.1 x hx
   .exact Zsa l h.2 x hx
end
def Zx3{l:List ATree}(h:l.length=2):∃x y,l=[x,y]:=by
 match l,h with
 | [x,y],_=>exact⟨x,y,rfl⟩
def Zy4(B m:Nat):Prop:=
 ∀ (a : ATree) (w : kV) (st ins : Bool), a.many ≤ m → WA a → a.many < 274877906944 → TreeAt w B a →
   kC 72 #[.agg #[.bool st,.bool ins],a.ptr] w λe w'=>e=.returned (vI (mK a st ins))/\kW w w'
def Ub(B m:Nat):Prop:=
 ∀ (a : ATree) (w : kV) (st ins : Bool), a.many ≤ m + 1 → (∀ k ∈ a.kids, WA k) → a.many < 274877906944 → TreeAt w B a →
   kC 32 #[.agg #[.bool st,.bool ins],a.ptr] w λe w'=>e=.returned (vI (ov a.kids st ins))/\kW w w'
def Zjw{l:List ATree}{k:Nat}{x:ATree}{st ins:Bool}(h:l[k]?=some x):ov (l.drop k) st ins=if mK x st ins≠0 then mK x st ins else ov (l.drop (k+1)) st ins:=by
 obtain⟨hk,he⟩:=List.getElem?_eq_some_iff.1 h;rw[Yt hk,he];rfl
def Zik{B m:Nat}(hN:Zy4 B m):Ub B m:=by
 intro a w st ins hm hA eP hT;obtain⟨p,cp,hv,bU,ej⟩:=hT.vOf;refine Xr ?_;intro c3 aE;have eh:kW w (w.alloc (.cells #[.bool st,.bool ins] 89)):=(Y2 _ _).alloc (Y0 _) _;have rs:(w.alloc (.cells #[.bool st,.bool ins] 89)).cell? ⟨a.b,3,none⟩=some (.slice p a.kids.length cp):=(Zc hT.lt).trans c3;have J:(w.alloc (.cells #[.bool st,.bool ins] 89)).cell? ⟨w.heap.size,0,none⟩=some (.bool st):=PE
 have O:(w.alloc (.cells #[.bool st,.bool ins] 89)).cell? ⟨w.heap.size,1,none⟩=some (.bool ins):=PE
 have U:(w.alloc (.cells #[.bool st,.bool ins] 89)).heap.size=w.heap.size+1:=PE
 have HN:=lh (λ(x:ATree) (hx:x∈a.kids) (W:kV) (h:TreeAt W B x)=>hN x W st ins (by have:=XR hx;omega) (hA x hx) (by have:=XR hx;omega) h);obtain⟨HT,tR,HV⟩:=ds hT eh hv;obtain⟨n,X⟩:=zX a.kids.length
 rw[<-X]at c3 rs aE bU;have Y:=lh X;obtain⟨R,Z⟩:=zX (ov a.kids st ins)
 rw[<-Z];have HR:=lh Z;obtain⟨w1,dD⟩:=zX (w.alloc (.cells #[.bool st,.bool ins] 89))
 have mB:=lh dD;rw[<-dD]at U J O;obtain⟨xq,D0,D1⟩:=ds U J O;clear hN hA hT hm eP eh hv X Z dD U J O;unfold ATree.ptr;go_enter func32,ntmps32
 go_wp2_with fail
 go_loopw [15] (λi wr=>∃(k:Nat),k<=n/\i=(vI k)/\Hid (kW w1 wr)/\Hid (ov (a.kids.drop k) st ins=R)) (λi _=>n-(intOf i).toNat)
 case atStart=>exact⟨0,Yh _,rfl,lh (by rw[mB.o];exact Y2 _ _),lh HR.o.symm⟩
 case round=>
  obtain⟨k,hk,rfl,u,fd⟩:=hrel;have e0:vC wr w.heap.size 0 (.bool st):=(Yb (u.o.block w.heap.size (by rw[xq.o];omega))).trans D0.o;have e1:vC wr w.heap.size 1 (.bool ins):=(Yb (u.o.block w.heap.size (by rw[xq.o];omega))).trans D1.o;have fc:Hid (kW w wr):=lh (by
   have h1:=tR.o;rw[<-mB.o]at h1;exact h1.trans (u.o.mono h1.size))
  by_cases bX:k<n
  .obtain⟨x,hx⟩:∃x,a.kids[k]? =some x:=⟨_,Y6 (by rw[<-Y.o];exact bX)⟩
   have eB:TreeAt wr B a:=HT.o.bel fc.o;have ae:=eB.rowOf;rcases Z4 ae with⟨_,h2⟩|⟨g0,gA,gm,_⟩;·rw[<-Y.o]at h2;omega
   have hp:p=some ⟨g0,0,none⟩:=by
    exact Uu
   subst hp;refine SE ?_;intro cx;have aT:x∈a.kids:=Yd hx;have y:=HN.o x aT wr (eB.kid aT);have F:=Zjw (st:=st) (ins:=ins) hx;rw[fd.o]at F;obtain⟨r,hr⟩:=zX (mK x st ins)
   rw[<-hr]at y F;unfold ATree.ptr at cx y;have dN:=lh y;have ff:=lh F;clear eB ae gm hx y aT F hr;go_wp2_with fail
   refine dN.o.mono ?_;rintro e w2⟨rfl,aA⟩;have yb:w1.heap.size<=wr.heap.size:=u.o.size;have aN:=lh (u.o.trans (aA.mono yb));have sS:=zT fc aA;clear aA dN;by_cases I:r=0
   .subst I;go_wp2;go_roundw
    case rel=>
     have h1:=ff.o;simp only[ne_eq,not_true_eq_false,if_false]at h1;exact⟨k+1,by omega,by go_num,aN,lh h1.symm⟩
    case measure=>simp[intOf];omega
   .have n0:(r !=0)=true:=by simpa using I
    have HZ:=lh I;clear I;go_wp2;go_ret;refine⟨?_,sS.o⟩;have h1:=ff.o;rw[Y5 HZ.o]at h1;rw[h1];rfl
  .have aR:k=n:=by omega
   subst aR;go_wp2;go_ret;refine⟨?_,fc.o⟩;have h1:=fd.o;rw[List.drop_of_length_le (by rw[<-Y.o];exact Y0 _)]at h1;rw[<-h1];rfl
