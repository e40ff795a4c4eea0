import Derived.Test.YtkjdnecemhilpaaGreatDoorJ24
set_option maxRecDepth 100000
set_option maxHeartbeats 20000000
set_option linter.all false
namespace Go.Proofs.YtkjdnecemhilpaaGreatDoor
open Go Go.RowKit Go.Proofs.Tryz Tryz
section
variable {C:RCtx}{M M1:MRep}{w z W:kV}{s:MSt}{B:Nat}{x:CloR}{pn bd:ATree}{v:Value}{vs:List LVal}{nx:Int}{d:Nat}{A:Act}{K:Act->kV->Prop}{Q:Exit->Act->kV->Prop}
def Zo6(hc:EnC C M w z x pn bd B v vs)(hM:MAt C M1 W s)(hF:MFr M M1 z W)(iY:(bd.nt C.N).stm/\(bd.nt C.N).tree.many<=1500)(hn:bd.kids.length<=1500){fb:Nat}{wF:kV}{st:Bool}(lf:Lo C M1 wF W fb #[.bool st,vI nx] 78)
 (hI:Inv s (d+6*(bd.nt C.N).funcs.length))(h0:0<=nx)(h1:nx<s.H.scopes.length)(fr:FrA 240 (ua C w v nx bd [(21,vP fb)]) [] A)
 (O:∀A' u M',FrA 240 (ua C w v nx bd [(21,vP fb)]) [] A'->MAt C M' u (s.funcs (λs _=>s) (λt a v=>t.bindTo nx a v) (bd.nt C.N).funcs nx ⟨st,nx⟩)->MFr M1 M' W u->K A' u)(hQ:∀c a d v w,Q (.panic c) (Act.put a d v) w->Q (.panic c) a w) :
 (i' [1,1,1,1,1,1,1,1,1,1,1,0]).wp Tryz.prog (Exit.then K Q) A W:=by
 have iM:=Wq iY.1 iY.2;rw[YX]at O hI iM;have cQ:=hc.bdT;have cO:=hF.tree cQ.1 cQ.2;have HL:=lh (ZZ W B bd cO.1 Qe);obtain⟨P,hP⟩:=zX (bd.kids.filter xp)
 rw[<-hP]at HL O hI iM;refine Zst ?_;intro nr;have vX:P.length<=1500:=QU
 obtain⟨S,hS⟩:=zX (s.funcs (λs _=>s) (λt a v=>t.bindTo nx a v) (P.map (ATree.nt C.N)) nx ⟨st,nx⟩)
 rw[<-hS]at O;rw[Ym]at hI;refine Zsd ?_;intro nZ;obtain⟨qA,HO,Y,HKK,fE,HM,dC,HS,jR,HI⟩:=mR hc.ok (Y4 (Y4 hc.old hc.below.size) hF.size) cO O hQ hM lf hS (Yu h0 h1) hI;unfold ua at fr;obtain⟨pv,nv,cv,rfl⟩:∃pv nv cv,v=.slice pv nv cv:=by
  exact OR
 obtain⟨xt,rfl,e0,e2,e4,e6,e8,e9,qG,-⟩:=Vj fr;rw[e0,e2,e4,e6,e8,e9,qG];clear e0 e2 e4 e6 e8 e9 qG fr hc hF O cQ cO hP hM hS hI h0 h1 lf iY iM hQ;unfold ATree.ptr at HL;conv=>arg 2;whnf
 go_wp2_with fail
 refine HL.o.mono ?_;rintro e w5⟨v5,rfl,hZ,eO⟩;obtain⟨p5,rg,rfl,jo,mU,gD⟩:=hZ.slice;refine Zxm ?_;intro gC m fd;rw[<-fd]at jo hZ gC ⊢;have rq:=lh (HM.o.below eO);have gZ:=lh eO;refine Ztq ?_;intro N5 kN iu HQ1 lp;clear hZ eO gD gC fd HL;go_wp2_with fail
 go_loopw [192] (λi wr=>∃(k:Nat) (Mk:MRep) (sk:MSt),k<=m/\i=(vI k)/\Hid (MAt C Mk wr sk)/\Hid (MFr M1 Mk w5 wr)/\Hid (Inv sk (d+6*(m-k)))/\Hid (Ext s sk/\sk.steps=s.steps)/\Hid (S=sk.funcs (λs _=>s) (λt a v=>t.bindTo nx a v) ((P.drop k).map (ATree.nt C.N)) nx ⟨st,nx⟩)) (λi _=>m-(intOf i).toNat)
 case atStart=>exact⟨0,M1,s,Yh _,rfl,rq,lh (.refl _ _),lh (HI.o.less Sn),lh ⟨Ext.refl _,rfl⟩,lh Rs⟩
 case round=>
  obtain⟨k,Mk,sk,hk,rfl,HMk,HFk,eu,dJ,HRk⟩:=hrel;by_cases bY:k<m
  .obtain⟨y,hy⟩:∃y,P[k]? =some y:=⟨_,Y6 Qw⟩
   obtain⟨g0,hp⟩:=iu.o k y hy;subst hp;refine Ztu ?_;intro aV bM cx HFz;have dy:=HFz.o.tree Y.o.1 Y.o.2;have ml:=dy.1.kid bM;have fS:=dy.2.kid bM;obtain⟨f0,f1⟩:=(dC.o.fr HFz.o).two;have nQ:=eu.o.less (d':=d+6*(m-(k+1))+6) Qe;have U:0<=nx/\nx<sk.H.scopes.length:=⟨jR.o.1,by have h1:=jR.o.2;have h3:=dJ.o.1.ls;omega⟩
   have gG:=Z33 qA.o HMk.o (d:=d+6*(m-(k+1))+2) (nQ.less Qe) ml fS (nZ.o y aV) nx ⟨st,nx⟩ U.1 U.2;obtain⟨o,X⟩:=zX sk.nextO
   obtain⟨p,Z⟩:=zX (sk.funS (y.nt C.N) nx ⟨st,nx⟩)
   rw[<-X,<-Z]at gG;have iD:=lh gG;simp only[ATree.ptr]at iD;obtain⟨j1,j2,j3⟩:=Z6x (d:=d+6*(m-(k+1))+1) (n:=y.nt C.N) (sc:=nx) (fr:=⟨st,nx⟩) (nQ.less Qe) (nZ.o y aV) U.1 U.2;have ws:=(Z6t (s:=sk) (sc:=nx) (fr:=⟨st,nx⟩) (n:=y.nt C.N)).2;rw[<-Z]at j1 j2 j3 ws;have HJ:=lh (show Inv p (d+6*(m-(k+1))+1)/\Ext sk p/\(LVal.ref o).ok p.H.objects.length from⟨j1,j2,Ti (by rw[X];show(0:Int)<=sk.H.objects.length;omega) (by rw[j3,X];show(sk.H.objects.length:Int)<_;omega)⟩)
   have Kq:=lh (show Ext s p/\p.steps=s.steps from⟨dJ.o.1.trans j2,ws.trans dJ.o.2⟩);have hR:=HRk.o;rw[show P.drop k=y::P.drop (k+1) by
    refine Xh ?_;intro hl he;rw[Yt hl,he],List.map_cons,Z6z,sw,<-Z,<-X]at hR
   have dP:=lh hR;clear dy ml fS nQ U gG X Z j1 j2 j3 ws hR hy;go_wp2_with fail
   refine iD.o.mono ?_;rintro e W1⟨rfl,Ma,nS,iH⟩;have F:=Lo.new (wE:=W) nS (Y4 HFz.o.size iH.size) HO.o #[vI 5,vI o,.string ⟨#[]⟩] 71;have I:=Z2 W1 (.cells #[vI 5,vI o,.string ⟨#[]⟩] 71);obtain⟨gS,bU,bc,rn⟩:=gp F (nS.below I) (HFz.o.trans (iH.trans (.of_below I))) (HFk.o.trans (iH.trans (.of_below I)));clear nS iH F I f0 f1 iD;go_wp2_with fail
   have F:=gS.o;have aO:=bU.o;have ap:=bc.o;have mF:=rn.o;clear gS bU bc rn;generalize W1.alloc (.cells #[vI 5,vI o,.string ⟨#[]⟩] 71)=W2 at F aO ap mF ⊢;generalize W1.heap.size=J at F aO ap mF ⊢;have d9:=lh mF;have Gz:=lh ap;clear ap mF
   have nR:=lh (show∀u M',MFr Ma M' W2 u->vC u y.b 1 (.string y.text)/\vC u J 0 (vI 5)/\vC u J 1 (vI o)/\vC u J 2 (.string ⟨#[]⟩)from
    λu M' f=>⟨((Gz.o.trans f).tree Y.o.1 Y.o.2).1.kid bM|>.c1,(F.fr f).cell rfl,(F.fr f).cell rfl,(F.fr f).cell rfl⟩)
   have ej:=Z5a (d:=d+6*(m-(k+1))) (sc:=nx) (name:=y.text) (v:=.ref o) HJ.o.1 HJ.o.2.2;obtain⟨cd,gj⟩:=zX ((p.H.declare nx y.text 0 (.ref o)).2)
   have eV:=Wm aO.drew HJ.o.1 nx y.text 0 (.ref o);have qE:=λ(u:kV) (M':MRep) (h:MAt C M' u p)=>Zf2 h HJ.o.1 nx y.text (.ref o);simp only[LVal.agg,LVal.ref]at eV qE;have wI:=gj;simp only[LVal.ref]at wI;rw[<-wI]at eV;have l9:=lh eV;have Be:=lh qE;obtain⟨sb,aM⟩:=zX (p.bindTo nx y.text (.ref o))
   have hR:=dP.o;rw[<-aM]at ej hR;have bD:=lh hR;have tv:=lh ej.1;have tz:=lh (show Ext s sb/\sb.steps=s.steps from⟨Kq.o.1.trans ej.2,by rw[aM];exact Z5o.2.trans Kq.o.2⟩);have cD:=lh aM;have qF:=lh gj;clear F aO ej eV qE gj wI aM hR aV bM cx
   refine Z9 [(true,0),(true,1),(true,2),(true,3),(true,4),(true,5),(true,6),(true,7),(true,8)] [9,10] (λW=>vC W y.b 1 (.string y.text)/\vC W J 0 (vI 5)/\vC W J 1 (vI o)/\vC W J 2 (.string ⟨#[]⟩)) Qh Qh (λc a d v w h=>fE.o c a d v w h) (nR.o _ _ (.drew (.refl _ _))) (λbw=>?_);refine pU ?_;refine Z1 ?_;go_wp2_with fail
   refine l9.o.mono ?_;rintro e W3⟨rfl,M3,dE,bh⟩;have bP:=lh ((MFr.drew (.refl Ma W2)).trans bh);by_cases fZ:cd=0
   .have cE:p.declare nx y.text 0 (.ref o)=sb:=by rw[cD.o];unfold MSt.bindTo;rw[Y5 (qF.o▸fZ)]
    have dH:=lh (show MAt C M3 W3 sb from cE▸dE);exact ZG
   .have cE:p.declare nx y.text 0 (.ref o)=p:=by unfold MSt.declare;rw[Z6q (qF.o▸fZ)];rfl
    have iZ:p.write nx y.text (.ref o)=sb:=QQ
    have Bf:MAt C M3 W3 p:=cE▸dE;have hw:=Be.o _ _ Bf.drew;have CL:p.write nx y.text ⟨5,o,⟨#[]⟩⟩=sb:=iZ;rw[CL]at hw;have HW:=lh hw;rw[show cL cd=.iface 35 (vI cd) by unfold cL;rw[Y3 fZ]];clear dE Bf bh cE iZ CL fZ hw;go_wp2_with fail
    refine Z9 [(true,0),(true,1),(true,2),(true,3),(true,4),(true,5),(true,6),(true,7),(true,8)] [9] (λW=>vC W y.b 1 (.string y.text)/\vC W J 0 (vI 5)/\vC W J 1 (vI o)/\vC W J 2 (.string ⟨#[]⟩)) Qh Qh (λc a d v w h=>fE.o c a d v w h) (nR.o _ _ (bP.o.trans (.drew (.refl _ _)))) (λbw=>?_);exact YF
  .have aT:k=m:=by omega
   exact tu1 gZ
end
section
variable {C:RCtx}{M M1:MRep}{w z W:kV}{s:MSt}{B:Nat}{x:CloR}{D:DF}{b:Int}{pn bd:ATree}{v:Value}{vs:List LVal}{nx:Int}{d:Nat}{A:Act}{K:Act->kV->Prop}{Q:Exit->Act->kV->Prop}
def Zxs(hc:EnC C M w z x pn bd B v vs)(p:MAt C M1 W s)(fr:FrA 240 (ua C w v nx bd []) [] A)
 (m:∀u y,FrA 240 (ua C w v nx bd [(13,.bool (s.H.has nx Zc))]) [] u->kW W y->K u y) :
 (i' [1,1,1,1,0]).wp Tryz.prog (Exit.then K Q) A W:=by
 have g:=VU p nx Zc;obtain⟨hb,F⟩:=zX (s.H.has nx Zc)
 rw[<-F]at g m;simp only[Zc]at g;have HH:=lh g;have o:=lh m;unfold ua at fr;obtain⟨pv,nv,cv,rfl⟩:∃pv nv cv,v=.slice pv nv cv:=by
  exact OR
 obtain⟨xt,rfl,I,J,O,U,X,Y,-⟩:=Vj fr;rw[I,J,O,U,X,Y];clear I J O U X Y fr hc m p g F;conv=>arg 2;whnf
 go_wp2_with fail
 refine HH.o.mono ?_;rintro e w2⟨rfl,Z⟩;have aP:=lh Z;clear Z;go_wp2_with fail
 exact o.o _ _ ⟨rfl,⟨rfl,rfl,rfl,rfl,rfl,rfl,rfl,trivial⟩,rfl⟩ aP.o
def Zpr(hc:EnC C M w z x pn bd B v vs)(m:MFr M M1 z W)(fr:FrA 240 (ua C w v nx bd []) [] A)
 (o:∀p,FrA 240 (ua C w v nx bd [(21,vP W.heap.size)]) [] p->K p (W.alloc (.cells #[.bool x.strict,vI nx] 78))) :
 (i' [1,1,1,1,1,1,1,1,0]).wp Tryz.prog (Exit.then K Q) A W:=by
 have U:=(hc.lc.fr m).cell (i:=2) rfl;have g:=lh o;unfold ua at fr;obtain⟨pv,nv,cv,rfl⟩:∃pv nv cv,v=.slice pv nv cv:=by
  exact OR
 obtain⟨X,rfl,u,y,F,I,J,O,-⟩:=Vj fr;rw[u,y,F,I,J,O];clear u y F I J O fr hc o m;conv=>arg 2;whnf
 go_wp2_with fail
 exact g.o _ ⟨rfl,⟨rfl,rfl,rfl,rfl,rfl,rfl,rfl,trivial⟩,rfl⟩
def Zsh(hc:EnC C M w z x pn bd B v vs)(y:MAt C M1 W s)(F:MFr M M1 z W)(hI:Inv s (d+bd.kids.length))(hn:bd.kids.length<=1500){I:Value}(fr:FrA 240 (ua C w v nx bd [(21,I)]) [] A)
 (g:∀J m M',FrA 240 (ua C w v nx bd [(21,I)]) [] J->MAt C M' m (s.lets (bd.nt C.N).lets nx)->MFr M1 M' W m->K J m) :
 (i' [1,1,1,1,1,1,1,1,1,1,0]).wp Tryz.prog (Exit.then K Q) A W:=by
 have o:=hc.bdT;have p:=F.tree o.1 o.2;have hl:=Z81 y hI p.1 p.2 Qe nx;obtain⟨S,O⟩:=zX (s.lets (bd.nt C.N).lets nx)
 rw[<-O]at hl g;unfold ATree.ptr at hl;have HL:=lh hl;have u:=lh g;unfold ua at fr;obtain⟨pv,nv,cv,rfl⟩:∃pv nv cv,v=.slice pv nv cv:=by
  exact OR
 obtain⟨xt,rfl,U,X,Y,Z,e8,e9,qG,-⟩:=Vj fr;rw[U,X,Y,Z,e8,e9,qG];clear U X Y Z e8 e9 qG fr hc g F y hI o p hl O;conv=>arg 2;whnf
 go_wp2_with fail
 refine HL.o.mono ?_;rintro e w2⟨rfl,M2,aO,ap⟩;have bU:=lh aO;have bc:=lh ap;clear aO ap;go_wp2_with fail
 exact u.o _ _ M2 ⟨rfl,⟨rfl,rfl,rfl,rfl,rfl,rfl,rfl,trivial⟩,rfl⟩ bU.o bc.o
def Zqg(r:MSt×Except Er (Bool×LVal)):MSt×Except Er LVal:=match r with
 |(s1,.ok (b,v))=>(s1,.ok (if b then v else LVal.zero))
 |(s1,.error e)=>(s1,.error e)
def Zs5{D:DF}{sc:Int}{fr:Frm}{l:List NT}:iC (pZ D sc fr l) (λr=>ga (if r.1 then r.2 else LVal.zero)) s=Zqg (pZ D sc fr l s):=by
 unfold iC Zqg;rcases pZ D sc fr l s with⟨s1,e|⟨b,v⟩⟩<;>rfl
def Zs6(cV:FR C D b)(hD:DH D b)(hc:EnC C M w z x pn bd B v vs)(Z:MAt C M1 W s)(O:MFr M M1 z W)(hst:(bd.nt C.N).stm)(hm:(bd.nt C.N).tree.many<=1500)(hn:bd.kids.length<=1500){fb:Nat}{wF:kV}{st:Bool}(lf:Lo C M1 wF W fb #[.bool st,vI nx] 78)
 (hI:Inv s d)(hA:FAt s nx ⟨st,nx⟩)(hb:b<=s.steps)(hs:s.steps<=20000)(fr:FrA 240 (ua C w v nx bd [(21,vP fb)]) [] A)
 (HR:∀y a' w',(results f144 a'.tmps).run Tryz.prog w'=.ok y w'->a'.defers=[]->bK C M w (Zqg (pZ D nx ⟨st,nx⟩ (bd.nt C.N).kids s)) (.returned y) w'->Q .ret a' w')(hQ:∀c a d v w,Q (.panic c) (Act.put a d v) w->Q (.panic c) a w) :
 (i' [1,1,1,1,1,1,1,1,1,1,1,1]).wp Tryz.prog Q A W:=by
 have cQ:=hc.bdT;have F:=O.tree cQ.1 cQ.2;obtain⟨pb,cb,U,bq,d7,cW⟩:=lL.slice F.1.rowOf;obtain⟨qb,mD⟩:=zX bd.kids.length
 rw[<-mD]at U;obtain⟨r,hr⟩:=zX (pZ D nx ⟨st,nx⟩ (bd.nt C.N).kids s)
 rw[<-hr]at HR;rw[Zw,zI]at hr;have ao:=Wd hst hm;have bC:∀y∈bd.kids,(y.nt C.N).wf .s/\(y.nt C.N).tree.many<=1500:=λy hy=>ao (y.nt C.N) RE
 have HC:=lh (show∀o,kW W o->kC 28 #[vP C.mb,.slice pb qb cb,vI nx,.agg #[.bool st,vI nx]] o λe w'=>∃M' b k n t ev,e=.returned (.tuple #[.bool b,ag k n t,ev])/\mE C M1 o r w' M' b k n t ev from
  λo hB=>by
   have h:=Calls.dres (Z5c (fr:=⟨st,nx⟩) cV hD (Z.below hB) hI hA hb hs (F.1.bel hB) F.2 hn bC);rw[U,<-hr]at h;exact h)
 have HS:=lh (show∀o M',MFr M1 M' W o->vC o bd.b 3 (.slice pb qb cb)/\vC o fb 0 (.bool st)/\vC o fb 1 (vI nx)from
  λo M' f=>⟨by have:=(f.tree F.1 F.2).1.c3;rwa[U]at this,(lf.fr f).cell rfl,(lf.fr f).cell rfl⟩)
 obtain⟨HM,Y,HE,HO,g,u,fe,fE⟩:=ld Z O (Y4 hc.below.size O.size) hc.old hc.lr hc.below HR hQ;unfold ua at fr;obtain⟨pv,nv,cv,rfl⟩:∃pv nv cv,v=.slice pv nv cv:=by
  exact OR
 obtain⟨xt,rfl,e0,e2,e4,e6,e8,e9,qG,-⟩:=Vj fr;rw[e0,e2,e4,e6,e8,e9,qG];clear e0 e2 e4 e6 e8 e9 qG fr cV hD hc Z O hst hm hn lf hI hA hb hs HR hQ cQ F U bq d7 cW mD hr ao bC;conv=>arg 2;whnf
 refine pT ?_;intro K HK;refine Z2d (.take 0 (.take 1 (.take 2 (.take 3 (.take 4 (.take 5 (.take 6 (.two 7 (.take 8 (.take 9 (.take 10 (.take 11 (.go 12 (.go 13 (.go 14 (.go 15 (.nil))))))))) 12 (.go 7 (.take 8 (.take 9 (.take 10 (.take 11 (.go 13 (.go 14 (.go 15 (.nil))))))))))))))))) 14 (λW=>vC W bd.b 3 (.slice pb qb cb)/\vC W fb 0 (.bool st)/\vC W fb 1 (vI nx)) Qh Qh (λc a d v w h=>fE.o c a d v w h) (HS.o _ _ (MFr.drew (.refl _ _))) ?_;refine ra ?_;refine Zu ?_
 apply Ziz (H:=Lz C w M1 W r);·exact kDA HS HC HE.o HO.o
 .exact AcK HS HC HM HE.o HO.o
 intro W1 p1 M2 b1 k1 n1 t1 I J;refine HK.o _ _ ?_;clear HK K;have F1:=Y.o.trans J.1.2.1;have bA:=lh F1;have p:=lh J;obtain⟨b0,js,b2,y0,y1,y2⟩:=J.2.six;obtain⟨q0,q1,q2,z0,z1,z2⟩:=(g.o.fr F1).six;have jG:p1≠w.heap.size+1:=by have h1:=J.2.late;have h2:=g.o.lt;have h3:=Y.o.size;omega
 clear J F1;cases b1
 .have gS:=lh (p.o.2.fill (x':=(vI 0)) (y':=(vI 0)) (z':=.string ⟨#[]⟩) p.o.1.1 p.o.1.2.1 p.o.2.late);go_wp2_with fail
  refine fe.o (.tuple #[.agg #[vI 0,vI 0,.string ⟨#[]⟩],I]) _ _ ?_ rfl ?_;·simp[results,results144,go_sem,q0,q1,q2]
  .obtain⟨g1,g2,g3,g4⟩:=gS.o;obtain⟨s9,q9⟩:=r;cases q9 with
   |error x9=>exact .err g.o u.o g1 (Y.o.trans g2) (g4 _ _ (show ax C M2 W1 x9 I from p.o.1.2.2))
   |ok v9=>
     obtain⟨rfl,rfl⟩:v9=(false,⟨k1,n1,t1⟩)/\I=.nilIface:=p.o.1.2.2;exact .fine g.o u.o g1 (Y.o.trans g2)
 .go_wp2_with fail
  refine fe.o (.tuple #[.agg #[vI k1,vI n1,.string t1],I]) _ _ ?_ rfl ?_;·simp[results,results144,go_sem,q0,q1,q2]
  .obtain⟨s9,q9⟩:=r;cases q9 with
   |error x9=>exact .err g.o u.o p.o.1.1 bA.o (show ax C M2 W1 x9 I from p.o.1.2.2)
   |ok v9=>
     obtain⟨rfl,rfl⟩:v9=(true,⟨k1,n1,t1⟩)/\I=.nilIface:=p.o.1.2.2;exact .fine g.o u.o p.o.1.1 bA.o
def Zxz(h:MAt C M w s)(x:CloR):kW w ((w.alloc (.cells #[vP x.a.b,vI x.scope,.bool x.strict] 149)).alloc (vO 0 0 ⟨#[]⟩))/\Lo C M w ((w.alloc (.cells #[vP x.a.b,vI x.scope,.bool x.strict] 149)).alloc (vO 0 0 ⟨#[]⟩)) w.heap.size #[x.a.ptr,vI x.scope,.bool x.strict] 149/\
 Lo C M w ((w.alloc (.cells #[vP x.a.b,vI x.scope,.bool x.strict] 149)).alloc (vO 0 0 ⟨#[]⟩)) (w.heap.size+1) #[vI 0,vI 0,.string ⟨#[]⟩] 71:=by
 have h1:=Z2 w (.cells #[vP x.a.b,vI x.scope,.bool x.strict] 149);have h2:=Lo.new (wE:=w) h (Y0 _) h.old.size #[x.a.ptr,vI x.scope,.bool x.strict] 149;have hs:(w.alloc (.cells #[vP x.a.b,vI x.scope,.bool x.strict] 149)).heap.size=w.heap.size+1:=World.size_alloc _ _;exact Xl
theorem Ztl:f144.body=some (i' []):=by kernel_rfl
theorem Zom:i' []=Code.seq (i' [0]) (Code.seq (i' [1,0]) (Code.seq (i' [1,1,0]) (Code.seq (i' [1,1,1,0]) (Code.seq (i' [1,1,1,1,0]) (Code.seq (i' [1,1,1,1,1,0]) (Code.seq (i' [1,1,1,1,1,1,0]) (Code.seq (i' [1,1,1,1,1,1,1,0]) (Code.seq (i' [1,1,1,1,1,1,1,1,0]) (Code.seq (i' [1,1,1,1,1,1,1,1,1,0]) (Code.seq (i' [1,1,1,1,1,1,1,1,1,1,0]) (Code.seq (i' [1,1,1,1,1,1,1,1,1,1,1,0]) (i' [1,1,1,1,1,1,1,1,1,1,1,1])))))))))))):=by kernel_rfl
def Zk4(gm:K' C.w0)(hC:C.Ok)(cV:FR C D b)(hD:DH D b)(h:MAt C M w s)(hI:Inv s (d+17000))(hr:Root s)(iY:Lp (x.a.nt C.N))(lx:0<=x.scope)(dL:x.scope<s.H.scopes.length)(ha:TreeAt w B x.a)(hf:x.a.free M)
 (ae:∃wA,VRow C M wA w v vs)(dD:∀u∈vs,VQ s u)(hl:vs.length<=1500)(hb:b<=s.steps)(hs:s.steps<=20000) :
 kC 144 #[vP C.mb,.agg #[x.a.ptr,vI x.scope,.bool x.strict],v] w λe w'=>bK C M w (XN D (x.clo C.N) vs s) e w':=by
 obtain⟨pk,bk,cr,uq,hst,GA,lI,-⟩:=Z86 iY;have X:=cr;rw[Zw,zI]at X;obtain⟨pn,bd,jg⟩:∃pn bd,x.a.kids=[pn,bd]:=by
  match hl:x.a.kids,X with
  | [],hk=>simp at hk
  | [x],hk=>simp at hk
  | [x,y],hk=>exact⟨x,y,rfl⟩
  |x::y::z::l,hk=>simp at hk
 rw[jg]at X;simp only[List.map_cons,List.map_nil,List.cons.injEq,and_true]at X;obtain⟨rfl,rfl⟩:=X;have Kr:(x.a.nt C.N).kid 0=pn.nt C.N:=xX Sz;have GB:(x.a.nt C.N).kid 1=bd.nt C.N:=xX Sz;have lJ:pn.kids.length<=1500:=by rw[Zw,zI,Ym]at uq;exact uq
 have dw:(bd.nt C.N).tree.many=bd.many:=by rw[WG];exact U8 bd
 have gR:bd.kids.length<=1500:=by have:=Td (n:=bd.nt C.N);rw[Zw,zI,Ym]at this;omega
 have dr:(yi bd).length<=1500:=by have:=Z8a (n:=bd.nt C.N);rw[Wk]at this;omega
 have qI:(bd.nt C.N).funcs.length<=1500:=by have:=Z6u (n:=bd.nt C.N);have:=Td (n:=bd.nt C.N);omega
 obtain⟨nx,p⟩:=zX s.next
 obtain⟨so,aW⟩:=zX (s.opens x.scope (-1) (C.N x.a.b))
 obtain⟨Y,vi⟩:=zX (MSt.params nx (pn.kids.map (ATree.nt C.N)) vs so)
 obtain⟨o,ho⟩:=zX (((Y.H.has nx Zc||(bd.nt C.N).funcs.any λk=>Zh k.text Zc)||(bd.nt C.N).lets.any λk=>Zh k.text Zc))
 obtain⟨sa,Dh⟩:=zX (if o then Y else Y.argsObj nx vs)
 obtain⟨sv,nL⟩:=zX (sa.vars (bd.nt C.N).vars nx)
 obtain⟨sl,bZ⟩:=zX (sv.lets (bd.nt C.N).lets nx)
 obtain⟨Z,jr⟩:=zX (sl.funcs (λs _=>s) (λt a v=>t.bindTo nx a v) (bd.nt C.N).funcs nx ⟨x.strict,nx⟩)
 have hE:s.enterS (x.clo C.N) vs=Z:=by
  rw[jr,bZ,nL,Dh,ho,vi,aW,p];unfold MSt.enterS CloR.clo;dsimp only
  rw[Kr,GB,Zck,Zw,zI,Bool.or_assoc];rfl
 have am:XN D (x.clo C.N) vs s=Zqg (pZ D nx ⟨x.strict,nx⟩ (bd.nt C.N).kids Z):=by
  unfold XN;rw[hE,<-p,<-Zs5];unfold CloR.clo;dsimp only
  rw[GB]
 rw[am];obtain⟨t1,t2,t3⟩:=Zcd (c:=x.clo C.N) (vs:=vs) hI hr ⟨iY,lx,dL⟩ dD hl;obtain⟨u1,u2⟩:=Zb8 (s:=s) (c:=x.clo C.N) (vs:=vs);rw[hE]at t1 t2 t3 u1 u2;rw[<-p]at t3;have t3:FAt Z nx ⟨x.strict,nx⟩:=t3;have i0:=hI.opens (d:=d+16999) (outer:=x.scope) (object:=-1) (owner:=C.N x.a.b) Qe dL Qg Qe;rw[<-aW]at i0;have mf:∀u∈vs,VQ so u:=λu hu=>VQ.ext (dD u hu) i0.2;have F:=Z8q (sc:=nx) (pn.kids.map (ATree.nt C.N)) vs so (d+15499) (i0.1.less (by rw[Ym];omega)) mf;rw[<-vi]at F
 have GC:∀u∈vs,VQ Y u:=λu hu=>VQ.ext (mf u hu) F.2;have i2:Inv sa (d+13996)/\Ext Y sa:=by
  rw[Dh];split;·exact⟨F.1.less Qe,Ext.refl _⟩
  .exact Zaw (F.1.less Qe) GC Qe
 have i3:=Zhj (l:=(bd.nt C.N).vars) (sc:=nx) (d:=d+12496) (i2.1.less (by rw[Wk];omega));rw[<-nL]at i3;have i4:=Wi (l:=(bd.nt C.N).lets) (sc:=nx) (d:=d+10996) (i3.1.less (by have:=Z73 (n:=bd.nt C.N);have:=Td (n:=bd.nt C.N);omega));rw[<-bZ]at i4;have hn0:0<=nx:=by rw[p];show(0:Int)<=s.H.scopes.length;omega
 have iW:nx<sl.H.scopes.length:=by
  have h1:=((F.2.trans i2.2).trans i3.2).trans i4.2;have h2:=h1.ls;have h3:so.H.scopes.length=s.H.scopes.length+1:=by rw[aW];simp[MSt.opens]
  rw[p];show(s.H.scopes.length:Int)<_;omega
 obtain⟨I,lc,lr⟩:=Zxz h x;unfold vO at I lc lr;obtain⟨z,hz⟩:=zX ((w.alloc (.cells #[vP x.a.b,vI x.scope,.bool x.strict] 149)).alloc (.cells #[vI 0,vI 0,.string ⟨#[]⟩] 71))
 rw[<-hz]at I lc lr;have hc:EnC C M w z x pn bd B v vs:=⟨hC,h.old.size,I,lc,lr,ha.bel I,hf,jg,by obtain⟨wA,hr⟩:=ae;exact⟨wA,hr.fr (.of_below I)⟩,hl,iY⟩
 have aE:=h.below I;obtain⟨kg,kc,AV,y9,hk⟩:=hc.two;obtain⟨g,iU,HD,wH,HM,pg,mw,HT,Ks,il,eF,oN⟩:=tq hc cV hD gm aE hk (Yu hst lI) (Yu t1 t3) (show b<=Z.steps/\Z.steps<=20000 by omega) i0.1 F.1 i2.1;obtain⟨nX,Gm,NP,NQ,tW,yz,sq,HO,NR,vU,kf⟩:=rt i3.1 i4.1 mf GC (Yu hn0 iW) aW vi ho Dh nL bZ
 have NS:=lh jr;have p7:=λW (hW:kW z W)=>Z5z hC (aE.below hW) (hc.tr.bel hW);have oG:=lh p7;have eG:=λW (hW:kW z W)=>Wp (aE.below hW) hI x.scope (-1) (C.N x.a.b);rw[<-aW,<-p]at eG;obtain⟨jI,ed,HZ⟩:=ds eG (show∀W M',MFr M M' z W->vC W w.heap.size 0 (vP x.a.b)/\vC W w.heap.size 1 (vI x.scope)from λW M' f=>⟨(lc.fr f).cell rfl,(lc.fr f).cell rfl⟩) hz
 have m:=lh (Yu lJ (Yu gR (Yu dr (Yu qI (dw▸lI)))));obtain⟨pv,nv,cv,rfl⟩:∃pv nv cv,v=.slice pv nv cv:=by
  obtain⟨wA,hr⟩:=ae;obtain⟨pv,cv,h,-⟩:=hr.form;exact⟨pv,_,cv,h⟩
 clear gm hC cV hD h hI hr iY lx dL ha hf ae dD hl hb hs cr uq hst GA lI jg Kr GB lJ dw gR dr qI hE am t1 t2 t3 u1 u2 i0 F i2 i3 i4 mf GC hn0 iW I lc lr hc aE hk p7 eG p aW vi ho Dh nL bZ jr hz;unfold ATree.ptr at oG ⊢;refine calls_of_wp (c:=i' []) func144 Ztl ?_;simp only[ntmps144,List.size_toArray,List.length_cons,List.length_nil,Nat.reduceAdd,Nat.reduceSub,Array.replicate_succ,Array.replicate_zero,List.push_toArray,List.append_toArray,List.nil_append,List.cons_append];rw[Zom];refine c9 ?_;intro K HK;go_wp2;rw[<-HZ.o]
 refine HK.o _ _ ?_;clear HK K;refine c9 ?_;intro K HK;refine o4 [(true,0),(true,1),(true,2),(true,3),(true,4),(true,5),(false,6)] [7,8] (λW=>vC W w.heap.size 0 (vP x.a.b)/\vC W w.heap.size 1 (vI x.scope)) (ed.o _ _ (.drew (.refl _ _))) (λbw=>?_);refine iB ?_;intro K hK;refine(oG.o _ (Zd _)).mono ?_;rintro e W1⟨rfl,rfl⟩;refine hK _ _ (ed.o _ _ (.drew (.refl _ _))) ?_;clear hK K;refine Z1 ?_;go_wp2_with fail
 refine(jI.o _ (Zd _)).mono ?_;rintro e W2⟨rfl,M2,aO,ap⟩;have bU:=lh aO;have bc:=lh ((MFr.drew (.refl M z)).trans ap);clear aO ap;go_wp2_with fail
 refine HK.o _ _ ?_;clear HK K;obtain⟨f0,f1,f2,f3⟩:=pg.o _ _ bc.o;refine c9 ?_;intro K HK;go_wp2_with fail
 refine HK.o _ _ ?_;clear HK K f0 f1 f2 f3;refine pT ?_;intro K HK;refine Zlj (d:=d+15499) g.o bU.o bc.o (il.o.less (by have:=m.o.1;omega)) NP.o m.o.1 ⟨rfl,⟨rfl,rfl,rfl,rfl,rfl,rfl,trivial⟩,rfl⟩ (λA3 W3 M3 ur dE bh=>?_) (λ_ _ d _ _ h=>by cases d<;>exact h);rw[<-sq.o]at dE;have bh:=bc.o.trans bh;refine HK.o _ _ ?_;clear HK K;refine pT ?_;intro K HK;refine Zxs g.o dE ur (λA4 W4 uu eI=>?_);have fG:=dE.below eI;have bg:=bh.trans (.of_below eI);refine HK.o _ _ ?_;clear HK K dE bh eI ur
 refine pT ?_;intro K HK;refine Zs3 g.o bg m.o.2.1 uu (λA5 W5 Bg eO=>?_);have me:=fG.below eO;have eP:=bg.trans (.of_below eO);refine HK.o _ _ ?_;clear HK K fG bg eO uu;refine pT ?_;intro K HK;refine Zrw g.o eP m.o.2.1 Bg (λA6 W6 Bh GD=>?_);have rD:=me.below GD;have fF:=eP.trans (.of_below GD);rw[<-HO.o]at Bh;refine HK.o _ _ ?_;clear HK K me eP GD Bg;refine pT ?_;intro K HK
 refine Zra (d:=d+13996) wH.o g.o rD fF (eF.o.less (by have:=g.o.few;omega)) NQ.o Bh (λA7 W7 M7 Kt kp J=>?_) (λ_ _ d _ _ h=>by cases d<;>exact h);rw[<-NR.o]at kp;have J:=fF.trans J;refine HK.o _ _ ?_;clear HK K rD fF Bh;refine pT ?_;intro K HK;refine Zpr g.o J Kt (λA8 Ku=>?_);have pJ:=Z2 W7 (.cells #[.bool x.strict,vI nx] 78);have Kv:=Lo.new (wE:=w) kp (Y4 g.o.below.size J.size) g.o.old #[.bool x.strict,vI nx] 78;have ug:=kp.below pJ;have sO:=J.trans (.of_below pJ)
 refine HK.o _ _ ?_;clear HK K kp J Kt pJ;generalize W7.alloc (.cells #[.bool x.strict,vI nx] 78)=W8 at *;generalize W7.heap.size=fb at *;refine pT ?_;intro K HK;refine Zuk (d:=d+12496) g.o ug sO m.o.2.2.2.2 (oN.o.less (by have:=m.o.2.2.1;omega)) Ku (λA9 W9 M9 Di xH O=>?_);rw[<-vU.o]at xH;have Kw:=Kv.fr O;have O:=sO.trans O;refine HK.o _ _ ?_;clear HK K ug sO Ku Kv;refine pT ?_;intro K HK
 refine Zsh (d:=d+10996) g.o xH O (nX.o.less (by have:=m.o.2.1;omega)) m.o.2.1 Di (λAa Wa Ma Kx nS U=>?_);rw[<-kf.o]at nS;have GE:=Kw.fr U;have U:=O.trans U;refine HK.o _ _ ?_;clear HK K xH O Di Kw;refine pT ?_;intro K HK;refine Zo6 (d:=d) g.o nS U mw.o m.o.2.1 GE (Gm.o.less (by have:=m.o.2.2.2.1;omega)) tW.o.1 tW.o.2 Kx (λAb Wb Mb NU yq uv=>?_) (λ_ _ d _ _ h=>by cases d<;>exact h);rw[<-NS.o]at yq;have NV:=GE.fr uv;have uv:=U.trans uv;refine HK.o _ _ ?_
 clear HK K nS U Kx GE;exact Zs6 (d:=d) iU.o HD.o g.o yq uv mw.o.1 mw.o.2 m.o.2.1 NV HT.o.1 HT.o.2 Ks.o.1 Ks.o.2 NU (λy a' w' h1 h2 h3=>Yp h1 h2 h3) (λ_ _ d _ _ h=>by cases d<;>exact h)
end
noncomputable def ll(p:List Nat):Code:=Hr p (f145.body.getD .skip)
def Jj(C:RCtx)(w:kV)(sc:Int)(a:ATree)(l:List (Nat×Value)):List (Nat×Value):=
 (0,vP C.mb)::(2,vI sc)::(7,vP w.heap.size)::(8,.pointer (some ⟨w.heap.size+1,0,none⟩))::(10,vP a.b)::l
structure EvS(C:RCtx)(M:MRep)(w:kV)(st:Bool)(vr:Int)(M1:MRep)(W:kV)(s:MSt):Prop where
 mat:MAt C M1 W s
 fr:MFr M M1 w W
 lf:Lo C M1 w W w.heap.size #[.bool st,vI vr] 78
 lr:Lo C M1 w W (w.heap.size+1) #[vI 0,vI 0,.string ⟨#[]⟩] 71
section
variable {C:RCtx}{M M1:MRep}{w W:kV}{s:MSt}{B:Nat}{a:ATree}{sc vr:Int}{st:Bool}{d:Nat}{A:Act}{K:Act->kV->Prop}{Q:Exit->Act->kV->Prop}
theorem EvS.bel(h:EvS C M w st vr M1 W s){m:kV}(g:kW W m):EvS C M w st vr M1 m s:=⟨h.mat.below g,h.fr.trans (.of_below g),h.lf.bel g,h.lr.bel g⟩
theorem EvS.step(h:EvS C M w st vr M1 W s){M2:MRep}{g:kV}{s':MSt}(m:MAt C M2 g s')(f:MFr M1 M2 W g):EvS C M w st vr M2 g s':=⟨m,h.fr.trans f,h.lf.fr f,h.lr.fr f⟩
theorem EvS.size(h:EvS C M w st vr M1 W s):w.heap.size+2<=W.heap.size:=h.lr.lt
theorem Zrb:f145.body=some (ll []):=by kernel_rfl
theorem Zjh{H:LHeap}{n:NT}{f:Nat}{c:Int}:Ur H n vr (f+1) c=((n.names true).any (λt=>(H.kindOf c t==1||H.kindOf c t==2)&& !(n.lets.any λk=>Zh k.text t))||(if c=vr then false else Ur H n vr f (H.outerOf c))):=rfl
def Zql{H:LHeap}(hw:H.WF){c:Int}(h:Anc H vr c)(g:c≠vr):0<=c/\Anc H vr (H.outerOf c)/\H.outerOf c<c:=by
 cases h with
 |refl=>exact absurd rfl g
 | @up _ x hc o=>
   have e:H.outerOf c=x.outer:=by unfold LHeap.outerOf;rw[hc]
   obtain⟨m,rfl,p⟩:=LHeap.scope?_some hc;have:=hw m x p;rw[e];exact⟨by omega,o,this.2⟩
def Zqx(hS:EvS C M w false vr M1 W s)(o9:s.H.WF)(Bi:Anc s.H vr sc)(gr:0<=vr)(ha:TreeAt W B a)(hn:a.kids.length<=1500){Ky:Value}{B2:Nat}(hnm:Zx W B2 Ky (JK true a))(fr:FrA 193 (Jj C w sc a [(12,Ky)]) [] A)
 (HK:∀A' X,Ur s.H (a.nt C.N) vr (sc+1).toNat sc=false->FrA 193 (Jj C w sc a []) [] A'->kW W X->K A' X)
 (HR:∀y a' w',Ur s.H (a.nt C.N) vr (sc+1).toNat sc=true->(results f145 a'.tmps).run Tryz.prog w'=.ok y w'->a'.defers=[]->bK C M w (s,.error (.thr (.say SQ))) (.returned y) w'->Q .ret a' w') :
 (ll [1,1,1,1,1,1,0]).wp Tryz.prog (Exit.then K Q) A W:=by
 obtain⟨I,qp⟩:=zX (Ur s.H (a.nt C.N) vr (sc+1).toNat sc)
 rw[<-qp]at HK HR;obtain⟨nm,wJ⟩:=zX (JK true a)
 have Bj:(a.nt C.N).names true=nm:=by rw[wJ];exact Z9e true
 rw[<-wJ]at hnm;obtain⟨pn,cn,rfl,bq,d7,cW⟩:=hnm.form2;obtain⟨q,hq⟩:=zX nm.length
 have eL:=lh hnm;rw[<-hq]at fr bq;obtain⟨HQ,ue,HS,Kz,NW,NX,HT,HN,yr,HKK,fe,i8⟩:=tq hq cW hS o9 Bi gr ha (show a.kids.length<1099511627776 by omega) Bj HK HR qp;unfold maxLen at d7;obtain⟨f0,f1⟩:=hS.lf.two;unfold Jj at fr;obtain⟨xt,rfl,e0,e2,e7,e8,gU,lN,-⟩:=Zby fr;rw[e0,e2,e7,e8,gU,lN];clear e0 e2 e7 e8 gU lN fr;clear hS o9 Bi gr ha hn hnm HK HR qp wJ Bj cW hq;conv=>arg 2;whnf
 go_wp2_with fail
 clear f0 f1;go_loopw [13] (λu wr=>∃(c:Int) (f:Nat),u=(vI c)/\Hid (kW W wr)/\Hid (Anc s.H vr c)/\Hid ((c+1).toNat<=f/\I=Ur s.H (a.nt C.N) vr f c)) (λu _=>(intOf u+1).toNat)
 case atStart=>exact⟨sc,_,rfl,lh (Y2 _ _),NW,lh ⟨Y0 _,i8.o⟩⟩
 case round=>
  obtain⟨c,f,rfl,O,HA,Y⟩:=hrel;obtain⟨wo,NY⟩:=zX wr
  subst NY;have rG:vr<=c:=HA.o.le Kz.o;obtain⟨g,rfl⟩:∃g,f=g+1:=⟨f-1,by have:=NX.o;have:=Y.o.1;omega⟩
  have m:=Y.o.2;rw[Zjh,yr.o]at m;obtain⟨cJ,lK⟩:=zX ((if c=vr then false else Ur s.H (a.nt C.N) vr g (s.H.outerOf c)))
  rw[<-lK]at m;obtain⟨bS,Bk,HG,GF,NZ,GH⟩:=gw m lK Y.o.1 (HS.o.bel O.o) (HT.o.bel O.o) (eL.o.bel O.o);clear m lK Y;go_wp2_with fail
  go_loopw [68] (λi wr=>∃(k:Nat),k<=q/\i=(vI k)/\Hid (kW wo wr)/\Hid (I=((nm.drop k).any (λt=>(s.H.kindOf c t==1||s.H.kindOf c t==2)&& !((a.nt C.N).lets.any λk=>Zh k.text t))||cJ))) (λi _=>q-(intOf i).toNat)
  case atStart=>exact⟨0,Yh _,rfl,lh (Y2 _ _),lh (by rw[List.drop_zero];exact bS.o)⟩
  case round=>
   obtain⟨k,hk,rfl,U,GI⟩:=hrel;by_cases bY:k<q
   .obtain⟨y,hy⟩:∃y,nm[k]? =some y:=⟨_,Y6 Ra⟩
    obtain⟨g0,hp⟩:=ue.o k y hy;subst hp;have cx:=(GH.o.bel U.o).cells rfl hy;have bC:=Ziy (GF.o.bel U.o).mat.heap c y;obtain⟨F,wK⟩:=zX (s.H.kindOf c y)
    have m:=GI.o;rw[show nm.drop k=y::nm.drop (k+1) by
     refine Xh ?_;intro hl he;rw[Yt hl,he],List.any_cons,<-wK]at m
    rw[<-wK]at bC;have pN:=lh bC;have Z:=lh m;clear hy bC wK m GI;by_cases wM:F=1\/F=2
    .obtain⟨bl,gR⟩:=zX (((a.nt C.N).lets.any λk=>Zh k.text y))
     have ff:=λ(X:kV) (hB:kW wo X)=>Zjp C.N (NZ.o.bel hB) HN.o y;rw[<-gR]at ff;have m:=Z.o;rw[<-gR]at m;have KA:(F==1||F==2)=true:=by rcases wM with h|h<;>rw[h]<;>rfl
     rw[KA,Bool.true_and]at m;have yj:=lh ff;have KB:=lh m;simp only[ATree.ptr]at yj;clear gR ff m KA Z;rcases wM with h|h
     all_goals
      subst h;go_wp2_with fail
      refine pN.o.mono ?_;rintro e w3⟨rfl,o⟩;have p:=zT U o;clear o;go_wp2_with fail
      refine(yj.o _ p.o).mono ?_;rintro e w4⟨rfl,eI⟩;have ep:=zT p eI;clear eI;cases bl
      .have hT:I=true:=by rw[KB.o];rfl
       have kt:=LW (GF.o.bel ep.o).mat SQ;simp only[SQ]at kt;have uY:=lh kt;clear kt;go_wp2_with fail
       refine uY.o.mono ?_;rintro e w5⟨o7,rfl,rp,eO⟩;have xK:=lh (show ax C M1 w5 (.thr (.say SQ)) o7 from rp);have lA:=lh ((GF.o.bel ep.o).bel eO);obtain⟨q0,q1,q2,z0,z1,z2⟩:=lA.o.lr.six;clear rp eO;go_wp2_with fail
       refine fe.o (.tuple #[.agg #[vI 0,vI 0,.string ⟨#[]⟩],o7]) _ _ hT ?_ rfl ?_;·exact YP
       .obtain⟨g1,g2,g3⟩:=lA.o.lr.ret (x':=(vI 0)) (y':=(vI 0)) (z':=.string ⟨#[]⟩) lA.o.mat lA.o.fr;exact⟨M1,g1,g2,⟨0,0,⟨#[]⟩⟩,o7,rfl,g3 _ _ xK.o⟩
      .have Bn:=lh (show I=_ from by rw[KB.o]);go_wp2_with fail
       go_roundw
       case rel=>exact⟨k+1,by omega,by go_num,ep,Bn⟩
       case measure=>first|(simp[intOf];omega)|simp[intOf]
    .have h1:(F==1)=false:=by simp;omega
     have h2:(F==2)=false:=Qi
     have Bn:=lh (show I=_ from by rw[Z.o,h1,h2]);have h3:decide (F=1)=false:=Qi
     have h4:decide (F=2)=false:=Qi
     clear wM Z;go_wp2_with fail
     refine pN.o.mono ?_;rintro e w3⟨rfl,o⟩;have p:=zT U o;clear o;go_wp2_with fail
     go_roundw
     case rel=>exact⟨k+1,by omega,by go_num,p,Bn⟩
     case measure=>first|(simp[intOf];omega)|simp[intOf]
   .have aT:k=q:=by omega
    subst aT;have m:=GI.o;rw[List.drop_eq_nil_of_le Rp,List.any_nil,Bool.false_or,Bk.o]at m;have KC:=lh m;have Dj:=lh (O.o.trans (U.o.mono O.o.size));obtain⟨f0,f1⟩:=(HS.o.bel Dj.o).lf.two;clear m bY;by_cases J:c=vr
    .have hT:I=false:=by rw[KC.o,Y5 J]
     subst J;go_wp2_with fail
     exact HKK.o _ _ hT ⟨rfl,⟨rfl,rfl,rfl,rfl,rfl,trivial⟩,rfl⟩ Dj.o
    .obtain⟨fZ,kX,aA⟩:=Zql Kz.o HA.o J;have mi:(c==vr)=false:=by simp;exact J
     have gj:decide (c=vr)=false:=by simp;exact J
     have yt:=Zg3 (HS.o.bel Dj.o).mat.heap c;obtain⟨oc,GJ⟩:=zX (s.H.outerOf c)
     rw[<-GJ]at yt kX aA;have N0:=lh yt;have GK:=lh kX;have N1:=lh (show(oc+1).toNat<=g/\I=Ur s.H (a.nt C.N) vr g oc from⟨by have:=HG.o;omega,by rw[KC.o,Y3 J,GJ]⟩);clear yt kX J GJ;go_wp2_with fail
     refine N0.o.mono ?_;rintro e w6⟨rfl,jL⟩;rw[jL];clear jL w6;go_wp2_with fail
     go_roundw
     case rel=>exact⟨oc,g,rfl,Dj,GK,N1⟩
     case measure=>first|(simp[intOf];omega)|simp[intOf]
theorem Zh9{n:kB}{l:List kB}{sc:Int}:s.looses (n::l) sc=(s.loose sc n).looses l sc:=rfl
def Zt6(X:EvS C M w st vr M1 W s)(Y:TreeAt W B a)(hm:a.many<=1500)(hI:Inv s (d+(yi a).length))(fr:FrA 193 (Jj C w sc a []) [] A)
 (m:∀Z I M',FrA 193 (Jj C w sc a []) [] Z->MAt C M' I (s.looses (a.nt C.N).vars vr)->MFr M1 M' W I->K Z I) :
 (ll [1,1,1,1,1,1,1,0]).wp Tryz.prog (Exit.then K Q) A W:=by
 rw[Wk]at m;have HL:=lh (Z82 W B a Y Qe);obtain⟨P,hP⟩:=zX (yi a)
 obtain⟨S,J⟩:=zX (s.looses P vr)
 rw[<-hP]at HL m hI;rw[<-J]at m;obtain⟨O,ss,HS⟩:=ds m J X;unfold Jj at fr;obtain⟨xt,rfl,e0,e2,e7,e8,gU,-⟩:=Zby fr;rw[e0,e2,e7,e8,gU];clear e0 e2 e7 e8 gU fr;clear X m hP J Y hm;unfold ATree.ptr at HL;conv=>arg 2;whnf
 go_wp2_with fail
 refine HL.o.mono ?_;rintro e w2⟨v2,rfl,o,U,fw⟩;obtain⟨p2,jW,rfl,dI,fR,de⟩:=o.form2;have gP:∀g,(Value.slice p2 P.length jW).ownBlock=some g->g<w2.heap.size/\¬M1.has g:=λg hg=>⟨(Y9 o g hg).2,HS.o.mat.fresh (Y9 o g hg).1⟩;refine OE ?_;intro q cU nq;have eL:=lh o;have kN:=lh gP;rw[<-cU]at dI hI ⊢;obtain⟨gQ,HQ1,aP,cH,il⟩:=gq de cU U (HS.o.bel U) hI;clear o U de gP cU HL fw hI;go_wp2_with fail
 go_loopw [100] (λi wr=>∃(k:Nat) (F:MRep) (p:MSt),k<=q/\i=(vI k)/\Hid (MAt C F wr p)/\Hid (MFr M1 F w2 wr)/\Hid (Inv p (d+(q-k)))/\Hid (S=p.looses (P.drop k) vr)) (λi _=>q-(intOf i).toNat)
 case atStart=>exact⟨0,M1,s,Yh _,rfl,lh cH.o.mat,lh (.refl _ _),il,lh Q3⟩
 case round=>
  obtain⟨k,F,p,hk,rfl,HMk,HFk,eu,u⟩:=hrel;by_cases bY:k<q
  .obtain⟨y,hy⟩:∃y,P[k]? =some y:=⟨_,Y6 Qw⟩
   obtain⟨g0,hp⟩:=gQ.o k y hy;subst hp;obtain⟨mJ,je⟩:=kN.o g0 rfl;have cx:=(HFk.o.cell mJ je).trans (eL.o.cells rfl hy);obtain⟨f0,f1⟩:=(cH.o.lf.fr HFk.o).two;have eV:=Zce HMk.o eu.o vr y;have l9:=lh eV;have hR:=u.o;rw[show P.drop k=y::P.drop (k+1) by
    refine Xh ?_;intro hl he;rw[Yt hl,he],Zh9]at hR
   have HR:=lh hR;have iO:=Z8c (d:=d+(q-(k+1))) (sc:=vr) (name:=y) (eu.o.less Qe);exact Aat
  .have aT:k=q:=by omega
   subst aT;have hR:=u.o;rw[List.drop_eq_nil_of_le Q4]at hR;have an:S=p:=hR;go_wp2_with fail
   exact O.o _ _ F ⟨rfl,⟨rfl,rfl,rfl,rfl,rfl,trivial⟩,rfl⟩ Rg ((MFr.of_below aP.o).trans HFk.o)
def Zt5(X:EvS C M w st vr M1 W s)(F:TreeAt W B a)(hf:a.free M1)(hn:a.kids.length<=1500)(hI:Inv s (d+1+a.kids.length))(Y:-1<=sc)(Z:sc<s.H.scopes.length)(fr:FrA 193 (Jj C w sc a [(19,vI sc)]) [] A)
 (g:∀A' m M',FrA 193 (Jj C w sc a [(19,vI (if(a.nt C.N).lets.isEmpty then sc else s.next))]) [] A'->MAt C M' m (if(a.nt C.N).lets.isEmpty then s else(s.opens sc (-1) (-3)).lets (a.nt C.N).lets s.next)->MFr M1 M' W m->K A' m) :
 (ll [1,1,1,1,1,1,1,1,1,0]).wp Tryz.prog (Exit.then K Q) A W:=by
 have HL:=lh (YR W B a F Qe);obtain⟨P,I⟩:=zX (a.kids.filter vV)
 have J:(a.nt C.N).lets=P.map (ATree.nt C.N):=by rw[I];exact Z9k
 rw[<-I]at HL;obtain⟨HS,O,HI,HN,kS⟩:=gq X (Yu F hf) hI hn (Yu Y Z);unfold Jj at fr;obtain⟨xt,rfl,e0,e2,e7,e8,gU,uw,-⟩:=Zby fr;rw[e0,e2,e7,e8,gU,uw];clear e0 e2 e7 e8 gU uw fr;unfold ATree.ptr at HL;rcases yu:P with _|⟨y,l⟩
 .rw[J,yu]at g;simp only[List.map_nil,List.isEmpty_nil,if_true]at g;rw[yu]at HL;have HKK:=lh g;clear X F hf hn hI Y Z g J I yu;conv=>arg 2;whnf
  go_wp2_with fail
  refine HL.o.mono ?_;rintro e w2⟨v2,rfl,o,p⟩;obtain⟨p2,jW,rfl,dI,fR,de⟩:=o.slice;have u:=lh p;clear o p de;simp only[List.length_nil];go_wp2_with fail
  exact HKK.o _ _ M1 ⟨rfl,⟨rfl,rfl,rfl,rfl,rfl,rfl,trivial⟩,rfl⟩ (HS.o.mat.below u.o) (.of_below u.o)
 .have hem:(a.nt C.N).lets.isEmpty=false:=by rw[J,yu];rfl
  rw[hem]at g;simp only[Bool.false_eq_true,if_false]at g;obtain⟨q,hq⟩:=zX P.length
  have h0:decide (0<q)=true:=by rw[hq,yu];simp
  have HQ:=lh hq;obtain⟨nx,eC⟩:=zX s.next
  obtain⟨so,aW⟩:=zX (s.opens sc (-1) (-3))
  obtain⟨sl,bZ⟩:=zX (so.lets (a.nt C.N).lets nx)
  rw[<-aW,<-eC,<-bZ]at g;have HKK:=lh g;have eG:=λm (hB:kW W m)=>Wp (HS.o.mat.below hB) HI.o sc (-1) (-3);rw[<-aW,<-eC]at eG;have jI:=lh eG;have eH:=(HI.o.less (d':=d+a.kids.length+1) Qe).opens (d:=d+a.kids.length) (outer:=sc) (object:=-1) (owner:=-3) kS.o.1 kS.o.2 Qg Qe;rw[<-aW]at eH;have nj:=lh eH.1;have kf:=lh bZ;clear X F hf hn hI Y Z g J I yu hem hq eC aW bZ eG eH;conv=>arg 2;whnf
  go_wp2_with fail
  refine HL.o.mono ?_;rintro e w2⟨v2,rfl,o,p⟩;obtain⟨p2,jW,rfl,dI,fR,de⟩:=o.slice;have u:=lh p;rw[<-HQ.o];clear o p de dI;go_wp2_with fail
  refine(jI.o _ u.o).mono ?_;rintro e w3⟨rfl,M3,dE,bh⟩;have U:=(MFr.of_below (M:=M1) u.o).trans bh;have hl:=Z81 dE (d:=d) nj.o (U.tree O.o.1 O.o.2).1 (U.tree O.o.1 O.o.2).2 Re nx;rw[<-kf.o]at hl;have bP:=lh U;have oR:=lh hl;simp only[ATree.ptr]at oR;clear dE bh U hl;go_wp2_with fail
  refine oR.o.mono ?_;rintro e w4⟨rfl,M4,fG,bg⟩;have jd:=lh fG;have kr:=lh (bP.o.trans bg);exact Zxq
def Vn(vr:Int)(s:MSt)(t:kB)(v:LVal):MSt:=if 0<=s.H.objectOf vr then s.put (s.H.objectOf vr) t v false else s.write vr t v
def Zjg{t:kB}{v:LVal}(hi:Inv s (d+1))(g:v.ok s.H.objects.length):Inv (Vn vr s t v) d/\Ext s (Vn vr s t v):=by
 unfold Vn;split;·exact CC hi g
 .exact Z84 hi g
def Zp1(hC:C.Ok)(hS:EvS C M w st vr M1 W s)(ha:TreeAt W B a)(hf:a.free M1)(iY:(a.nt C.N).stm/\(a.nt C.N).tree.many<=1500)(hn:a.kids.length<=1500){jy:Int}
 (hI:Inv s (d+6*(a.nt C.N).funcs.length))(h0:0<=jy)(h1:jy<s.H.scopes.length)(fr:FrA 193 (Jj C w sc a [(19,vI jy)]) [] A)
 (HK:∀A' o M',FrA 193 (Jj C w sc a [(19,vI jy)]) [] A'->MAt C M' o (s.funcs (λs t=>s.loose vr t) (Vn vr) (a.nt C.N).funcs jy ⟨st,vr⟩)->MFr M1 M' W o->K A' o)(hQ:∀c a d v w,Q (.panic c) (Act.put a d v) w->Q (.panic c) a w) :
 (ll [1,1,1,1,1,1,1,1,1,1,0]).wp Tryz.prog (Exit.then K Q) A W:=by
 have iM:=Wq iY.1 iY.2;rw[YX]at HK hI iM;have HL:=lh (ZZ W B a ha Qe);obtain⟨P,hP⟩:=zX (a.kids.filter xp)
 rw[<-hP]at HL HK hI iM;refine Zp7 ?_;intro nr;have vX:P.length<=1500:=QU
 obtain⟨S,mX⟩:=zX (s.funcs (λs t=>s.loose vr t) (Vn vr) (P.map (ATree.nt C.N)) jy ⟨st,vr⟩)
 rw[<-mX]at HK;rw[Ym]at hI;refine Zsd ?_;intro nZ;obtain⟨qA,HO,O,HKK,fE,yc,ss,jR,HI⟩:=lB hC (Y4 hS.mat.old.size (Y0 _)) (Yu ha hf) HK hQ hS mX (Yu h0 h1) hI;unfold Jj at fr;obtain⟨xt,rfl,e0,e2,e7,e8,gU,uw,-⟩:=Zby fr;rw[e0,e2,e7,e8,gU,uw];clear e0 e2 e7 e8 gU uw fr;clear hC hS ha hf HK hP mX hI h0 h1 iY iM hQ;unfold ATree.ptr at HL;conv=>arg 2;whnf
 go_wp2_with fail
 refine HL.o.mono ?_;rintro e w5⟨v5,rfl,hZ,eO⟩;obtain⟨p5,rg,rfl,jo,mU,gD⟩:=hZ.slice;have gC:∀g,(Value.slice p5 P.length rg).ownBlock=some g->¬M1.has g:=λg hg=>yc.o.mat.fresh (Y9 hZ g hg).1;obtain⟨m,fd⟩:=zX P.length
 rw[<-fd]at jo hZ gC ⊢;have gZ:=lh eO;have lA:=lh (yc.o.bel eO);refine Ztq ?_;intro N5 kN iu HQ1 lp;clear hZ eO gD gC fd HL;go_wp2_with fail
 go_loopw [125] (λi wr=>∃(k:Nat) (U:MRep) (I:MSt),k<=m/\i=(vI k)/\Hid (MAt C U wr I)/\Hid (MFr M1 U w5 wr)/\Hid (Inv I (d+6*(m-k)))/\Hid (Ext s I)/\Hid (S=I.funcs (λs t=>s.loose vr t) (Vn vr) ((P.drop k).map (ATree.nt C.N)) jy ⟨st,vr⟩)) (λi _=>m-(intOf i).toNat)
 case atStart=>exact⟨0,M1,s,Yh _,rfl,lh lA.o.mat,lh (.refl _ _),lh (HI.o.less Sn),lh (Ext.refl _),lh Q3⟩
 case round=>
  obtain⟨k,U,I,hk,rfl,HMk,HFk,eu,dJ,HRk⟩:=hrel;by_cases bY:k<m
  .obtain⟨y,hy⟩:∃y,P[k]? =some y:=⟨_,Y6 Qw⟩
   obtain⟨g0,hp⟩:=iu.o k y hy;subst hp;refine Ztu ?_;intro aV bM cx HFz;have nQ:=eu.o.less (d':=d+6*(m-(k+1))+6) Qe;have ig:0<=jy/\jy<I.H.scopes.length:=⟨jR.o.1,by have h1:=jR.o.2;have h3:=dJ.o.ls;omega⟩
   obtain⟨s1,aL⟩:=zX (I.loose vr y.text)
   have gA:=Zce HMk.o.drew eu.o vr y.text;have X:=Z8c (d:=d+6*(m-(k+1))+5) (sc:=vr) (name:=y.text) nQ;rw[<-aL]at gA X;have KD:=lh gA;have ai:jy<s1.H.scopes.length:=by have:=X.2.ls;omega
   have gG:=λ(o:kV) (M':MRep) (h:MAt C M' o s1) (f:MFr M1 M' W o)=>Z33 qA.o h (d:=d+6*(m-(k+1))+1) (X.1.less Qe) ((f.tree O.o.1 O.o.2).1.kid bM) ((f.tree O.o.1 O.o.2).2.kid bM) (nZ.o y aV) jy ⟨st,vr⟩ ig.1 ai;obtain⟨p,dG⟩:=zX s1.nextO
   obtain⟨sf,jr⟩:=zX (s1.funS (y.nt C.N) jy ⟨st,vr⟩)
   rw[<-dG,<-jr]at gG;have iD:=lh gG;simp only[ATree.ptr]at iD;obtain⟨j1,j2,j3⟩:=Z6x (d:=d+6*(m-(k+1))+1) (n:=y.nt C.N) (sc:=jy) (fr:=⟨st,vr⟩) (X.1.less Qe) (nZ.o y aV) ig.1 ai;rw[<-jr]at j1 j2 j3;have j8:(LVal.ref p).ok sf.H.objects.length:=Ti (by rw[dG];show(0:Int)<=s1.H.objects.length;omega) (by rw[j3,dG];show(s1.H.objects.length:Int)<_;omega);obtain⟨sb,aM⟩:=zX (Vn vr sf y.text (.ref p))
   have ej:=Zjg (d:=d+6*(m-(k+1))) (vr:=vr) (t:=y.text) (v:=.ref p) j1 j8;rw[<-aM]at ej;have Y:=HRk.o;rw[show P.drop k=y::P.drop (k+1) by
    refine Xh ?_;intro hl he;rw[Yt hl,he],List.map_cons,Z6z,sw,<-aL,<-jr,<-dG,<-aM]at Y
   obtain⟨bD,HJ,tv,tz,cD⟩:=gq Y j1 ej.1 (((dJ.o.trans X.2).trans j2).trans ej.2) aM
   have AU:=lh (show∀o M',MFr U M' wr o->vC o w.heap.size 1 (vI vr)/\vC o y.b 1 (.string y.text)from
    λo M' f=>⟨((lA.o.lf.fr HFk.o).fr f).cell rfl,((HFz.o.trans f).tree O.o.1 O.o.2).1.kid bM|>.c1⟩)
   clear nQ ig gA X ai gG dG jr j1 j2 j3 j8 aM ej Y hy aL aV;go_wp2_with fail
   refine Z9 [(true,0),(true,1),(true,2),(true,3),(true,4),(true,5),(true,6)] [7] (λW=>vC W w.heap.size 1 (vI vr)/\vC W y.b 1 (.string y.text)) Qh Qh (λc a d v w h=>fE.o c a d v w h) (AU.o _ _ (.drew (.refl _ _))) (λbw=>?_);refine pU ?_;refine Z1 ?_;go_wp2_with fail
   refine KD.o.mono ?_;rintro e W1⟨rfl,Ma,nS,iH⟩;have F1:=(MFr.drew (.refl U wr)).trans iH;have Dg:=lh nS;have dW:=lh F1;obtain⟨f0,f1⟩:=((lA.o.lf.fr HFk.o).fr F1).two;have Dl:=lh (iD.o _ _ nS (HFz.o.trans F1));clear nS iH F1 iD KD cx;go_wp2_with fail
   refine Dl.o.mono ?_;rintro e W2⟨rfl,Mb,yq,uv⟩;have u:=Lo.new (wE:=W) yq (Y4 HFz.o.size (Y4 dW.o.size uv.size)) HO.o #[vI 5,vI p,.string ⟨#[]⟩] 71;have J:=Z2 W2 (.cells #[vI 5,vI p,.string ⟨#[]⟩] 71);obtain⟨gS,bU,bc⟩:=ds u (yq.below J) (dW.o.trans (uv.trans (.of_below J)));clear yq uv u J f0 f1 Dl Dg;go_wp2_with fail
   have u:=gS.o;have aO:=bU.o;have Z:=bc.o;clear gS bU bc;generalize W2.alloc (.cells #[vI 5,vI p,.string ⟨#[]⟩] 71)=W3 at u aO Z ⊢;generalize W2.heap.size=F at u aO Z ⊢;have dH:=lh aO;have bP:=lh (HFk.o.trans Z)
   have nR:=lh (show∀o M',MFr Mb M' W3 o->vC o y.b 1 (.string y.text)/\vC o F 0 (vI 5)/\vC o F 1 (vI p)/\vC o F 2 (.string ⟨#[]⟩)from
    λo M' f=>⟨(AU.o _ _ (Z.trans f)).2,(u.fr f).cell rfl,(u.fr f).cell rfl,(u.fr f).cell rfl⟩)
   have Dm:=lh (show∀o M',MFr Mb M' W3 o->vC o w.heap.size 1 (vI vr)from λo M' f=>(AU.o _ _ (Z.trans f)).1);have yg:=Z6b dH.o.drew.heap vr;obtain⟨oo,wN⟩:=zX (sf.H.objectOf vr)
   rw[<-wN]at yg;have N6:=lh yg;have CZ:=lh wN;clear u aO Z yg wN;refine Z9 [(true,0),(true,1),(true,2),(true,3),(true,4)] [5,6] (λW=>vC W w.heap.size 1 (vI vr)) Qh Qh (λc a d v w h=>fE.o c a d v w h) (Dm.o _ _ (.drew (.refl _ _))) (λbw=>?_);refine pU ?_;refine Z1 ?_;go_wp2_with fail
   refine N6.o.mono ?_;rintro e W4⟨rfl,KE⟩;rw[KE];clear KE W4;by_cases ho:0<=oo
   .have hpt:=zG dH.o.drew.drew HJ.o oo y.text (.ref p) false;have qJ:sf.put oo y.text (.ref p) false=sb:=by rw[cD.o];unfold Vn;rw[<-CZ.o,Y5 ho]
    rw[qJ]at hpt;simp only[LVal.agg,LVal.ref]at hpt;have ku:=lh hpt;clear hpt qJ;go_wp2_with fail
    refine Z9 [(true,0),(true,1),(true,2),(true,3),(true,4),(true,5),(true,6),(true,7),(true,8)] [9] (λW=>vC W y.b 1 (.string y.text)/\vC W F 0 (vI 5)/\vC W F 1 (vI p)/\vC W F 2 (.string ⟨#[]⟩)) Qh Qh (λc a d v w h=>fE.o c a d v w h) (nR.o _ _ ((MFr.drew (.refl _ _)).trans (.drew (.refl _ _)))) (λbw=>?_);exact AaW
   .have hpt:=Zf2 dH.o.drew.drew HJ.o vr y.text (.ref p);have qJ:sf.write vr y.text (.ref p)=sb:=by rw[cD.o];unfold Vn;rw[<-CZ.o,Y3 ho]
    rw[qJ]at hpt;simp only[LVal.agg,LVal.ref]at hpt;have ku:=lh hpt;clear hpt qJ;go_wp2_with fail
    refine Z9 [(true,0),(true,1),(true,2),(true,3),(true,4),(true,5),(true,6),(true,7),(true,8),(true,9)] [10] (λW=>vC W w.heap.size 1 (vI vr)/\vC W y.b 1 (.string y.text)/\vC W F 0 (vI 5)/\vC W F 1 (vI p)/\vC W F 2 (.string ⟨#[]⟩)) Qh Qh (λc a d v w h=>fE.o c a d v w h) (⟨Dm.o _ _ ((MFr.drew (.refl _ _)).trans (.drew (.refl _ _))),nR.o _ _ ((MFr.drew (.refl _ _)).trans (.drew (.refl _ _)))⟩) (λbw=>?_)
    exact AaW
  .have aT:k=m:=by omega
   subst aT;have Y:=HRk.o;rw[List.drop_eq_nil_of_le Q4]at Y;have an:S=I:=Y;go_wp2_with fail
   exact HKK.o _ _ U ⟨rfl,⟨rfl,rfl,rfl,rfl,rfl,rfl,trivial⟩,rfl⟩ Rg ((MFr.of_below gZ.o).trans HFk.o)
end
section
variable {C:RCtx}{M M1:MRep}{w W:kV}{s:MSt}{B:Nat}{a:ATree}{sc vr:Int}{st:Bool}{d:Nat}{D:DF}{b jy:Int}{A:Act}{K:Act->kV->Prop}{Q:Exit->Act->kV->Prop}
def evR(r:MSt×Except Er (Bool×LVal)):MSt×Except Er LVal:=match r with
 |(g,.ok _)=>(g,.ok g.last)
 |(g,.error e)=>(g,.error e)
def Zro(cV:FR C D b)(hD:DH D b)(g:EvS C M w st vr M1 W s)(Y:TreeAt W B a)(hf:a.free M1)(hst:(a.nt C.N).stm)(hm:(a.nt C.N).tree.many<=1500)(hn:a.kids.length<=1500){m:MSt}(gL:m={s with last:=LVal.zero})
 (hI:Inv m d)(hA:FAt m jy ⟨st,vr⟩)(hb:b<=m.steps)(hs:m.steps<=20000)(fr:FrA 193 (Jj C w sc a [(19,vI jy)]) [] A)
 (Z:∀y a' w',(results f145 a'.tmps).run Tryz.prog w'=.ok y w'->a'.defers=[]->bK C M w (evR (pZ D jy ⟨st,vr⟩ (a.nt C.N).kids m)) (.returned y) w'->Q .ret a' w')(hQ:∀c a d v w,Q (.panic c) (Act.put a d v) w->Q (.panic c) a w) :
 (ll [1,1,1,1,1,1,1,1,1,1,1]).wp Tryz.prog Q A W:=by
 obtain⟨pb,cb,J,bq,d7,cW⟩:=lL.slice Y.rowOf;obtain⟨qb,mD⟩:=zX a.kids.length
 rw[<-mD]at J;obtain⟨r,hr⟩:=zX (pZ D jy ⟨st,vr⟩ (a.nt C.N).kids m)
 rw[<-hr]at Z;rw[Zw,zI]at hr;have ao:=Wd hst hm;refine Zxn ?_;intro bC;obtain⟨o,p⟩:=Zcx g.mat LVal.zero;rw[<-gL]at o;simp only[LVal.zero]at o p;have AZ:=g.mat.cell 14 (vI s.last.kind) Qq;have A0:=g.mat.cell 15 (vI s.last.n) Qq;have Ba:=g.mat.cell 16 (.string s.last.s) Qq;have Da:=g.mat.fz 14;have Db:=g.mat.fz 15;have Dc:=g.mat.fz 16
 obtain⟨W1,ux⟩:=zX (((W.setCell ⟨C.mb,14,none⟩ (vI 0)).setCell ⟨C.mb,15,none⟩ (vI 0)).setCell ⟨C.mb,16,none⟩ (.string ⟨#[]⟩))
 rw[<-ux]at o p;have O:=g.step o p;obtain⟨GL,tI⟩:=p.tree Y hf;have HC:=lh (Calls.dres (Z5c (fr:=⟨st,vr⟩) cV hD o.drew hI hA hb hs GL.drew tI hn bC));rw[J,<-hr]at HC
 have Dn:=lh (show∀u M',MFr M1 M' W1 u->vC u w.heap.size 0 (.bool st)/\vC u w.heap.size 1 (vI vr)/\vC u a.b 3 (.slice pb qb cb)from
  λu M' f=>⟨(O.lf.fr f).cell rfl,(O.lf.fr f).cell rfl,by have:=(f.tree GL tI).1.c3;rwa[J]at this⟩)
 obtain⟨ed,fe,fE,od⟩:=gp O Z hQ ux;unfold Jj at fr;obtain⟨xt,rfl,e0,e2,e7,e8,gU,uw,-⟩:=Zby fr;rw[e0,e2,e7,e8,gU,uw];clear e0 e2 e7 e8 gU uw fr;clear cV hD g Y hf hst hm hn gL hI hA hb hs Z hQ J bq d7 cW mD hr ao bC o p ux O GL tI;conv=>arg 2;whnf
 go_wp2_with fail
 rw[<-od.o];clear AZ A0 Ba Da Db Dc;refine Z9 [(true,0),(true,1),(true,2),(true,3),(true,4),(true,5),(true,6),(false,7),(true,8),(true,9),(true,10),(true,11)] [12] (λW=>vC W w.heap.size 0 (.bool st)/\vC W w.heap.size 1 (vI vr)/\vC W a.b 3 (.slice pb qb cb)) Qh Qh (λc a d v w h=>fE.o c a d v w h) (Dn.o _ _ (.drew (.refl _ _))) (λbw=>?_);refine iB ?_;intro K hK;refine HC.o.mono ?_;rintro e W2⟨M2,b2,k2,n2,t2,nN,rfl,hr2⟩
 have F2:=(MFr.drew (.refl M1 W1)).trans hr2.2.1;refine hK _ _ (Dn.o _ _ F2) ?_;clear hK K;have bD:=lh hr2;have U:=lh (ed.o.step hr2.1 F2);have AZ:=hr2.1.cell 14 (vI r.1.last.kind) Qq;have A0:=hr2.1.cell 15 (vI r.1.last.n) Qq;have Ba:=hr2.1.cell 16 (.string r.1.last.s) Qq;obtain⟨q0,q1,q2,z0,z1,z2⟩:=U.o.lr.six;clear hr2 F2 HC;refine zD ?_;obtain⟨F,fm⟩:=zX r.1.last.kind
 obtain⟨I,ia⟩:=zX r.1.last.n
 obtain⟨lt,aA⟩:=zX r.1.last.s
 rw[<-fm]at AZ;rw[<-ia]at A0;rw[<-aA]at Ba;have N7:=lh (show r.1.last=⟨F,I,lt⟩ by rw[fm,ia,aA]);clear fm ia aA;go_wp2_with fail
 refine fe.o (.tuple #[.agg #[vI F,vI I,.string lt],nN]) _ _ ?_ rfl ?_;·exact YP
 .obtain⟨g1,g2,g3⟩:=U.o.lr.ret (x':=(vI F)) (y':=(vI I)) (z':=.string lt) U.o.mat U.o.fr;have h3:=bD.o.2.2;obtain⟨X,q9⟩:=r;cases q9 with
  |error x9=>exact⟨M2,g1,g2,⟨F,I,lt⟩,nN,rfl,g3 _ _ h3⟩
  |ok v9=>
    obtain⟨-,rfl⟩:=h3;refine⟨M2,g1,g2,?_⟩;show _=Ending.returned (.tuple #[.agg #[vI X.last.kind,vI X.last.n,.string X.last.s],.nilIface]);rw[show X.last=⟨F,I,lt⟩from N7.o]
end
section
variable {C:RCtx}{M M1:MRep}{w W:kV}{s:MSt}{B:Nat}{a:ATree}{sc vr:Int}{st:Bool}{d:Nat}{D:DF}{b:Int}{A:Act}{K:Act->kV->Prop}{Q:Exit->Act->kV->Prop}
theorem Zlb:ll [1,1,1,1,1,1,1]=Code.seq (ll [1,1,1,1,1,1,1,0]) (Code.seq (ll [1,1,1,1,1,1,1,1,0]) (Code.seq (ll [1,1,1,1,1,1,1,1,1,0]) (Code.seq (ll [1,1,1,1,1,1,1,1,1,1,0]) (ll [1,1,1,1,1,1,1,1,1,1,1])))):=by kernel_rfl
def Zhg:∀(l:List kB) (u:MSt),(u.looses l vr).next=u.next:=by
 have g:∀(l:List kB) (u:MSt),(u.looses l vr).H.scopes.length=u.H.scopes.length:=by
  intro l;induction l with
  |nil=>intro u;rfl
  |cons x l m=>
    intro u;refine(m (u.loose vr x)).trans ?_;exact Zyn
 intro l u;unfold MSt.next;rw[g]
def Znf{D:DF}{n:NT}{sc:Int}{fr:Frm}:Vg D n sc fr s=evR (pZ D (if n.lets.isEmpty then sc else s.next) fr n.kids (s.evalS n sc fr)):=by
 unfold Vg evR;rcases pZ D (if n.lets.isEmpty then sc else s.next) fr n.kids (s.evalS n sc fr)with⟨g,e|v⟩<;>rfl
def Zor(fr:FrA 193 (Jj C w sc a []) [] A)(m:∀o,FrA 193 (Jj C w sc a [(19,vI sc)]) [] o->K o W):(ll [1,1,1,1,1,1,1,1,0]).wp Tryz.prog (Exit.then K Q) A W:=by
 have g:=lh m;unfold Jj at fr;obtain⟨I,rfl,p,u,y,F,G,-⟩:=Zby fr;rw[p,u,y,F,G];clear p u y F G fr;clear m;conv=>arg 2;whnf
 go_wp2_with fail
 exact g.o _ ⟨rfl,⟨rfl,rfl,rfl,rfl,rfl,rfl,trivial⟩,rfl⟩
def Zn1(hC:C.Ok)(cV:FR C D b)(hD:DH D b)(Z:EvS C M w st vr M1 W s)(ha:TreeAt W B a)(hf:a.free M1)(hst:(a.nt C.N).stm)(J:(a.nt C.N).tree.many<=1500)
 (hI:Inv s (d+13600))(hA:FAt s sc ⟨st,vr⟩)(hb:b<=s.steps)(hs:s.steps<=20000)(fr:FrA 193 (Jj C w sc a []) [] A)
 (HR:∀y a' w',(results f145 a'.tmps).run Tryz.prog w'=.ok y w'->a'.defers=[]->bK C M w (Vg D (a.nt C.N) sc ⟨st,vr⟩ s) (.returned y) w'->Q .ret a' w')(hQ:∀c a d v w,Q (.panic c) (Act.put a d v) w->Q (.panic c) a w) :
 (ll [1,1,1,1,1,1,1]).wp Tryz.prog Q A W:=by
 have dw:(a.nt C.N).tree.many=a.many:=by rw[WG];exact U8 a
 have O:a.kids.length<=1500:=QM
 have dr:(yi a).length<=1500:=by have:=Z8a (n:=a.nt C.N);rw[Wk]at this;omega
 have qI:(a.nt C.N).funcs.length<=1500:=by have:=Z6u (n:=a.nt C.N);have:=Td (n:=a.nt C.N);omega
 have nI:(a.nt C.N).lets.length<=1500:=by have:=Z73 (n:=a.nt C.N);have:=Td (n:=a.nt C.N);omega
 obtain⟨s1,F⟩:=zX (s.looses (a.nt C.N).vars vr)
 have I:s1.next=s.next:=by rw[F];exact Zhg _ _
 obtain⟨jy,m⟩:=zX ((if(a.nt C.N).lets.isEmpty then sc else s.next))
 obtain⟨U,X⟩:=zX ((if(a.nt C.N).lets.isEmpty then s1 else(s1.opens sc (-1) (-3)).lets (a.nt C.N).lets s1.next))
 obtain⟨s3,cE⟩:=zX (U.funcs (λs t=>s.loose vr t) (Vn vr) (a.nt C.N).funcs jy ⟨st,vr⟩)
 obtain⟨o,gL⟩:∃o:MSt,o={s3 with last:=LVal.zero}:=⟨_,rfl⟩
 have hE:s.evalS (a.nt C.N) sc ⟨st,vr⟩=o:=by
  rw[gL,cE,m,<-I,X,F];rfl
 have am:=Znf (D:=D) (n:=a.nt C.N) (sc:=sc) (fr:=⟨st,vr⟩) (s:=s);rw[hE,<-m]at am;rw[am]at HR;obtain⟨t1,t2,t3⟩:=Zff hI hA hst J;obtain⟨u1,u2⟩:=Zcr (s:=s) (n:=a.nt C.N) (sc:=sc) (fr:=⟨st,vr⟩);rw[hE]at t1 t2 t3 u1 u2;rw[<-m]at t3;have p:=Zcb (l:=(a.nt C.N).vars) (sc:=vr) (d:=d+12100) (s:=s) (hI.less (by rw[Wk];omega));rw[<-F]at p;have g:=hA.ext p.2;have i2:Inv U (d+9000)/\0<=jy/\jy<U.H.scopes.length:=by
  rw[X,m];cases hem:(a.nt C.N).lets.isEmpty with
  |true=>exact⟨p.1.less Qe,g.lo,g.hi⟩
  |false=>
    simp only[Bool.false_eq_true,if_false];obtain⟨b1,b2⟩:=p.1.opens (d:=d+12099) (outer:=sc) (object:=-1) (owner:=-3) (by have:=g.lo;omega) g.hi Qg Qe;obtain⟨c1,c2⟩:=Wi (l:=(a.nt C.N).lets) (sc:=s1.next) (d:=d+10599) (b1.less Qe);have Y:=(g.opens b2).ext c2;rw[I]at Y;exact⟨c1.less Qe,Y.lo,by rw[I];exact Y.hi⟩
 have u:b<=o.steps/\o.steps<=20000:=Qe
 rw[Zlb];refine pT ?_;intro K HK;refine Zt6 (d:=d+12100) Z ha Qe (hI.less Qe) fr (λA3 W3 M3 ur dE bh=>?_);rw[<-F]at dE;have wG:=Z.step dE bh;obtain⟨KF,xy⟩:=bh.tree ha hf;refine HK.o _ _ ?_;clear HK K;refine pT ?_;intro K HK;refine Zor ur (λA4 uu=>?_);refine HK.o _ _ ?_;clear HK K;refine pT ?_;intro K HK;refine Zt5 (d:=d+10000) wG KF xy O (p.1.less Qe) (by have:=g.lo;omega) g.hi uu (λA5 W5 M5 Bg me eP=>?_);rw[<-X]at me;rw[I,<-m]at Bg;have KG:=wG.step me eP
 obtain⟨KH,KI⟩:=eP.tree KF xy;refine HK.o _ _ ?_;clear HK K;refine pT ?_;intro K HK;refine Zp1 (d:=d) hC KG KH KI ⟨hst,J⟩ O (i2.1.less Qe) i2.2.1 i2.2.2 Bg (λA6 W6 M6 Bh rD fF=>?_) hQ;rw[<-cE]at rD;have N8:=KG.step rD fF;obtain⟨N9,N'⟩:=fF.tree KH KI;refine HK.o _ _ ?_;clear HK K;exact Zro (d:=d) cV hD N8 N9 N' hst J O gL t1 t3 u.1 u.2 Bh HR hQ
end
structure Ar(k:Int)(n:Nat):Prop where
 call:k=35->n≠0
 two:k=9\/k=8\/k=24\/k=5\/k=37->n=2
 if':k=7->n=2\/n=3
 one:k=13\/k=34->n=1
theorem Ar.any{k:Int}{n:Nat}(h:k≠35/\k≠9/\k≠8/\k≠24/\k≠5/\k≠37/\k≠7/\k≠13/\k≠34):Ar k n:=⟨by omega,by omega,by omega,by omega⟩
mutual
def WT:Tree->Prop
 | .mk k _ _ l=>Ar k l.length/\WTL l
def WTL:List Tree->Prop
 | []=>True
 |t::l=>WT t/\WTL l
end
def WA(a:ATree):Prop:=∀x∈a.subs,Ar x.kind x.kids.length
theorem WA.kid{a k:ATree}(h:WA a)(hk:k∈a.kids):WA k:=λx hx=>h x (Zd0 hk hx)
theorem WA.self{a:ATree}(h:WA a):Ar a.kind a.kids.length:=h a (Z8f a)
mutual
theorem Ztd:∀(a:ATree),WT a.tree->WA a
 | .mk b v k t n g,h=>by
   intro x hx;simp only[ATree.tree,WT]at h;simp only[ATree.subs,List.mem_cons]at hx;rcases hx with rfl|hx
   .simp only[ATree.kind,ATree.kids];have:=h.1;rw[Zan,Ym]at this;exact this
   .exact Zr5 g h.2 x hx
theorem Zr5:∀(l:List ATree),WTL (f6 l)->∀x∈nc l,Ar x.kind x.kids.length
 | [],_,x,hx=>by simp[nc]at hx
 |a::l,h,x,hx=>by
   simp only[f6,WTL]at h;simp only[nc,List.mem_append]at hx;rcases hx with hx|hx;·exact Ztd a h.1 x hx
   .exact Zr5 l h.2 x hx
end
def AbJ{l:List ATree}(h:l.length=2):∃x y,l=[x,y]:=by
 match l,h with
 | [x,y],_=>exact⟨x,y,rfl⟩
def Zwj(B m:Nat):Prop:=
 ∀ (a : ATree) (w : kV) (st ins : Bool), a.many ≤ m → WA a → a.many < 274877906944 → TreeAt w B a →
   kC 89 #[.agg #[.bool st,.bool ins],a.ptr] w λe w'=>e=.returned (vI (qL a st ins))/\kW w w'
def Up(B m:Nat):Prop:=
 ∀ (a : ATree) (w : kV) (st ins : Bool), a.many ≤ m + 1 → (∀ k ∈ a.kids, WA k) → a.many < 274877906944 → TreeAt w B a →
   kC 48 #[.agg #[.bool st,.bool ins],a.ptr] w λe w'=>e=.returned (vI (qy a.kids st ins))/\kW w w'
def Zif{l:List ATree}{k:Nat}{x:ATree}{st ins:Bool}(h:l[k]?=some x):qy (l.drop k) st ins=if qL x st ins≠0 then qL x st ins else qy (l.drop (k+1)) st ins:=by
 obtain⟨hk,he⟩:=List.getElem?_eq_some_iff.1 h;rw[Yt hk,he];rfl
def Zhl{B m:Nat}(hN:Zwj B m):Up B m:=by
 intro a w st ins hm hA eR hT;obtain⟨p,cp,hv,bq,d7⟩:=hT.vOf;refine Zyt ?_;intro c3 aG;have ei:kW w (w.alloc (.cells #[.bool st,.bool ins] 122)):=(Y2 _ _).alloc (Y0 _) _;have ry:(w.alloc (.cells #[.bool st,.bool ins] 122)).cell? ⟨a.b,3,none⟩=some (.slice p a.kids.length cp):=(Zb hT.lt).trans c3;have J:(w.alloc (.cells #[.bool st,.bool ins] 122)).cell? ⟨w.heap.size,0,none⟩=some (.bool st):=Qm
 have O:(w.alloc (.cells #[.bool st,.bool ins] 122)).cell? ⟨w.heap.size,1,none⟩=some (.bool ins):=Qm
 have U:(w.alloc (.cells #[.bool st,.bool ins] 122)).heap.size=w.heap.size+1:=Qm
 have HN:=lh (λ(x:ATree) (hx:x∈a.kids) (W:kV) (h:TreeAt W B x)=>hN x W st ins (by have:=Z78 hx;omega) (hA x hx) (by have:=Z78 hx;omega) h);obtain⟨HT,t8,HV⟩:=ds hT ei hv;obtain⟨n,X⟩:=zX a.kids.length
 rw[<-X]at c3 ry aG bq;have Y:=lh X;obtain⟨R,Z⟩:=zX (qy a.kids st ins)
 rw[<-Z];have HR:=lh Z;obtain⟨w1,dU⟩:=zX (w.alloc (.cells #[.bool st,.bool ins] 122))
 have od:=lh dU;rw[<-dU]at U J O;obtain⟨xI,D0,D1⟩:=ds U J O;clear hN hA hT hm eR ei hv X Z dU U J O;unfold ATree.ptr;go_enter func48,ntmps48
 go_wp2_with fail
 go_loopw [15] (λi wr=>∃(k:Nat),k<=n/\i=(vI k)/\Hid (kW w1 wr)/\Hid (qy (a.kids.drop k) st ins=R)) (λi _=>n-(intOf i).toNat)
 case atStart=>exact⟨0,Yh _,rfl,lh (by rw[od.o];exact Y2 _ _),lh HR.o.symm⟩
 case round=>
  obtain⟨k,hk,rfl,u,fe⟩:=hrel;have e0:vC wr w.heap.size 0 (.bool st):=(Yb (u.o.block w.heap.size (by rw[xI.o];omega))).trans D0.o;have e1:vC wr w.heap.size 1 (.bool ins):=(Yb (u.o.block w.heap.size (by rw[xI.o];omega))).trans D1.o;have fc:Hid (kW w wr):=lh (by
   have o:=t8.o;rw[<-od.o]at o;exact o.trans (u.o.mono o.size))
  by_cases bY:k<n
  .obtain⟨x,hx⟩:∃x,a.kids[k]? =some x:=⟨_,Y6 (by rw[<-Y.o];exact bY)⟩
   have eE:TreeAt wr B a:=HT.o.bel fc.o;have ae:=eE.rowOf;rcases Z4 ae with⟨_,h2⟩|⟨g0,gB,gr,_⟩;·rw[<-Y.o]at h2;omega
   have hp:p=some ⟨g0,0,none⟩:=by
    exact Vb
   subst hp;refine SS ?_;intro cx;have aV:x∈a.kids:=Yd hx;have y:=HN.o x aV wr (eE.kid aV);have F:=Zif (st:=st) (ins:=ins) hx;rw[fe.o]at F;obtain⟨r,hr⟩:=zX (qL x st ins)
   rw[<-hr]at y F;unfold ATree.ptr at cx y;have dO:=lh y;have fh:=lh F;clear eE ae gr hx y aV F hr;go_wp2_with fail
   refine dO.o.mono ?_;rintro e w2⟨rfl,aw⟩;have yv:w1.heap.size<=wr.heap.size:=u.o.size;have aP:=lh (u.o.trans (aw.mono yv));have sU:=zT fc aw;clear aw dO;by_cases I:r=0
   .subst I;go_wp2;go_roundw
    case rel=>
     have o:=fh.o;simp only[ne_eq,not_true_eq_false,if_false]at o;exact⟨k+1,by omega,by go_num,aP,lh o.symm⟩
    case measure=>simp[intOf];omega
   .have n0:(r !=0)=true:=by simpa using I
    have HZ:=lh I;clear I;go_wp2;go_ret;refine⟨?_,sU.o⟩;have o:=fh.o;rw[Y5 HZ.o]at o;rw[o];rfl
  .have aT:k=n:=by omega
   subst aT;go_wp2;go_ret;refine⟨?_,fc.o⟩;have o:=fe.o;rw[List.drop_of_length_le (by rw[<-Y.o];exact Y0 _)]at o;rw[<-o];rfl
