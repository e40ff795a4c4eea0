/- Package run: enter: its functions. -/
import Derived.Test.YtjikfacdcdiddaaGreatDoorJ23
set_option maxRecDepth 100000
set_option maxHeartbeats 20000000
set_option linter.unusedVariables false
set_option linter.unusedSimpArgs false
namespace Go.Proofs.YtjikfacdcdiddaaGreatDoor
open Go Go.RowKit
section
variable {C:RCtx}{M M1:MRep}{w z W:World}{s:MSt}{B:Nat}{x:CloR}{pn bd:ATree}{v:Value}{vs:List LVal}{nx:Int}{d:Nat}{A:Act}{K:Act->World->Prop}{Q:Exit->Act->World->Prop}
theorem Zoe(hc:EnC C M w z x pn bd B v vs)(hM:MAt C M1 W s)(hF:MFr M M1 z W)(ja:(bd.nt C.N).stm∧(bd.nt C.N).tree.many<=1500)(hn:bd.kids.length<=1500){fb:Nat}{wF:World}{st:Bool}(lf:Lo C M1 wF W fb #[.bool st,vI nx] 63)
 (hI:Inv s (d+6*(bd.nt C.N).funcs.length))(h0:0<=nx)(h1:nx<s.H.scopes.length)(fr:FrA 240 (sL C w v nx bd [(21,vP fb)]) [] A)
 (O:∀A' E M',FrA 240 (sL C w v nx bd [(21,vP fb)]) [] A'->MAt C M' E (s.funcs (λs _=>s) (λt a v=>t.bindTo nx a v) (bd.nt C.N).funcs nx ⟨st,nx⟩)->MFr M1 M' W E->K A' E)(hQ:∀c a d v w,Q (.panic c) (Act.put a d v) w->Q (.panic c) a w) :
 (iA [1,1,1,1,1,1,1,1,1,1,1,0]).wp Tryz.prog (Exit.then K Q) A W:=by
 have Z:=TK ja.1 ja.2;rw[VB]at O hI Z;have cV:=hc.bdT;have cH:=hF.tree cV.1 cV.2;have HL:=lh (Vw W B bd cH.1 O');obtain⟨P,hP⟩:=zX (bd.kids.filter wW)
 rw[<-hP]at HL O hI Z;have oV:=lh (show∀x∈P,x∈bd.kids from λx hx=>(List.mem_filter.1 (hP▸hx)).1);have vK:P.length<=1500:=PV
 obtain⟨S,hS⟩:=zX (s.funcs (λs _=>s) (λt a v=>t.bindTo nx a v) (P.map (ATree.nt C.N)) nx ⟨st,nx⟩)
 rw[<-hS]at O;rw[Ym]at hI;have qp:=lh (show∀y∈P,zU (y.nt C.N)from λy hy=>Z _ (List.mem_map.2 ⟨y,hy,rfl⟩));have qr:=lh hc.ok;have HO:=lh (Y4 (Y4 hc.old hc.below.size) hF.size);have mf:=lh cH;have eg:=lh O;have ga:=lh hQ;have HM:=lh hM;have dH:=lh lf;have HS:=lh hS;have km:=lh (And.intro h0 h1);have HI:=lh hI;unfold sL at fr;obtain⟨pv,nv,cv,rfl⟩:∃pv nv cv,v=.slice pv nv cv:=by
  exact KF
 obtain⟨xt,rfl,e0,e2,e4,e6,e8,e9,qx,-⟩:=Tt fr;rw[e0,e2,e4,e6,e8,e9,qx];clear e0 e2 e4 e6 e8 e9 qx fr hc hF O cV cH hP hM hS hI h0 h1 lf ja Z hQ;unfold ATree.ptr at HL;conv=>arg 2;whnf
 go_wp2_with fail
 refine HL.o.mono ?_;rintro e w5⟨v5,rfl,U,eS⟩;obtain⟨p5,qf,rfl,jp,mP,fQ⟩:=U.slice;have gR:∀g,(Value.slice p5 P.length qf).ownBlock=some g->¬M1.has g:=λg hg=>HM.o.fresh (Y9 U g hg).1;obtain⟨m,fq⟩:=zX P.length
 rw[<-fq]at jp U gR ⊢;have rc:=lh (HM.o.below eS);have gy:=lh eS;have N5:=lh U;have lV:=lh gR;have jq:=lh fQ;have d7:=lh fq;have mm:m<=9223372036854775807:=O'
 clear U eS fQ gR fq HL;go_wp2_with fail
 go_loopw [192] (λi wr=>∃(k:Nat) (Mk:MRep) (p:MSt),k<=m∧i=(vI k)∧Hid (MAt C Mk wr p)∧Hid (MFr M1 Mk w5 wr)∧Hid (Inv p (d+6*(m-k)))∧Hid (Ext s p∧p.steps=s.steps)∧Hid (S=p.funcs (λs _=>s) (λt a v=>t.bindTo nx a v) ((P.drop k).map (ATree.nt C.N)) nx ⟨st,nx⟩)) (λi _=>m-(intOf i).toNat)
 case atStart=>exact⟨0,M1,s,Yh _,rfl,rc,lh (.refl _ _),lh (HI.o.less Rl),lh ⟨Ext.refl _,rfl⟩,lh Qu⟩
 case round=>
  obtain⟨k,Mk,p,hk,rfl,da,bH,eA,dO,dY⟩:=hrel;by_cases bV:k<m
  .obtain⟨y,hy⟩:∃y,P[k]? =some y:=⟨_,Y6 Pr⟩
   obtain⟨g0,hp⟩:=jq.o k y hy;subst hp;refine Zrp ?_;intro aU bN cx bM;have dT:=bM.o.tree mf.o.1 mf.o.2;have mg:=dT.1.kid bN;have f8:=dT.2.kid bN;obtain⟨f0,f1⟩:=(dH.o.fr bM.o).two;have nJ:=eA.o.less (d':=d+6*(m-(k+1))+6) O';have X:0<=nx∧nx<p.H.scopes.length:=⟨km.o.1,by have h1:=km.o.2;have h3:=dO.o.1.ls;omega⟩
   have gS:=XU qr.o da.o (d:=d+6*(m-(k+1))+2) (nJ.less O') mg f8 (qp.o y aU) nx ⟨st,nx⟩ X.1 X.2;obtain⟨o,Y⟩:=zX p.nextO
   obtain⟨u,ju⟩:=zX (p.funS (y.nt C.N) nx ⟨st,nx⟩)
   rw[<-Y,<-ju]at gS;have iC:=lh gS;simp only[ATree.ptr]at iC;obtain⟨j1,j2,j3⟩:=WU (d:=d+6*(m-(k+1))+1) (n:=y.nt C.N) (sc:=nx) (fr:=⟨st,nx⟩) (nJ.less O') (qp.o y aU) X.1 X.2;have vW:=(XH (s:=p) (sc:=nx) (fr:=⟨st,nx⟩) (n:=y.nt C.N)).2;rw[<-ju]at j1 j2 j3 vW;have HJ:=lh (show Inv u (d+6*(m-(k+1))+1)∧Ext p u∧(LVal.ref o).ok u.H.objects.length from⟨j1,j2,N' (by rw[Y];show(0:Int)<=p.H.objects.length;omega) (by rw[j3,Y];show(p.H.objects.length:Int)<_;omega)⟩)
   have JL:=lh (show Ext s u∧u.steps=s.steps from⟨dO.o.1.trans j2,vW.trans dO.o.2⟩);have F:=dY.o;rw[show P.drop k=y::P.drop (k+1) by
    obtain⟨hl,he⟩:=List.getElem?_eq_some_iff.1 hy;rw[List.drop_eq_getElem_cons hl,he],List.map_cons,Z6l,Zz,<-ju,<-Y]at F
   have dU:=lh F;clear dT mg f8 nJ X gS Y ju j1 j2 j3 vW F hy;go_wp2_with fail
   refine iC.o.mono ?_;rintro e W1⟨rfl,Ma,nL,iG⟩;have I:=Lo.new (wE:=W) nL (Y4 bM.o.size iG.size) HO.o #[vI 5,vI o,.string ⟨#[]⟩] 55;have aB:=Z1 W1 (.cells #[vI 5,vI o,.string ⟨#[]⟩] 55);have g9:=lh I;have bW:=lh (nL.below aB);have aZ:=lh (bM.o.trans (iG.trans (.of_below aB)));have qZ:=lh (bH.o.trans (iG.trans (.of_below aB)));clear nL iG I aB f0 f1 iC;go_wp2_with fail
   have I:=g9.o;have aQ:=bW.o;have aq:=aZ.o;have mv:=qZ.o;clear g9 bW aZ qZ;generalize W1.alloc (.cells #[vI 5,vI o,.string ⟨#[]⟩] 55)=W2 at I aQ aq mv ⊢;generalize W1.heap.size=J at I aQ aq mv ⊢;have ei:=lh mv;have FJ:=lh aq;clear aq mv
   have nK:=lh (show∀E M',MFr Ma M' W2 E->vC E y.b 1 (.string y.text)∧vC E J 0 (vI 5)∧vC E J 1 (vI o)∧vC E J 2 (.string ⟨#[]⟩)from
    λE M' f=>⟨((FJ.o.trans f).tree mf.o.1 mf.o.2).1.kid bN|>.c1,(I.fr f).cell rfl,(I.fr f).cell rfl,(I.fr f).cell rfl⟩)
   have ex:=YS (d:=d+6*(m-(k+1))) (sc:=nx) (name:=y.text) (v:=.ref o) HJ.o.1 HJ.o.2.2;obtain⟨cd,gJ⟩:=zX ((u.H.declare nx y.text 0 (.ref o)).2)
   have fm:=TN aQ.drew HJ.o.1 nx y.text 0 (.ref o);have qv:=λ(E:World) (M':MRep) (h:MAt C M' E u)=>X0 h HJ.o.1 nx y.text (.ref o);simp only[LVal.agg,LVal.ref]at fm qv;have wl:=gJ;simp only[LVal.ref]at wl;rw[<-wl]at fm;have lW:=lh fm;have AJ:=lh qv;obtain⟨sb,aN⟩:=zX (u.bindTo nx y.text (.ref o))
   have F:=dU.o;rw[<-aN]at ex F;have bD:=lh F;have tj:=lh ex.1;have tt:=lh (show Ext s sb∧sb.steps=s.steps from⟨JL.o.1.trans ex.2,by rw[aN];exact Z56.2.trans JL.o.2⟩);have cJ:=lh aN;have qw:=lh gJ;clear I aQ ex fm qv gJ wl aN F aU bN cx
   refine Za [(true,0),(true,1),(true,2),(true,3),(true,4),(true,5),(true,6),(true,7),(true,8)] [9,10] (λW=>vC W y.b 1 (.string y.text)∧vC W J 0 (vI 5)∧vC W J 1 (vI o)∧vC W J 2 (.string ⟨#[]⟩)) Pb Pb (λc a d v w h=>ga.o c a d v w h) (nK.o _ _ (.drew (.refl _ _))) (λbu=>?_);refine ep ?_;refine Z0 ?_;go_wp2_with fail
   refine lW.o.mono ?_;rintro e W3⟨rfl,M3,dL,bq⟩;have bE:=lh ((MFr.drew (.refl Ma W2)).trans bq);by_cases gB:cd=0
   .have cL:u.declare nx y.text 0 (.ref o)=sb:=by rw[cJ.o];unfold MSt.bindTo;rw[Y5 (qw.o▸gB)]
    have dq:=lh (show MAt C M3 W3 sb from cL▸dL);exact Vm
   .have cL:u.declare nx y.text 0 (.ref o)=u:=by unfold MSt.declare;rw[Z61 (qw.o▸gB)];rfl
    have jb:u.write nx y.text (.ref o)=sb:=PO
    have AK:MAt C M3 W3 u:=cL▸dL;have hw:=AJ.o _ _ AK.drew;have Cg:u.write nx y.text ⟨5,o,⟨#[]⟩⟩=sb:=jb;rw[Cg]at hw;have HW:=lh hw;rw[show df cd=.iface 34 (vI cd) by unfold df;rw[Y3 gB]];clear dL AK bq cL jb Cg gB hw;go_wp2_with fail
    refine Za [(true,0),(true,1),(true,2),(true,3),(true,4),(true,5),(true,6),(true,7),(true,8)] [9] (λW=>vC W y.b 1 (.string y.text)∧vC W J 0 (vI 5)∧vC W J 1 (vI o)∧vC W J 2 (.string ⟨#[]⟩)) Pb Pb (λc a d v w h=>ga.o c a d v w h) (nK.o _ _ (bE.o.trans (.drew (.refl _ _)))) (λbu=>?_);exact Vf
  .have aR:k=m:=by omega
   subst aR;have F:=dY.o;rw[List.drop_eq_nil_of_le Pz]at F;have am:S=p:=F;go_wp2_with fail
   exact eg.o _ _ Mk ⟨rfl,⟨rfl,rfl,rfl,rfl,rfl,rfl,rfl,trivial⟩,rfl⟩ PT ((MFr.of_below gy.o).trans bH.o)
end
section
variable {C:RCtx}{M M1:MRep}{w z W:World}{s:MSt}{B:Nat}{x:CloR}{D:DF}{b:Int}{pn bd:ATree}{v:Value}{vs:List LVal}{nx:Int}{d:Nat}{A:Act}{K:Act->World->Prop}{Q:Exit->Act->World->Prop}
theorem Zvp(hc:EnC C M w z x pn bd B v vs)(o:MAt C M1 W s)(fr:FrA 240 (sL C w v nx bd []) [] A)
 (m:∀p u,FrA 240 (sL C w v nx bd [(13,.bool (s.H.has nx Zd))]) [] p->Below W.heap.size W u->K p u) :
 (iA [1,1,1,1,0]).wp Tryz.prog (Exit.then K Q) A W:=by
 have g:=T6 o nx Zd;obtain⟨hb,y⟩:=zX (s.H.has nx Zd)
 rw[<-y]at g m;simp only[Zd]at g;have Y:=lh g;have Z:=lh m;unfold sL at fr;obtain⟨pv,nv,cv,rfl⟩:∃pv nv cv,v=.slice pv nv cv:=by
  exact KF
 obtain⟨xt,rfl,E,F,I,J,O,U,-⟩:=Tt fr;rw[E,F,I,J,O,U];clear E F I J O U fr hc m o g y;conv=>arg 2;whnf
 go_wp2_with fail
 refine Y.o.mono ?_;rintro e w2⟨rfl,X⟩;have aO:=lh X;clear X;go_wp2_with fail
 exact Z.o _ _ ⟨rfl,⟨rfl,rfl,rfl,rfl,rfl,rfl,rfl,trivial⟩,rfl⟩ aO.o
theorem Znh(hc:EnC C M w z x pn bd B v vs)(g:MFr M M1 z W)(fr:FrA 240 (sL C w v nx bd []) [] A)
 (m:∀o,FrA 240 (sL C w v nx bd [(21,vP W.heap.size)]) [] o->K o (W.alloc (.cells #[.bool x.strict,vI nx] 63))) :
 (iA [1,1,1,1,1,1,1,1,0]).wp Tryz.prog (Exit.then K Q) A W:=by
 have O:=(hc.lc.fr g).cell (i:=2) rfl;have J:=lh m;unfold sL at fr;obtain⟨pv,nv,cv,rfl⟩:∃pv nv cv,v=.slice pv nv cv:=by
  exact KF
 obtain⟨U,rfl,p,u,y,E,F,I,-⟩:=Tt fr;rw[p,u,y,E,F,I];clear p u y E F I fr hc m g;conv=>arg 2;whnf
 go_wp2_with fail
 exact J.o _ ⟨rfl,⟨rfl,rfl,rfl,rfl,rfl,rfl,rfl,trivial⟩,rfl⟩
theorem Zsf(hc:EnC C M w z x pn bd B v vs)(u:MAt C M1 W s)(y:MFr M M1 z W)(hI:Inv s (d+bd.kids.length))(hn:bd.kids.length<=1500){E:Value}(fr:FrA 240 (sL C w v nx bd [(21,E)]) [] A)
 (g:∀F m M',FrA 240 (sL C w v nx bd [(21,E)]) [] F->MAt C M' m (s.lets (bd.nt C.N).lets nx)->MFr M1 M' W m->K F m) :
 (iA [1,1,1,1,1,1,1,1,1,1,0]).wp Tryz.prog (Exit.then K Q) A W:=by
 have o:=hc.bdT;have p:=y.tree o.1 o.2;have hl:=Z82 u hI p.1 p.2 O' nx;obtain⟨S,I⟩:=zX (s.lets (bd.nt C.N).lets nx)
 rw[<-I]at hl g;unfold ATree.ptr at hl;have HL:=lh hl;have eg:=lh g;unfold sL at fr;obtain⟨pv,nv,cv,rfl⟩:∃pv nv cv,v=.slice pv nv cv:=by
  exact KF
 obtain⟨xt,rfl,J,O,U,X,Y,Z,qx,-⟩:=Tt fr;rw[J,O,U,X,Y,Z,qx];clear J O U X Y Z qx fr hc g y u hI o p hl I;conv=>arg 2;whnf
 go_wp2_with fail
 refine HL.o.mono ?_;rintro e w2⟨rfl,M2,aQ,aq⟩;have bW:=lh aQ;have aZ:=lh aq;clear aQ aq;go_wp2_with fail
 exact eg.o _ _ M2 ⟨rfl,⟨rfl,rfl,rfl,rfl,rfl,rfl,rfl,trivial⟩,rfl⟩ bW.o aZ.o
def Zno(r:MSt×Except Er (Bool×LVal)):MSt×Except Er LVal:=match r with
 |(s1,.ok (b,v))=>(s1,.ok (if b then v else LVal.zero))
 |(s1,.error e)=>(s1,.error e)
theorem Zq0{D:DF}{sc:Int}{fr:Frm}{l:List NT}:gE (p' D sc fr l) (λr=>f7 (if r.1 then r.2 else LVal.zero)) s=Zno (p' D sc fr l s):=by
 unfold gE Zno;rcases p' D sc fr l s with⟨s1,e|⟨b,v⟩⟩<;>rfl
theorem Zpv(cZ:Dl C D b)(hD:DH D b)(hc:EnC C M w z x pn bd B v vs)(Y:MAt C M1 W s)(I:MFr M M1 z W)(hst:(bd.nt C.N).stm)(hm:(bd.nt C.N).tree.many<=1500)(hn:bd.kids.length<=1500){fb:Nat}{wF:World}{st:Bool}(lf:Lo C M1 wF W fb #[.bool st,vI nx] 63)
 (hI:Inv s d)(hA:FAt s nx ⟨st,nx⟩)(hb:b<=s.steps)(hs:s.steps<=20000)(fr:FrA 240 (sL C w v nx bd [(21,vP fb)]) [] A)
 (Z:∀y a' w',(results Tryz.f142 a'.tmps).run Tryz.prog w'=.ok y w'->a'.defers=[]->al C M w (Zno (p' D nx ⟨st,nx⟩ (bd.nt C.N).kids s)) (.returned y) w'->Q .ret a' w')(hQ:∀c a d v w,Q (.panic c) (Act.put a d v) w->Q (.panic c) a w) :
 (iA [1,1,1,1,1,1,1,1,1,1,1,1]).wp Tryz.prog Q A W:=by
 have cV:=hc.bdT;have p:=I.tree cV.1 cV.2;obtain⟨pb,cb,J,cr,eu,dc⟩:=jm.slice p.1.rowOf;obtain⟨qb,mu⟩:=zX bd.kids.length
 rw[<-mu]at J;obtain⟨r,hr⟩:=zX (p' D nx ⟨st,nx⟩ (bd.nt C.N).kids s)
 rw[<-hr]at Z;rw[Zq,yn]at hr;have an:=TG hst hm;have bG:∀y∈bd.kids,(y.nt C.N).wf .s∧(y.nt C.N).tree.many<=1500:=λy hy=>an (y.nt C.N) Qa
 have HC:=lh (show∀g,Below W.heap.size W g->Calls Tryz.prog 22 #[vP C.mb,.slice pb qb cb,vI nx,.agg #[.bool st,vI nx]] g λe w'=>∃M' b k n t ev,e=.returned (.tuple #[.bool b,ag k n t,ev])∧mc C M1 g r w' M' b k n t ev from
  λg hB=>by
   have h:=Calls.dres (ZB (fr:=⟨st,nx⟩) cZ hD (Y.below hB) hI hA hb hs (p.1.bel hB) p.2 hn bG);rw[J,<-hr]at h;exact h)
 have HS:=lh (show∀g M',MFr M1 M' W g->vC g bd.b 3 (.slice pb qb cb)∧vC g fb 0 (.bool st)∧vC g fb 1 (vI nx)from
  λg M' f=>⟨by have:=(f.tree p.1 p.2).1.c3;rwa[J]at this,(lf.fr f).cell rfl,(lf.fr f).cell rfl⟩)
 have HM:=lh Y;have O:=lh I;have HE:=lh (Y4 hc.below.size I.size);have HO:=lh hc.old;have u:=lh hc.lr;have U:=lh hc.below;have eR:=lh Z;have ga:=lh hQ;unfold sL at fr;obtain⟨pv,nv,cv,rfl⟩:∃pv nv cv,v=.slice pv nv cv:=by
  exact KF
 obtain⟨xt,rfl,e0,e2,e4,e6,e8,e9,qx,-⟩:=Tt fr;rw[e0,e2,e4,e6,e8,e9,qx];clear e0 e2 e4 e6 e8 e9 qx fr cZ hD hc Y I hst hm hn lf hI hA hb hs Z hQ cV p J cr eu dc mu hr an bG;conv=>arg 2;whnf
 refine wp_seq_k (λK hK=>?_);have HK:=lh hK;clear hK;refine Z1y (.take 0 (.take 1 (.take 2 (.take 3 (.take 4 (.take 5 (.take 6 (.two 7 (.take 8 (.take 9 (.take 10 (.take 11 (.go 12 (.go 13 (.go 14 (.go 15 (.nil))))))))) 12 (.go 7 (.take 8 (.take 9 (.take 10 (.take 11 (.go 13 (.go 14 (.go 15 (.nil))))))))))))))))) 14 (λW=>vC W bd.b 3 (.slice pb qb cb)∧vC W fb 0 (.bool st)∧vC W fb 1 (vI nx)) Pb Pb (λc a d v w h=>ga.o c a d v w h) (HS.o _ _ (MFr.drew (.refl _ _))) ?_;refine lM ?_
 refine Zt ?_;apply WG (H:=Hx C w M1 W r);·exact ZZ HS HC HE.o HO.o
 .exact Aax HS HC HM HE.o HO.o
 intro W1 p1 M2 b1 k1 n1 t1 E F;refine HK.o _ _ ?_;clear HK K;have F1:=O.o.trans F.1.2.1;have bw:=lh F1;have o:=lh F;obtain⟨b0,jY,b2,y0,y1,y2⟩:=F.2.six;obtain⟨q0,q1,q2,z0,z1,z2⟩:=(u.o.fr F1).six;have li:p1≠w.heap.size+1:=by have h1:=F.2.late;have h2:=u.o.lt;have h3:=O.o.size;omega
 clear F F1;cases b1
 .have g9:=lh (o.o.2.fill (x':=(vI 0)) (y':=(vI 0)) (z':=.string ⟨#[]⟩) o.o.1.1 o.o.1.2.1 o.o.2.late);go_wp2_with fail
  refine eR.o (.tuple #[.agg #[vI 0,vI 0,.string ⟨#[]⟩],E]) _ _ ?_ rfl ?_;·simp[results,Tryz.results142,go_sem,q0,q1,q2]
  .obtain⟨g1,g2,g3,g4⟩:=g9.o;obtain⟨s9,q9⟩:=r;cases q9 with
   |error x9=>exact .err u.o U.o g1 (O.o.trans g2) (g4 _ _ (show ak C M2 W1 x9 E from o.o.1.2.2))
   | ok v9 =>
     obtain⟨rfl,rfl⟩:v9=(false,⟨k1,n1,t1⟩)∧E=.nilIface:=o.o.1.2.2;exact .fine u.o U.o g1 (O.o.trans g2)
 .go_wp2_with fail
  refine eR.o (.tuple #[.agg #[vI k1,vI n1,.string t1],E]) _ _ ?_ rfl ?_;·simp[results,Tryz.results142,go_sem,q0,q1,q2]
  .obtain⟨s9,q9⟩:=r;cases q9 with
   |error x9=>exact .err u.o U.o o.o.1.1 bw.o (show ak C M2 W1 x9 E from o.o.1.2.2)
   | ok v9 =>
     obtain⟨rfl,rfl⟩:v9=(true,⟨k1,n1,t1⟩)∧E=.nilIface:=o.o.1.2.2;exact .fine u.o U.o o.o.1.1 bw.o
end
section
variable {C:RCtx}{M M1:MRep}{w z W:World}{s:MSt}{B:Nat}{x:CloR}{D:DF}{b:Int}{pn bd:ATree}{v:Value}{vs:List LVal}{nx:Int}{d:Nat}{A:Act}{K:Act->World->Prop}{Q:Exit->Act->World->Prop}
theorem Zvy(h:MAt C M w s)(x:CloR):Below w.heap.size w ((w.alloc (.cells #[vP x.a.b,vI x.scope,.bool x.strict] 119)).alloc (vO 0 0 ⟨#[]⟩))∧Lo C M w ((w.alloc (.cells #[vP x.a.b,vI x.scope,.bool x.strict] 119)).alloc (vO 0 0 ⟨#[]⟩)) w.heap.size #[x.a.ptr,vI x.scope,.bool x.strict] 119∧
 Lo C M w ((w.alloc (.cells #[vP x.a.b,vI x.scope,.bool x.strict] 119)).alloc (vO 0 0 ⟨#[]⟩)) (w.heap.size+1) #[vI 0,vI 0,.string ⟨#[]⟩] 55:=by
 have h1:=Z1 w (.cells #[vP x.a.b,vI x.scope,.bool x.strict] 119);have h2:=Lo.new (wE:=w) h (Y0 _) h.old.size #[x.a.ptr,vI x.scope,.bool x.strict] 119;have hs:(w.alloc (.cells #[vP x.a.b,vI x.scope,.bool x.strict] 119)).heap.size=w.heap.size+1:=World.size_alloc _ _;exact Zui
theorem Zra:Tryz.f142.body=some (iA []):=by kernel_rfl
theorem Zp1:iA []=Code.seq (iA [0]) (Code.seq (iA [1,0]) (Code.seq (iA [1,1,0]) (Code.seq (iA [1,1,1,0]) (Code.seq (iA [1,1,1,1,0]) (Code.seq (iA [1,1,1,1,1,0]) (Code.seq (iA [1,1,1,1,1,1,0]) (Code.seq (iA [1,1,1,1,1,1,1,0]) (Code.seq (iA [1,1,1,1,1,1,1,1,0]) (Code.seq (iA [1,1,1,1,1,1,1,1,1,0]) (Code.seq (iA [1,1,1,1,1,1,1,1,1,1,0]) (Code.seq (iA [1,1,1,1,1,1,1,1,1,1,1,0]) (iA [1,1,1,1,1,1,1,1,1,1,1,1])))))))))))):=by kernel_rfl
theorem Zhj(gK:F9 C.w0)(hC:C.Ok)(cZ:Dl C D b)(hD:DH D b)(h:MAt C M w s)(hI:Inv s (d+17000))(hr:Root s)(Z:zU (x.a.nt C.N))(mC:0<=x.scope)(dP:x.scope<s.H.scopes.length)(ha:TreeAt w B x.a)(hf:x.a.free M)
 (ae:∃wA,VRow C M wA w v vs)(dI:∀u∈vs,VQ s u)(hl:vs.length<=1500)(hb:b<=s.steps)(hs:s.steps<=20000) :
 Calls Tryz.prog 142 #[vP C.mb,.agg #[x.a.ptr,vI x.scope,.bool x.strict],v] w λe w'=>al C M w (Vr D (x.clo C.N) vs s) e w':=by
 obtain⟨pk,bk,cB,ue,hst,FK,lE,-⟩:=Z7x Z;have U:=cB;rw[Zq,yn]at U;obtain⟨pn,bd,jj⟩:∃pn bd,x.a.kids=[pn,bd]:=by
  match hl:x.a.kids,U with
  | [],hk=>simp at hk
  | [x],hk=>simp at hk
  | [x,y],hk=>exact⟨x,y,rfl⟩
  |x::y::z::l,hk=>simp at hk
 rw[jj]at U;simp only[List.map_cons,List.map_nil,List.cons.injEq,and_true]at U;obtain⟨rfl,rfl⟩:=U;have JM:(x.a.nt C.N).kid 0=pn.nt C.N:=sp Rv;have FL:(x.a.nt C.N).kid 1=bd.nt C.N:=sp Rv;have lF:pn.kids.length<=1500:=by rw[Zq,yn,Ym]at ue;exact ue
 have dj:(bd.nt C.N).tree.many=bd.many:=by rw[SV];exact Tw bd
 have iO:bd.kids.length<=1500:=by have:=Hv (n:=bd.nt C.N);rw[Zq,yn,Ym]at this;omega
 have dA:(yw bd).length<=1500:=by have:=VI (n:=bd.nt C.N);rw[Tz]at this;omega
 have qz:(bd.nt C.N).funcs.length<=1500:=by have:=VP (n:=bd.nt C.N);have:=Hv (n:=bd.nt C.N);omega
 obtain⟨nx,p⟩:=zX s.next
 obtain⟨so,aV⟩:=zX (s.opens x.scope (-1) (C.N x.a.b))
 obtain⟨X,uU⟩:=zX (MSt.params nx (pn.kids.map (ATree.nt C.N)) vs so)
 obtain⟨o,ho⟩:=zX (((X.H.has nx Zd||(bd.nt C.N).funcs.any λk=>Zg k.text Zd)||(bd.nt C.N).lets.any λk=>Zg k.text Zd))
 obtain⟨sa,CH⟩:=zX (if o then X else X.argsObj nx vs)
 obtain⟨sv,nF⟩:=zX (sa.vars (bd.nt C.N).vars nx)
 obtain⟨sl,cf⟩:=zX (sv.lets (bd.nt C.N).lets nx)
 obtain⟨Y,ju⟩:=zX (sl.funcs (λs _=>s) (λt a v=>t.bindTo nx a v) (bd.nt C.N).funcs nx ⟨x.strict,nx⟩)
 have hE:s.enterS (x.clo C.N) vs=Y:=by
  rw[ju,cf,nF,CH,ho,uU,aV,p];unfold MSt.enterS CloR.clo;dsimp only
  rw[JM,FL,Wz,Zq,yn,Bool.or_assoc];rfl
 have aj:Vr D (x.clo C.N) vs s=Zno (p' D nx ⟨x.strict,nx⟩ (bd.nt C.N).kids Y):=by
  unfold Vr;rw[hE,<-p,<-Zq0];unfold CloR.clo;dsimp only
  rw[FL]
 rw[aj];obtain⟨t1,t2,t3⟩:=Zbp (c:=x.clo C.N) (vs:=vs) hI hr ⟨Z,mC,dP⟩ dI hl;obtain⟨u1,u2⟩:=Z9h (s:=s) (c:=x.clo C.N) (vs:=vs);rw[hE]at t1 t2 t3 u1 u2;rw[<-p]at t3;have t3:FAt Y nx ⟨x.strict,nx⟩:=t3;have i0:=hI.opens (d:=d+16999) (outer:=x.scope) (object:=-1) (owner:=C.N x.a.b) O' dP Pa O';rw[<-aV]at i0;have lY:∀u∈vs,VQ so u:=λu hu=>VQ.ext (dI u hu) i0.2;have E:=Z8g (sc:=nx) (pn.kids.map (ATree.nt C.N)) vs so (d+15499) (i0.1.less (by rw[Ym];omega)) lY;rw[<-uU]at E
 have FM:∀u∈vs,VQ X u:=λu hu=>VQ.ext (lY u hu) E.2;have i2:Inv sa (d+13996)∧Ext X sa:=by
  rw[CH];split;·exact⟨E.1.less O',Ext.refl _⟩
  .exact Zad (E.1.less O') FM O'
 have i3:=Zgl (l:=(bd.nt C.N).vars) (sc:=nx) (d:=d+12496) (i2.1.less (by rw[Tz];omega));rw[<-nF]at i3;have i4:=TC (l:=(bd.nt C.N).lets) (sc:=nx) (d:=d+10996) (i3.1.less (by have:=UW (n:=bd.nt C.N);have:=Hv (n:=bd.nt C.N);omega));rw[<-cf]at i4;have hn0:0<=nx:=by rw[p];show(0:Int)<=s.H.scopes.length;omega
 have iY:nx<sl.H.scopes.length:=by
  have h1:=((E.2.trans i2.2).trans i3.2).trans i4.2;have h2:=h1.ls;have h3:so.H.scopes.length=s.H.scopes.length+1:=by rw[aV];simp[MSt.opens]
  rw[p];show(s.H.scopes.length:Int)<_;omega
 obtain⟨F,lc,lr⟩:=Zvy h x;unfold vO at F lc lr;obtain⟨z,hz⟩:=zX ((w.alloc (.cells #[vP x.a.b,vI x.scope,.bool x.strict] 119)).alloc (.cells #[vI 0,vI 0,.string ⟨#[]⟩] 55))
 rw[<-hz]at F lc lr;have hc:EnC C M w z x pn bd B v vs:=⟨hC,h.old.size,F,lc,lr,ha.bel F,hf,jj,by obtain⟨wA,hr⟩:=ae;exact⟨wA,hr.fr (.of_below F)⟩,hl,Z⟩
 have aE:=h.below F;obtain⟨kg,kc,AA,yN,hk⟩:=hc.two;have g:=lh hc;have iX:=lh cZ;have HD:=lh hD;have wj:=lh gK;have HM:=lh aE;have o8:=lh hk;have nh:=lh (And.intro hst lE);have HT:=lh (And.intro t1 t3);have JN:=lh (show b<=Y.steps∧Y.steps<=20000 by omega);have ip:=lh i0.1;have eL:=lh E.1;have oK:=lh i2.1;have nQ:=lh i3.1;have Fv:=lh i4.1;have MR:=lh lY;have MS:=lh FM;have tN:=lh (And.intro hn0 iY);have yd:=lh aV;have si:=lh uU;have HO:=lh ho;have MU:=lh CH;have vG:=lh nF;have kj:=lh cf
 have MV:=lh ju;have pT:=λW (hW:Below z.heap.size z W)=>Z5l hC (aE.below hW) (hc.tr.bel hW);have oC:=lh pT;have eO:=λW (hW:Below z.heap.size z W)=>TE (aE.below hW) hI x.scope (-1) (C.N x.a.b);rw[<-aV,<-p]at eO;have jK:=lh eO;have dS:=lh (show∀W M',MFr M M' z W->vC W w.heap.size 0 (vP x.a.b)∧vC W w.heap.size 1 (vI x.scope)from λW M' f=>⟨(lc.fr f).cell rfl,(lc.fr f).cell rfl⟩);have HZ:=lh hz
 have m:=lh (And.intro lF (And.intro iO (And.intro dA (And.intro qz (dj▸lE)))));obtain⟨pv,nv,cv,rfl⟩:∃pv nv cv,v=.slice pv nv cv:=by
  obtain⟨wA,hr⟩:=ae;obtain⟨pv,cv,h,-⟩:=hr.form;exact⟨pv,_,cv,h⟩
 clear gK hC cZ hD h hI hr Z mC dP ha hf ae dI hl hb hs cB ue hst FK lE jj JM FL lF dj iO dA qz hE aj t1 t2 t3 u1 u2 i0 E i2 i3 i4 lY FM hn0 iY F lc lr hc aE hk pT eO p aV uU ho CH nF cf ju hz;unfold ATree.ptr at oC ⊢;refine calls_of_wp (c:=iA []) Tryz.func142 Zra ?_;simp only[Tryz.ntmps142,List.size_toArray,List.length_cons,List.length_nil,Nat.reduceAdd,Nat.reduceSub,Array.replicate_succ,Array.replicate_zero,List.push_toArray,List.append_toArray,List.nil_append,List.cons_append];rw[Zp1];refine dh ?_;intro K HK;go_wp2;rw[<-HZ.o]
 refine HK.o _ _ ?_;clear HK K;refine dh ?_;intro K HK;refine oi [(true,0),(true,1),(true,2),(true,3),(true,4),(true,5),(false,6)] [7,8] (λW=>vC W w.heap.size 0 (vP x.a.b)∧vC W w.heap.size 1 (vI x.scope)) (dS.o _ _ (.drew (.refl _ _))) (λbu=>?_);refine ep ?_;refine Z6 (λK hK=>?_);go_simp
 refine(oC.o _ (Ze _)).mono ?_;rintro e W1⟨rfl,rfl⟩;refine hK _ _ (dS.o _ _ (.drew (.refl _ _))) ?_;clear hK K;refine Z0 ?_;go_wp2_with fail
 refine(jK.o _ (Ze _)).mono ?_;rintro e W2⟨rfl,M2,aQ,aq⟩;have bW:=lh aQ;have aZ:=lh ((MFr.drew (.refl M z)).trans aq);clear aQ aq;go_wp2_with fail
 refine HK.o _ _ ?_;clear HK K;obtain⟨f0,f1,f2,f3⟩:=o8.o _ _ aZ.o;refine dh ?_;intro K HK;go_wp2_with fail
 refine HK.o _ _ ?_;clear HK K f0 f1 f2 f3;refine wp_seq_k (λK hK=>?_);have HK:=lh hK;clear hK;refine Zji (d:=d+15499) g.o bW.o aZ.o (ip.o.less (by have:=m.o.1;omega)) MR.o m.o.1 ⟨rfl,⟨rfl,rfl,rfl,rfl,rfl,rfl,trivial⟩,rfl⟩ (λA3 W3 M3 uf dL bq=>?_) (λ_ _ d _ _ h=>by cases d<;>exact h);rw[<-si.o]at dL;have bq:=aZ.o.trans bq;refine HK.o _ _ ?_;clear HK K;refine wp_seq_k (λK hK=>?_);have HK:=lh hK;clear hK;refine Zvp g.o dL uf (λA4 W4 ug eQ=>?_);have fN:=dL.below eQ
 have bh:=bq.trans (.of_below eQ);refine HK.o _ _ ?_;clear HK K dL bq eQ uf;refine wp_seq_k (λK hK=>?_);have HK:=lh hK;clear hK;refine Zqs g.o bh m.o.2.1 ug (λA5 W5 AM eS=>?_);have lX:=fN.below eS;have em:=bh.trans (.of_below eS);refine HK.o _ _ ?_;clear HK K fN bh eS ug;refine wp_seq_k (λK hK=>?_);have HK:=lh hK;clear hK;refine Zri g.o em m.o.2.1 AM (λA6 W6 AN FN=>?_);have ry:=lX.below FN;have fM:=em.trans (.of_below FN);rw[<-HO.o]at AN;refine HK.o _ _ ?_;clear HK K lX em FN AM
 refine wp_seq_k (λK hK=>?_);have HK:=lh hK;clear hK;refine Zqy (d:=d+13996) wj.o g.o ry fM (eL.o.less (by have:=g.o.few;omega)) MS.o AN (λA7 W7 M7 JO kw I=>?_) (λ_ _ d _ _ h=>by cases d<;>exact h);rw[<-MU.o]at kw;have I:=fM.trans I;refine HK.o _ _ ?_;clear HK K ry fM AN;refine wp_seq_k (λK hK=>?_);have HK:=lh hK;clear hK;refine Znh g.o I JO (λA8 JP=>?_);have pA:=Z1 W7 (.cells #[.bool x.strict,vI nx] 63)
 have JQ:=Lo.new (wE:=w) kw (Y4 g.o.below.size I.size) g.o.old #[.bool x.strict,vI nx] 63;have tX:=kw.below pA;have sK:=I.trans (.of_below pA);refine HK.o _ _ ?_;clear HK K kw I JO pA;generalize W7.alloc (.cells #[.bool x.strict,vI nx] 63)=W8 at *;generalize W7.heap.size=fb at *;refine wp_seq_k (λK hK=>?_);have HK:=lh hK;clear hK;refine Zs8 (d:=d+12496) g.o tX sK m.o.2.2.2.2 (oK.o.less (by have:=m.o.2.2.1;omega)) JP (λA9 W9 M9 CJ xm J=>?_);rw[<-vG.o]at xm;have JR:=JQ.fr J
 have J:=sK.trans J;refine HK.o _ _ ?_;clear HK K tX sK JP JQ;refine wp_seq_k (λK hK=>?_);have HK:=lh hK;clear hK;refine Zsf (d:=d+10996) g.o xm J (nQ.o.less (by have:=m.o.2.1;omega)) m.o.2.1 CJ (λAa Wa Ma JS nL O=>?_);rw[<-kj.o]at nL;have FO:=JR.fr O;have O:=J.trans O;refine HK.o _ _ ?_;clear HK K xm J CJ JR;refine wp_seq_k (λK hK=>?_);have HK:=lh hK;clear hK
 refine Zoe (d:=d) g.o nL O nh.o m.o.2.1 FO (Fv.o.less (by have:=m.o.2.2.2.1;omega)) tN.o.1 tN.o.2 JS (λAb Wb Mb MW xW uh=>?_) (λ_ _ d _ _ h=>by cases d<;>exact h);rw[<-MV.o]at xW;have MX:=FO.fr uh;have uh:=O.trans uh;refine HK.o _ _ ?_;clear HK K nL O JS FO;exact Zpv (d:=d) iX.o HD.o g.o xW uh nh.o.1 nh.o.2 m.o.2.1 MX HT.o.1 HT.o.2 JN.o.1 JN.o.2 MW (λy a' w' h1 h2 h3=>bodyPost_ret h1 h2 h3) (λ_ _ d _ _ h=>by cases d<;>exact h)
end
noncomputable def kG(p:List Nat):Code:=Cb p (Tryz.f143.body.getD .skip)
def Ee(C:RCtx)(w:World)(sc:Int)(a:ATree)(l:List (Nat×Value)):List (Nat×Value):=
 (0,vP C.mb)::(2,vI sc)::(7,vP w.heap.size)::(8,.pointer (some ⟨w.heap.size+1,0,none⟩))::(10,vP a.b)::l
structure EvS(C:RCtx)(M:MRep)(w:World)(st:Bool)(vr:Int)(M1:MRep)(W:World)(s:MSt):Prop where
 mat:MAt C M1 W s
 fr:MFr M M1 w W
 lf:Lo C M1 w W w.heap.size #[.bool st,vI vr] 63
 lr:Lo C M1 w W (w.heap.size+1) #[vI 0,vI 0,.string ⟨#[]⟩] 55
section
variable {C:RCtx}{M M1:MRep}{w W:World}{s:MSt}{B:Nat}{a:ATree}{sc vr:Int}{st:Bool}{d:Nat}{A:Act}{K:Act->World->Prop}{Q:Exit->Act->World->Prop}
theorem EvS.bel(h:EvS C M w st vr M1 W s){m:World}(g:Below W.heap.size W m):EvS C M w st vr M1 m s:=⟨h.mat.below g,h.fr.trans (.of_below g),h.lf.bel g,h.lr.bel g⟩
theorem EvS.step(h:EvS C M w st vr M1 W s){M2:MRep}{g:World}{s':MSt}(m:MAt C M2 g s')(f:MFr M1 M2 W g):EvS C M w st vr M2 g s':=⟨m,h.fr.trans f,h.lf.fr f,h.lr.fr f⟩
theorem EvS.size(h:EvS C M w st vr M1 W s):w.heap.size+2<=W.heap.size:=h.lr.lt
theorem Zq5:Tryz.f143.body=some (kG []):=by kernel_rfl
theorem Zhf{H:LHeap}{n:NT}{f:Nat}{c:Int}:Sz H n vr (f+1) c=((n.names true).any (λt=>(H.kindOf c t==1||H.kindOf c t==2)&& !(n.lets.any λk=>Zg k.text t))||(if c=vr then false else Sz H n vr f (H.outerOf c))):=rfl
theorem Znf{H:LHeap}(g:H.WF){c:Int}(h:Anc H vr c)(o:c≠vr):0<=c∧Anc H vr (H.outerOf c)∧H.outerOf c<c:=by
 cases h with
 |refl=>exact absurd rfl o
 | @up _ x hc p =>
   have e:H.outerOf c=x.outer:=by unfold LHeap.outerOf;rw[hc]
   obtain⟨m,rfl,u⟩:=LHeap.scope?_some hc;have:=g m x u;rw[e];exact⟨by omega,p,this.2⟩
theorem Zoo(hS:EvS C M w false vr M1 W s)(o5:s.H.WF)(AO:Anc s.H vr sc)(fG:0<=vr)(ha:TreeAt W B a)(hn:a.kids.length<=1500){JT:Value}{B2:Nat}(hnm:Zy W B2 JT (FR true a))(fr:FrA 193 (Ee C w sc a [(12,JT)]) [] A)
 (HK:∀A' O,Sz s.H (a.nt C.N) vr (sc+1).toNat sc=false->FrA 193 (Ee C w sc a []) [] A'->Below W.heap.size W O->K A' O)
 (HR:∀y a' w',Sz s.H (a.nt C.N) vr (sc+1).toNat sc=true->(results Tryz.f143 a'.tmps).run Tryz.prog w'=.ok y w'->a'.defers=[]->al C M w (s,.error (.thr (.say MK))) (.returned y) w'->Q .ret a' w') :
 (kG [1,1,1,1,1,1,0]).wp Tryz.prog (Exit.then K Q) A W:=by
 obtain⟨p,qd⟩:=zX (Sz s.H (a.nt C.N) vr (sc+1).toNat sc)
 rw[<-qd]at HK HR;obtain⟨nm,wm⟩:=zX (FR true a)
 have AP:(a.nt C.N).names true=nm:=by rw[wm];exact Z92 true
 rw[<-wm]at hnm;obtain⟨pn,cn,rfl,cr,eu,dc⟩:=hnm.form2;obtain⟨q,hq⟩:=zX nm.length
 have eY:=lh hnm;rw[<-hq]at fr cr;have HQ:=lh hq;have tV:=lh dc;have HS:=lh hS;have JU:=lh o5;have MY:=lh AO;have MZ:=lh fG;have HT:=lh ha;have HN:=lh (show a.kids.length<1099511627776 by omega);have xX:=lh AP;have eg:=lh HK;have eR:=lh HR;have iK:=lh qd;unfold maxLen at eu;obtain⟨f0,f1⟩:=hS.lf.two;unfold Ee at fr;obtain⟨xt,rfl,e0,e2,e7,e8,ia,lJ,-⟩:=Wv fr;rw[e0,e2,e7,e8,ia,lJ];clear e0 e2 e7 e8 ia lJ fr;clear hS o5 AO fG ha hn hnm HK HR qd wm AP dc hq;conv=>arg 2;whnf
 go_wp2_with fail
 clear f0 f1;go_loopw [13] (λu wr=>∃(c:Int) (f:Nat),u=(vI c)∧Hid (Below W.heap.size W wr)∧Hid (Anc s.H vr c)∧Hid ((c+1).toNat<=f∧p=Sz s.H (a.nt C.N) vr f c)) (λu _=>(intOf u+1).toNat)
 case atStart=>exact⟨sc,_,rfl,lh (Y2 _ _),MY,lh ⟨Y0 _,iK.o⟩⟩
 case round=>
  obtain⟨c,f,rfl,F,HA,U⟩:=hrel;obtain⟨X,Na⟩:=zX wr
  subst Na;have rB:vr<=c:=HA.o.le JU.o;obtain⟨g,rfl⟩:∃g,f=g+1:=⟨f-1,by have:=MZ.o;have:=U.o.1;omega⟩
  have m:=U.o.2;rw[Zhf,xX.o]at m;obtain⟨cN,lG⟩:=zX ((if c=vr then false else Sz s.H (a.nt C.N) vr g (s.H.outerOf c)))
  rw[<-lG]at m;have bS:=lh m;have AQ:=lh lG;have HG:=lh U.o.1;have FP:=lh (HS.o.bel F.o);have Nb:=lh (HT.o.bel F.o);have FS:=lh (eY.o.bel F.o);clear m lG U;go_wp2_with fail
  go_loopw [68] (λi wr=>∃(k:Nat),k<=q∧i=(vI k)∧Hid (Below X.heap.size X wr)∧Hid (p=((nm.drop k).any (λt=>(s.H.kindOf c t==1||s.H.kindOf c t==2)&& !((a.nt C.N).lets.any λk=>Zg k.text t))||cN))) (λi _=>q-(intOf i).toNat)
  case atStart=>exact⟨0,Yh _,rfl,lh (Y2 _ _),lh (by rw[List.drop_zero];exact bS.o)⟩
  case round=>
   obtain⟨k,hk,rfl,I,FT⟩:=hrel;by_cases bV:k<q
   .obtain⟨y,Y⟩:∃y,nm[k]? =some y:=⟨_,Y6 Qg⟩
    obtain⟨g0,hp⟩:=tV.o k y Y;subst hp;have cx:=(FS.o.bel I.o).cells rfl Y;have bG:=Zix (FP.o.bel I.o).mat.heap c y;obtain⟨o,ws⟩:=zX (s.H.kindOf c y)
    have m:=FT.o;rw[show nm.drop k=y::nm.drop (k+1) by
     obtain⟨hl,he⟩:=List.getElem?_eq_some_iff.1 Y;rw[List.drop_eq_getElem_cons hl,he],List.any_cons,<-ws]at m
    rw[<-ws]at bG;have pF:=lh bG;have Z:=lh m;clear Y bG ws m FT;by_cases wt:o=1∨o=2
    .obtain⟨bl,iO⟩:=zX (((a.nt C.N).lets.any λk=>Zg k.text y))
     have fB:=λ(O:World) (hB:Below X.heap.size X O)=>Zh7 C.N (Nb.o.bel hB) HN.o y;rw[<-iO]at fB;have m:=Z.o;rw[<-iO]at m;have JV:(o==1||o==2)=true:=by rcases wt with h|h<;>rw[h]<;>rfl
     rw[JV,Bool.true_and]at m;have xR:=lh fB;have JW:=lh m;simp only[ATree.ptr]at xR;clear iO fB m JV Z;rcases wt with h|h
     all_goals
      subst h;go_wp2_with fail
      refine pF.o.mono ?_;rintro e w3⟨rfl,J⟩;have bP:=zT I J;clear J;go_wp2_with fail
      refine(xR.o _ bP.o).mono ?_;rintro e w4⟨rfl,eQ⟩;have fc:=zT bP eQ;clear eQ;cases bl
      .have hT:p=true:=by rw[JW.o];rfl
       have mD:=KB (FP.o.bel fc.o).mat MK;simp only[MK]at mD;have uO:=lh mD;clear mD;go_wp2_with fail
       refine uO.o.mono ?_;rintro e w5⟨oY,rfl,ra,eS⟩;have xq:=lh (show ak C M1 w5 (.thr (.say MK)) oY from ra);have lq:=lh ((FP.o.bel fc.o).bel eS);obtain⟨q0,q1,q2,z0,z1,z2⟩:=lq.o.lr.six;clear ra eS;go_wp2_with fail
       refine eR.o (.tuple #[.agg #[vI 0,vI 0,.string ⟨#[]⟩],oY]) _ _ hT ?_ rfl ?_;·simp[results,Tryz.results143,go_sem,q0,q1,q2]
       .obtain⟨g1,g2,g3⟩:=lq.o.lr.ret (x':=(vI 0)) (y':=(vI 0)) (z':=.string ⟨#[]⟩) lq.o.mat lq.o.fr;exact⟨M1,g1,g2,⟨0,0,⟨#[]⟩⟩,oY,rfl,g3 _ _ xq.o⟩
      .have AS:=lh (show p=_ from by rw[JW.o]);go_wp2_with fail
       go_roundw
       case rel=>exact⟨k+1,by omega,by go_num,fc,AS⟩
       case measure=>first|(simp[intOf];omega)|simp[intOf]
    .have h1:(o==1)=false:=by simp;omega
     have h2:(o==2)=false:=Pe
     have AS:=lh (show p=_ from by rw[Z.o,h1,h2]);have h3:decide (o=1)=false:=Pe
     have h4:decide (o=2)=false:=Pe
     clear wt Z;go_wp2_with fail
     refine pF.o.mono ?_;rintro e w3⟨rfl,J⟩;have bP:=zT I J;clear J;go_wp2_with fail
     go_roundw
     case rel=>exact⟨k+1,by omega,by go_num,bP,AS⟩
     case measure=>first|(simp[intOf];omega)|simp[intOf]
   .have aR:k=q:=by omega
    subst aR;have m:=FT.o;rw[List.drop_eq_nil_of_le Qr,List.any_nil,Bool.false_or,AQ.o]at m;have JX:=lh m;have CK:=lh (F.o.trans (I.o.mono F.o.size));obtain⟨f0,f1⟩:=(HS.o.bel CK.o).lf.two;clear m bV;by_cases E:c=vr
    .have hT:p=false:=by rw[JX.o,Y5 E]
     subst E;go_wp2_with fail
     exact eg.o _ _ hT ⟨rfl,⟨rfl,rfl,rfl,rfl,rfl,trivial⟩,rfl⟩ CK.o
    .obtain⟨gB,kU,aA⟩:=Znf JU.o HA.o E;have me:(c==vr)=false:=by simp;exact E
     have gJ:decide (c=vr)=false:=by simp;exact E
     have xY:=Zew (HS.o.bel CK.o).mat.heap c;obtain⟨oc,FU⟩:=zX (s.H.outerOf c)
     rw[<-FU]at xY kU aA;have Nc:=lh xY;have FV:=lh kU;have Nd:=lh (show(oc+1).toNat<=g∧p=Sz s.H (a.nt C.N) vr g oc from⟨by have:=HG.o;omega,by rw[JX.o,Y3 E,FU]⟩);clear xY kU E FU;go_wp2_with fail
     refine Nc.o.mono ?_;rintro e w6⟨rfl,ka⟩;rw[ka];clear ka w6;go_wp2_with fail
     go_roundw
     case rel=>exact⟨oc,g,rfl,CK,FV,Nd⟩
     case measure=>first|(simp[intOf];omega)|simp[intOf]
end
section
variable {C:RCtx}{M M1:MRep}{w W:World}{s:MSt}{B:Nat}{a:ATree}{sc vr:Int}{st:Bool}{d:Nat}{A:Act}{K:Act->World->Prop}{Q:Exit->Act->World->Prop}
theorem Zfk{n:ByteArray}{l:List ByteArray}{sc:Int}:s.looses (n::l) sc=(s.loose sc n).looses l sc:=rfl
theorem Zpm(J:EvS C M w st vr M1 W s)(O:TreeAt W B a)(hm:a.many<=1500)(hI:Inv s (d+(yw a).length))(fr:FrA 193 (Ee C w sc a []) [] A)
 (m:∀U E M',FrA 193 (Ee C w sc a []) [] U->MAt C M' E (s.looses (a.nt C.N).vars vr)->MFr M1 M' W E->K U E) :
 (kG [1,1,1,1,1,1,1,0]).wp Tryz.prog (Exit.then K Q) A W:=by
 rw[Tz]at m;have HL:=lh (Xv W B a O O');obtain⟨P,X⟩:=zX (yw a)
 obtain⟨S,F⟩:=zX (s.looses P vr)
 rw[<-X]at HL m hI;rw[<-F]at m;have eg:=lh m;have sm:=lh F;have Y:=lh J;unfold Ee at fr;obtain⟨xt,rfl,Z,e2,e7,e8,ia,-⟩:=Wv fr;rw[Z,e2,e7,e8,ia];clear Z e2 e7 e8 ia fr;clear J m X F O hm;unfold ATree.ptr at HL;conv=>arg 2;whnf
 go_wp2_with fail
 refine HL.o.mono ?_;rintro e w2⟨v2,rfl,o,I,ny⟩;obtain⟨p2,jP,rfl,dN,fZ,dn⟩:=o.form2;have iU:∀g,(Value.slice p2 P.length jP).ownBlock=some g->g<w2.heap.size∧¬M1.has g:=λg hg=>⟨(Y9 o g hg).2,Y.o.mat.fresh (Y9 o g hg).1⟩;refine Ht ?_;intro q cT ng;have eY:=lh o;have lV:=lh iU;rw[<-cT]at dN hI ⊢;have gZ:=lh dn;have d7:=lh cT;have aO:=lh I;have cD:=lh (Y.o.bel I);have ip:=lh hI;clear o I dn iU cT HL ny hI;go_wp2_with fail
 go_loopw [100] (λi wr=>∃(k:Nat) (u:MRep) (p:MSt),k<=q∧i=(vI k)∧Hid (MAt C u wr p)∧Hid (MFr M1 u w2 wr)∧Hid (Inv p (d+(q-k)))∧Hid (S=p.looses (P.drop k) vr)) (λi _=>q-(intOf i).toNat)
 case atStart=>exact⟨0,M1,s,Yh _,rfl,lh cD.o.mat,lh (.refl _ _),ip,lh P'⟩
 case round=>
  obtain⟨k,u,p,hk,rfl,da,bH,eA,dY⟩:=hrel;by_cases bV:k<q
  .obtain⟨y,hy⟩:∃y,P[k]? =some y:=⟨_,Y6 Pr⟩
   obtain⟨g0,hp⟩:=gZ.o k y hy;subst hp;obtain⟨mF,jh⟩:=lV.o g0 rfl;have cx:=(bH.o.cell mF jh).trans (eY.o.cells rfl hy);obtain⟨f0,f1⟩:=(cD.o.lf.fr bH.o).two;have fm:=Zbb da.o eA.o vr y;have lW:=lh fm;have hR:=dY.o;rw[show P.drop k=y::P.drop (k+1) by
    obtain⟨hl,he⟩:=List.getElem?_eq_some_iff.1 hy;rw[List.drop_eq_getElem_cons hl,he],Zfk]at hR
   have HR:=lh hR;have jz:=Z7v (d:=d+(q-(k+1))) (sc:=vr) (name:=y) (eA.o.less O');exact XN
  .have aR:k=q:=by omega
   subst aR;have hR:=dY.o;rw[List.drop_eq_nil_of_le Pz]at hR;have am:S=p:=hR;go_wp2_with fail
   exact eg.o _ _ u ⟨rfl,⟨rfl,rfl,rfl,rfl,rfl,trivial⟩,rfl⟩ PT ((MFr.of_below aO.o).trans bH.o)
theorem Zsa(U:EvS C M w st vr M1 W s)(E:TreeAt W B a)(hf:a.free M1)(hn:a.kids.length<=1500)(hI:Inv s (d+1+a.kids.length))(X:-1<=sc)(Y:sc<s.H.scopes.length)(fr:FrA 193 (Ee C w sc a [(19,vI sc)]) [] A)
 (g:∀A' m M',FrA 193 (Ee C w sc a [(19,vI (if(a.nt C.N).lets.isEmpty then sc else s.next))]) [] A'->MAt C M' m (if(a.nt C.N).lets.isEmpty then s else(s.opens sc (-1) (-3)).lets (a.nt C.N).lets s.next)->MFr M1 M' W m->K A' m) :
 (kG [1,1,1,1,1,1,1,1,1,0]).wp Tryz.prog (Exit.then K Q) A W:=by
 have HL:=lh (Va W B a E O');obtain⟨P,F⟩:=zX (a.kids.filter wH)
 have I:(a.nt C.N).lets=P.map (ATree.nt C.N):=by rw[F];exact YB
 rw[<-F]at HL;have HS:=lh U;have J:=lh (And.intro E hf);have HI:=lh hI;have HN:=lh hn;have jL:=lh (And.intro X Y);unfold Ee at fr;obtain⟨xt,rfl,e0,e2,e7,e8,ia,ui,-⟩:=Wv fr;rw[e0,e2,e7,e8,ia,ui];clear e0 e2 e7 e8 ia ui fr;unfold ATree.ptr at HL;rcases xZ:P with _|⟨y,l⟩
 .rw[I,xZ]at g;simp only[List.map_nil,List.isEmpty_nil,if_true]at g;rw[xZ]at HL;have eg:=lh g;clear U E hf hn hI X Y g I F xZ;conv=>arg 2;whnf
  go_wp2_with fail
  refine HL.o.mono ?_;rintro e w2⟨v2,rfl,o,p⟩;obtain⟨p2,jP,rfl,dN,fZ,Z⟩:=o.slice;have u:=lh p;clear o p Z;simp only[List.length_nil];go_wp2_with fail
  exact eg.o _ _ M1 ⟨rfl,⟨rfl,rfl,rfl,rfl,rfl,rfl,trivial⟩,rfl⟩ (HS.o.mat.below u.o) (.of_below u.o)
 .have hem:(a.nt C.N).lets.isEmpty=false:=by rw[I,xZ];rfl
  rw[hem]at g;simp only[Bool.false_eq_true,if_false]at g;obtain⟨q,hq⟩:=zX P.length
  have h0:decide (0<q)=true:=by rw[hq,xZ];simp
  have HQ:=lh hq;obtain⟨nx,eG⟩:=zX s.next
  obtain⟨so,aV⟩:=zX (s.opens sc (-1) (-3))
  obtain⟨sl,cf⟩:=zX (so.lets (a.nt C.N).lets nx)
  rw[<-aV,<-eG,<-cf]at g;have eg:=lh g;have eO:=λm (hB:Below W.heap.size W m)=>TE (HS.o.mat.below hB) HI.o sc (-1) (-3);rw[<-aV,<-eG]at eO;have jK:=lh eO;have eP:=(HI.o.less (d':=d+a.kids.length+1) O').opens (d:=d+a.kids.length) (outer:=sc) (object:=-1) (owner:=-3) jL.o.1 jL.o.2 Pa O';rw[<-aV]at eP;have na:=lh eP.1;have kj:=lh cf;clear U E hf hn hI X Y g I F xZ hem hq eG aV cf eO eP;conv=>arg 2;whnf
  go_wp2_with fail
  refine HL.o.mono ?_;rintro e w2⟨v2,rfl,o,p⟩;obtain⟨p2,jP,rfl,dN,fZ,Z⟩:=o.slice;have u:=lh p;rw[<-HQ.o];clear o p Z dN;go_wp2_with fail
  refine(jK.o _ u.o).mono ?_;rintro e w3⟨rfl,M3,dL,bq⟩;have O:=(MFr.of_below (M:=M1) u.o).trans bq;have hl:=Z82 dL (d:=d) na.o (O.tree J.o.1 J.o.2).1 (O.tree J.o.1 J.o.2).2 Qj nx;rw[<-kj.o]at hl;have bE:=lh O;have oO:=lh hl;simp only[ATree.ptr]at oO;clear dL bq O hl;go_wp2_with fail
  refine oO.o.mono ?_;rintro e w4⟨rfl,M4,fN,bh⟩;have jg:=lh fN;have kC:=lh (bE.o.trans bh);exact Zut
end
section
variable {C:RCtx}{M M1:MRep}{w W:World}{s:MSt}{B:Nat}{a:ATree}{sc vr:Int}{st:Bool}{d:Nat}{A:Act}{K:Act->World->Prop}{Q:Exit->Act->World->Prop}
def Tk(vr:Int)(s:MSt)(t:ByteArray)(v:LVal):MSt:=if 0<=s.H.objectOf vr then s.put (s.H.objectOf vr) t v false else s.write vr t v
theorem Ziq{t:ByteArray}{v:LVal}(hi:Inv s (d+1))(g:v.ok s.H.objects.length):Inv (Tk vr s t v) d∧Ext s (Tk vr s t v):=by
 unfold Tk;split;·exact zq hi g
 .exact Z7r hi g
theorem Zn6(hC:C.Ok)(hS:EvS C M w st vr M1 W s)(ha:TreeAt W B a)(hf:a.free M1)(ja:(a.nt C.N).stm∧(a.nt C.N).tree.many<=1500)(hn:a.kids.length<=1500){jC:Int}
 (hI:Inv s (d+6*(a.nt C.N).funcs.length))(h0:0<=jC)(h1:jC<s.H.scopes.length)(fr:FrA 193 (Ee C w sc a [(19,vI jC)]) [] A)
 (Y:∀A' o M',FrA 193 (Ee C w sc a [(19,vI jC)]) [] A'->MAt C M' o (s.funcs (λs t=>s.loose vr t) (Tk vr) (a.nt C.N).funcs jC ⟨st,vr⟩)->MFr M1 M' W o->K A' o)(hQ:∀c a d v w,Q (.panic c) (Act.put a d v) w->Q (.panic c) a w) :
 (kG [1,1,1,1,1,1,1,1,1,1,0]).wp Tryz.prog (Exit.then K Q) A W:=by
 have ie:=TK ja.1 ja.2;rw[VB]at Y hI ie;have HL:=lh (Vw W B a ha O');obtain⟨P,hP⟩:=zX (a.kids.filter wW)
 rw[<-hP]at HL Y hI ie;refine Znz ?_;intro oV;have vK:P.length<=1500:=PV
 obtain⟨S,mR⟩:=zX (s.funcs (λs t=>s.loose vr t) (Tk vr) (P.map (ATree.nt C.N)) jC ⟨st,vr⟩)
 rw[<-mR]at Y;rw[Ym]at hI;have qp:=lh (show∀y∈P,zU (y.nt C.N)from λy hy=>ie _ (List.mem_map.2 ⟨y,hy,rfl⟩));have qr:=lh hC;have HO:=lh (Y4 hS.mat.old.size (Y0 _));have I:=lh (And.intro ha hf);have eg:=lh Y;have ga:=lh hQ;have xL:=lh hS;have sm:=lh mR;have km:=lh (And.intro h0 h1);have HI:=lh hI;unfold Ee at fr;obtain⟨xt,rfl,e0,e2,e7,e8,ia,ui,-⟩:=Wv fr;rw[e0,e2,e7,e8,ia,ui];clear e0 e2 e7 e8 ia ui fr;clear hC hS ha hf Y hP mR hI h0 h1 ja ie hQ;unfold ATree.ptr at HL
 conv=>arg 2;whnf
 go_wp2_with fail
 refine HL.o.mono ?_;rintro e w5⟨v5,rfl,Z,eS⟩;obtain⟨p5,qf,rfl,jp,mP,fQ⟩:=Z.slice;have gR:∀g,(Value.slice p5 P.length qf).ownBlock=some g->¬M1.has g:=λg hg=>xL.o.mat.fresh (Y9 Z g hg).1;obtain⟨m,fq⟩:=zX P.length
 rw[<-fq]at jp Z gR ⊢;have gy:=lh eS;have lq:=lh (xL.o.bel eS);have N5:=lh Z;have lV:=lh gR;have jq:=lh fQ;have d7:=lh fq;have mm:m<=9223372036854775807:=O'
 clear Z eS fQ gR fq HL;go_wp2_with fail
 go_loopw [125] (λi wr=>∃(k:Nat) (J:MRep) (F:MSt),k<=m∧i=(vI k)∧Hid (MAt C J wr F)∧Hid (MFr M1 J w5 wr)∧Hid (Inv F (d+6*(m-k)))∧Hid (Ext s F)∧Hid (S=F.funcs (λs t=>s.loose vr t) (Tk vr) ((P.drop k).map (ATree.nt C.N)) jC ⟨st,vr⟩)) (λi _=>m-(intOf i).toNat)
 case atStart=>exact⟨0,M1,s,Yh _,rfl,lh lq.o.mat,lh (.refl _ _),lh (HI.o.less Rl),lh (Ext.refl _),lh P'⟩
 case round=>
  obtain⟨k,J,F,hk,rfl,da,bH,eA,dO,dY⟩:=hrel;by_cases bV:k<m
  .obtain⟨y,hy⟩:∃y,P[k]? =some y:=⟨_,Y6 Pr⟩
   obtain⟨g0,hp⟩:=jq.o k y hy;subst hp;refine Zrp ?_;intro aU bN cx bM;have nJ:=eA.o.less (d':=d+6*(m-(k+1))+6) O';have gD:0<=jC∧jC<F.H.scopes.length:=⟨km.o.1,by have h1:=km.o.2;have h3:=dO.o.ls;omega⟩
   obtain⟨s1,aG⟩:=zX (F.loose vr y.text)
   have gM:=Zbb da.o.drew eA.o vr y.text;have O:=Z7v (d:=d+6*(m-(k+1))+5) (sc:=vr) (name:=y.text) nJ;rw[<-aG]at gM O;have JY:=lh gM;have ai:jC<s1.H.scopes.length:=by have:=O.2.ls;omega
   have gS:=λ(o:World) (M':MRep) (h:MAt C M' o s1) (f:MFr M1 M' W o)=>XU qr.o h (d:=d+6*(m-(k+1))+1) (O.1.less O') ((f.tree I.o.1 I.o.2).1.kid bN) ((f.tree I.o.1 I.o.2).2.kid bN) (qp.o y aU) jC ⟨st,vr⟩ gD.1 ai;obtain⟨p,dM⟩:=zX s1.nextO
   obtain⟨sf,ju⟩:=zX (s1.funS (y.nt C.N) jC ⟨st,vr⟩)
   rw[<-dM,<-ju]at gS;have iC:=lh gS;simp only[ATree.ptr]at iC;obtain⟨j1,j2,j3⟩:=WU (d:=d+6*(m-(k+1))+1) (n:=y.nt C.N) (sc:=jC) (fr:=⟨st,vr⟩) (O.1.less O') (qp.o y aU) gD.1 ai;rw[<-ju]at j1 j2 j3;have kf:(LVal.ref p).ok sf.H.objects.length:=N' (by rw[dM];show(0:Int)<=s1.H.objects.length;omega) (by rw[j3,dM];show(s1.H.objects.length:Int)<_;omega);obtain⟨sb,aN⟩:=zX (Tk vr sf y.text (.ref p))
   have ex:=Ziq (d:=d+6*(m-(k+1))) (vr:=vr) (t:=y.text) (v:=.ref p) j1 kf;rw[<-aN]at ex;have U:=dY.o;rw[show P.drop k=y::P.drop (k+1) by
    obtain⟨hl,he⟩:=List.getElem?_eq_some_iff.1 hy;rw[List.drop_eq_getElem_cons hl,he],List.map_cons,Z6l,Zz,<-aG,<-ju,<-dM,<-aN]at U
   have bD:=lh U;have HJ:=lh j1;have tj:=lh ex.1;have tt:=lh (((dO.o.trans O.2).trans j2).trans ex.2);have cJ:=lh aN
   have Az:=lh (show∀o M',MFr J M' wr o->vC o w.heap.size 1 (vI vr)∧vC o y.b 1 (.string y.text)from
    λo M' f=>⟨((lq.o.lf.fr bH.o).fr f).cell rfl,((bM.o.trans f).tree I.o.1 I.o.2).1.kid bN|>.c1⟩)
   clear nJ gD gM O ai gS dM ju j1 j2 j3 kf aN ex U hy aG aU;go_wp2_with fail
   refine Za [(true,0),(true,1),(true,2),(true,3),(true,4),(true,5),(true,6)] [7] (λW=>vC W w.heap.size 1 (vI vr)∧vC W y.b 1 (.string y.text)) Pb Pb (λc a d v w h=>ga.o c a d v w h) (Az.o _ _ (.drew (.refl _ _))) (λbu=>?_);refine ep ?_;refine Z0 ?_;go_wp2_with fail
   refine JY.o.mono ?_;rintro e W1⟨rfl,Ma,nL,iG⟩;have F1:=(MFr.drew (.refl J wr)).trans iG;have CG:=lh nL;have ea:=lh F1;obtain⟨f0,f1⟩:=((lq.o.lf.fr bH.o).fr F1).two;have CM:=lh (iC.o _ _ nL (bM.o.trans F1));clear nL iG F1 iC JY cx;go_wp2_with fail
   refine CM.o.mono ?_;rintro e W2⟨rfl,Mb,xW,uh⟩;have u:=Lo.new (wE:=W) xW (Y4 bM.o.size (Y4 ea.o.size uh.size)) HO.o #[vI 5,vI p,.string ⟨#[]⟩] 55;have aB:=Z1 W2 (.cells #[vI 5,vI p,.string ⟨#[]⟩] 55);have g9:=lh u;have bW:=lh (xW.below aB);have aZ:=lh (ea.o.trans (uh.trans (.of_below aB)));clear xW uh u aB f0 f1 CM CG;go_wp2_with fail
   have u:=g9.o;have aQ:=bW.o;have X:=aZ.o;clear g9 bW aZ;generalize W2.alloc (.cells #[vI 5,vI p,.string ⟨#[]⟩] 55)=W3 at u aQ X ⊢;generalize W2.heap.size=E at u aQ X ⊢;have dq:=lh aQ;have bE:=lh (bH.o.trans X)
   have nK:=lh (show∀o M',MFr Mb M' W3 o->vC o y.b 1 (.string y.text)∧vC o E 0 (vI 5)∧vC o E 1 (vI p)∧vC o E 2 (.string ⟨#[]⟩)from
    λo M' f=>⟨(Az.o _ _ (X.trans f)).2,(u.fr f).cell rfl,(u.fr f).cell rfl,(u.fr f).cell rfl⟩)
   have CN:=lh (show∀o M',MFr Mb M' W3 o->vC o w.heap.size 1 (vI vr)from λo M' f=>(Az.o _ _ (X.trans f)).1);have xP:=Z65 dq.o.drew.heap vr;obtain⟨oo,wu⟩:=zX (sf.H.objectOf vr)
   rw[<-wu]at xP;have Nf:=lh xP;have Ct:=lh wu;clear u aQ X xP wu;refine Za [(true,0),(true,1),(true,2),(true,3),(true,4)] [5,6] (λW=>vC W w.heap.size 1 (vI vr)) Pb Pb (λc a d v w h=>ga.o c a d v w h) (CN.o _ _ (.drew (.refl _ _))) (λbu=>?_);refine ep ?_;refine Z0 ?_;go_wp2_with fail
   refine Nf.o.mono ?_;rintro e W4⟨rfl,JZ⟩;rw[JZ];clear JZ W4;by_cases ho:0<=oo
   .have hpt:=yB dq.o.drew.drew HJ.o oo y.text (.ref p) false;have qA:sf.put oo y.text (.ref p) false=sb:=by rw[cJ.o];unfold Tk;rw[<-Ct.o,Y5 ho]
    rw[qA]at hpt;simp only[LVal.agg,LVal.ref]at hpt;have kD:=lh hpt;clear hpt qA;go_wp2_with fail
    refine Za [(true,0),(true,1),(true,2),(true,3),(true,4),(true,5),(true,6),(true,7),(true,8)] [9] (λW=>vC W y.b 1 (.string y.text)∧vC W E 0 (vI 5)∧vC W E 1 (vI p)∧vC W E 2 (.string ⟨#[]⟩)) Pb Pb (λc a d v w h=>ga.o c a d v w h) (nK.o _ _ ((MFr.drew (.refl _ _)).trans (.drew (.refl _ _)))) (λbu=>?_);exact XM
   .have hpt:=X0 dq.o.drew.drew HJ.o vr y.text (.ref p);have qA:sf.write vr y.text (.ref p)=sb:=by rw[cJ.o];unfold Tk;rw[<-Ct.o,Y3 ho]
    rw[qA]at hpt;simp only[LVal.agg,LVal.ref]at hpt;have kD:=lh hpt;clear hpt qA;go_wp2_with fail
    refine Za [(true,0),(true,1),(true,2),(true,3),(true,4),(true,5),(true,6),(true,7),(true,8),(true,9)] [10] (λW=>vC W w.heap.size 1 (vI vr)∧vC W y.b 1 (.string y.text)∧vC W E 0 (vI 5)∧vC W E 1 (vI p)∧vC W E 2 (.string ⟨#[]⟩)) Pb Pb (λc a d v w h=>ga.o c a d v w h) (⟨CN.o _ _ ((MFr.drew (.refl _ _)).trans (.drew (.refl _ _))),nK.o _ _ ((MFr.drew (.refl _ _)).trans (.drew (.refl _ _)))⟩) (λbu=>?_)
    exact XM
  .have aR:k=m:=by omega
   subst aR;have U:=dY.o;rw[List.drop_eq_nil_of_le Pz]at U;have am:S=F:=U;go_wp2_with fail
   exact eg.o _ _ J ⟨rfl,⟨rfl,rfl,rfl,rfl,rfl,rfl,trivial⟩,rfl⟩ PT ((MFr.of_below gy.o).trans bH.o)
end
section
variable {C:RCtx}{M M1:MRep}{w W:World}{s:MSt}{B:Nat}{a:ATree}{sc vr:Int}{st:Bool}{d:Nat}{D:DF}{b jC:Int}{A:Act}{K:Act->World->Prop}{Q:Exit->Act->World->Prop}
def evR(r:MSt×Except Er (Bool×LVal)):MSt×Except Er LVal:=match r with
 |(g,.ok _)=>(g,.ok g.last)
 |(g,.error e)=>(g,.error e)
theorem Zpe(cZ:Dl C D b)(hD:DH D b)(g:EvS C M w st vr M1 W s)(X:TreeAt W B a)(hf:a.free M1)(hst:(a.nt C.N).stm)(hm:(a.nt C.N).tree.many<=1500)(hn:a.kids.length<=1500){m:MSt}(gW:m={s with last:=LVal.zero})
 (hI:Inv m d)(hA:FAt m jC ⟨st,vr⟩)(hb:b<=m.steps)(hs:m.steps<=20000)(fr:FrA 193 (Ee C w sc a [(19,vI jC)]) [] A)
 (Y:∀y a' w',(results Tryz.f143 a'.tmps).run Tryz.prog w'=.ok y w'->a'.defers=[]->al C M w (evR (p' D jC ⟨st,vr⟩ (a.nt C.N).kids m)) (.returned y) w'->Q .ret a' w')(hQ:∀c a d v w,Q (.panic c) (Act.put a d v) w->Q (.panic c) a w) :
 (kG [1,1,1,1,1,1,1,1,1,1,1]).wp Tryz.prog Q A W:=by
 obtain⟨pb,cb,I,cr,eu,dc⟩:=jm.slice X.rowOf;obtain⟨qb,mu⟩:=zX a.kids.length
 rw[<-mu]at I;obtain⟨r,hr⟩:=zX (p' D jC ⟨st,vr⟩ (a.nt C.N).kids m)
 rw[<-hr]at Y;rw[Zq,yn]at hr;have an:=TG hst hm;have bG:∀y∈a.kids,(y.nt C.N).wf .s∧(y.nt C.N).tree.many<=1500:=λy hy=>an (y.nt C.N) Qa;obtain⟨o,p⟩:=Zcm g.mat LVal.zero;rw[<-gW]at o;simp only[LVal.zero]at o p;have Z:=g.mat.cell 14 (vI s.last.kind) Pl;have AF:=g.mat.cell 15 (vI s.last.n) Pl;have AG:=g.mat.cell 16 (.string s.last.s) Pl;have CB:=g.mat.fz 14;have CC:=g.mat.fz 15;have CD:=g.mat.fz 16
 obtain⟨W1,uj⟩:=zX (((W.setCell ⟨C.mb,14,none⟩ (vI 0)).setCell ⟨C.mb,15,none⟩ (vI 0)).setCell ⟨C.mb,16,none⟩ (.string ⟨#[]⟩))
 rw[<-uj]at o p;have J:=g.step o p;obtain⟨FW,tE⟩:=p.tree X hf;have HC:=lh (Calls.dres (ZB (fr:=⟨st,vr⟩) cZ hD o.drew hI hA hb hs FW.drew tE hn bG));rw[I,<-hr]at HC
 have CO:=lh (show∀u M',MFr M1 M' W1 u->vC u w.heap.size 0 (.bool st)∧vC u w.heap.size 1 (vI vr)∧vC u a.b 3 (.slice pb qb cb)from
  λu M' f=>⟨(J.lf.fr f).cell rfl,(J.lf.fr f).cell rfl,by have:=(f.tree FW tE).1.c3;rwa[I]at this⟩)
 have dS:=lh J;have eR:=lh Y;have ga:=lh hQ;have nW:=lh uj;unfold Ee at fr;obtain⟨xt,rfl,e0,e2,e7,e8,ia,ui,-⟩:=Wv fr;rw[e0,e2,e7,e8,ia,ui];clear e0 e2 e7 e8 ia ui fr;clear cZ hD g X hf hst hm hn gW hI hA hb hs Y hQ I cr eu dc mu hr an bG o p uj J FW tE;conv=>arg 2;whnf
 go_wp2_with fail
 rw[<-nW.o];clear Z AF AG CB CC CD;refine Za [(true,0),(true,1),(true,2),(true,3),(true,4),(true,5),(true,6),(false,7),(true,8),(true,9),(true,10),(true,11)] [12] (λW=>vC W w.heap.size 0 (.bool st)∧vC W w.heap.size 1 (vI vr)∧vC W a.b 3 (.slice pb qb cb)) Pb Pb (λc a d v w h=>ga.o c a d v w h) (CO.o _ _ (.drew (.refl _ _))) (λbu=>?_);refine ep ?_;refine Z6 (λK hK=>?_);go_simp
 refine HC.o.mono ?_;rintro e W2⟨M2,b2,k2,n2,t2,nH,rfl,hr2⟩;have F2:=(MFr.drew (.refl M1 W1)).trans hr2.2.1;refine hK _ _ (CO.o _ _ F2) ?_;clear hK K;have bD:=lh hr2;have O:=lh (dS.o.step hr2.1 F2);have Z:=hr2.1.cell 14 (vI r.1.last.kind) Pl;have AF:=hr2.1.cell 15 (vI r.1.last.n) Pl;have AG:=hr2.1.cell 16 (.string r.1.last.s) Pl;obtain⟨q0,q1,q2,z0,z1,z2⟩:=O.o.lr.six;clear hr2 F2 HC;simp only[ag];refine ep ?_;refine Z0 ?_;obtain⟨E,eV⟩:=zX r.1.last.kind
 obtain⟨F,ik⟩:=zX r.1.last.n
 obtain⟨lt,aA⟩:=zX r.1.last.s
 rw[<-eV]at Z;rw[<-ik]at AF;rw[<-aA]at AG;have Ng:=lh (show r.1.last=⟨E,F,lt⟩ by rw[eV,ik,aA]);clear eV ik aA;go_wp2_with fail
 refine eR.o (.tuple #[.agg #[vI E,vI F,.string lt],nH]) _ _ ?_ rfl ?_;·simp[results,Tryz.results143,go_sem,q0,q1,q2]
 .obtain⟨g1,g2,g3⟩:=O.o.lr.ret (x':=(vI E)) (y':=(vI F)) (z':=.string lt) O.o.mat O.o.fr;have h3:=bD.o.2.2;obtain⟨U,q9⟩:=r;cases q9 with
  |error x9=>exact⟨M2,g1,g2,⟨E,F,lt⟩,nH,rfl,g3 _ _ h3⟩
  | ok v9 =>
    obtain⟨-,rfl⟩:=h3;refine⟨M2,g1,g2,?_⟩;show _=Ending.returned (.tuple #[.agg #[vI U.last.kind,vI U.last.n,.string U.last.s],.nilIface]);rw[show U.last=⟨E,F,lt⟩from Ng.o]
end
section
variable {C:RCtx}{M M1:MRep}{w W:World}{s:MSt}{B:Nat}{a:ATree}{sc vr:Int}{st:Bool}{d:Nat}{D:DF}{b:Int}{A:Act}{K:Act->World->Prop}{Q:Exit->Act->World->Prop}
theorem Zka:kG [1,1,1,1,1,1,1]=Code.seq (kG [1,1,1,1,1,1,1,0]) (Code.seq (kG [1,1,1,1,1,1,1,1,0]) (Code.seq (kG [1,1,1,1,1,1,1,1,1,0]) (Code.seq (kG [1,1,1,1,1,1,1,1,1,1,0]) (kG [1,1,1,1,1,1,1,1,1,1,1])))):=by kernel_rfl
theorem Zg5:∀(l:List ByteArray) (u:MSt),(u.looses l vr).next=u.next:=by
 have g:∀(l:List ByteArray) (u:MSt),(u.looses l vr).H.scopes.length=u.H.scopes.length:=by
  intro l;induction l with
  |nil=>intro u;rfl
  | cons x l m =>
    intro u;refine(m (u.loose vr x)).trans ?_;exact Zwt
 intro l u;unfold MSt.next;rw[g]
theorem Zl0{D:DF}{n:NT}{sc:Int}{fr:Frm}:S3 D n sc fr s=evR (p' D (if n.lets.isEmpty then sc else s.next) fr n.kids (s.evalS n sc fr)):=by
 unfold S3 evR;rcases p' D (if n.lets.isEmpty then sc else s.next) fr n.kids (s.evalS n sc fr)with⟨g,e|v⟩<;>rfl
theorem Zo9(fr:FrA 193 (Ee C w sc a []) [] A)(g:∀m,FrA 193 (Ee C w sc a [(19,vI sc)]) [] m->K m W):(kG [1,1,1,1,1,1,1,1,0]).wp Tryz.prog (Exit.then K Q) A W:=by
 have F:=lh g;unfold Ee at fr;obtain⟨G,rfl,o,p,u,y,E,-⟩:=Wv fr;rw[o,p,u,y,E];clear o p u y E fr;clear g;conv=>arg 2;whnf
 go_wp2_with fail
 exact F.o _ ⟨rfl,⟨rfl,rfl,rfl,rfl,rfl,rfl,trivial⟩,rfl⟩
theorem Zmd(hC:C.Ok)(cZ:Dl C D b)(hD:DH D b)(Z:EvS C M w st vr M1 W s)(ha:TreeAt W B a)(hf:a.free M1)(hst:(a.nt C.N).stm)(J:(a.nt C.N).tree.many<=1500)
 (hI:Inv s (d+13600))(hA:FAt s sc ⟨st,vr⟩)(hb:b<=s.steps)(hs:s.steps<=20000)(fr:FrA 193 (Ee C w sc a []) [] A)
 (HR:∀y a' w',(results Tryz.f143 a'.tmps).run Tryz.prog w'=.ok y w'->a'.defers=[]->al C M w (S3 D (a.nt C.N) sc ⟨st,vr⟩ s) (.returned y) w'->Q .ret a' w')(hQ:∀c a d v w,Q (.panic c) (Act.put a d v) w->Q (.panic c) a w) :
 (kG [1,1,1,1,1,1,1]).wp Tryz.prog Q A W:=by
 have dj:(a.nt C.N).tree.many=a.many:=by rw[SV];exact Tw a
 have O:a.kids.length<=1500:=PJ
 have dA:(yw a).length<=1500:=by have:=VI (n:=a.nt C.N);rw[Tz]at this;omega
 have qz:(a.nt C.N).funcs.length<=1500:=by have:=VP (n:=a.nt C.N);have:=Hv (n:=a.nt C.N);omega
 have nC:(a.nt C.N).lets.length<=1500:=by have:=UW (n:=a.nt C.N);have:=Hv (n:=a.nt C.N);omega
 obtain⟨s1,F⟩:=zX (s.looses (a.nt C.N).vars vr)
 have I:s1.next=s.next:=by rw[F];exact Zg5 _ _
 obtain⟨jC,p⟩:=zX ((if(a.nt C.N).lets.isEmpty then sc else s.next))
 obtain⟨U,X⟩:=zX ((if(a.nt C.N).lets.isEmpty then s1 else(s1.opens sc (-1) (-3)).lets (a.nt C.N).lets s1.next))
 obtain⟨s3,cL⟩:=zX (U.funcs (λs t=>s.loose vr t) (Tk vr) (a.nt C.N).funcs jC ⟨st,vr⟩)
 obtain⟨u,gW⟩:∃u:MSt,u={s3 with last:=LVal.zero}:=⟨_,rfl⟩
 have hE:s.evalS (a.nt C.N) sc ⟨st,vr⟩=u:=by
  rw[gW,cL,p,<-I,X,F];rfl
 have aj:=Zl0 (D:=D) (n:=a.nt C.N) (sc:=sc) (fr:=⟨st,vr⟩) (s:=s);rw[hE,<-p]at aj;rw[aj]at HR;obtain⟨t1,t2,t3⟩:=Zdb hI hA hst J;obtain⟨u1,u2⟩:=Zbd (s:=s) (n:=a.nt C.N) (sc:=sc) (fr:=⟨st,vr⟩);rw[hE]at t1 t2 t3 u1 u2;rw[<-p]at t3;have E:=Zbj (l:=(a.nt C.N).vars) (sc:=vr) (d:=d+12100) (s:=s) (hI.less (by rw[Tz];omega));rw[<-F]at E;have o:=hA.ext E.2;have i2:Inv U (d+9000)∧0<=jC∧jC<U.H.scopes.length:=by
  rw[X,p];cases hem:(a.nt C.N).lets.isEmpty with
  |true=>exact⟨E.1.less O',o.lo,o.hi⟩
  | false =>
    simp only[Bool.false_eq_true,if_false];obtain⟨b1,b2⟩:=E.1.opens (d:=d+12099) (outer:=sc) (object:=-1) (owner:=-3) (by have:=o.lo;omega) o.hi Pa O';obtain⟨c1,c2⟩:=TC (l:=(a.nt C.N).lets) (sc:=s1.next) (d:=d+10599) (b1.less O');have Y:=(o.opens b2).ext c2;rw[I]at Y;exact⟨c1.less O',Y.lo,by rw[I];exact Y.hi⟩
 have fA:b<=u.steps∧u.steps<=20000:=O'
 rw[Zka];refine wp_seq_k (λK g=>?_);have m:=lh g;clear g;refine Zpm (d:=d+12100) Z ha O' (hI.less O') fr (λA3 W3 M3 uf dL bq=>?_);rw[<-F]at dL;have wi:=Z.step dL bq;obtain⟨J0,xa⟩:=bq.tree ha hf;refine m.o _ _ ?_;clear m K;refine wp_seq_k (λK g=>?_);have m:=lh g;clear g;refine Zo9 uf (λA4 ug=>?_);refine m.o _ _ ?_;clear m K;refine wp_seq_k (λK g=>?_);have m:=lh g;clear g
 refine Zsa (d:=d+10000) wi J0 xa O (E.1.less O') (by have:=o.lo;omega) o.hi ug (λA5 W5 M5 AM lX em=>?_);rw[<-X]at lX;rw[I,<-p]at AM;have J1:=wi.step lX em;obtain⟨J2,J3⟩:=em.tree J0 xa;refine m.o _ _ ?_;clear m K;refine wp_seq_k (λK g=>?_);have m:=lh g;clear g;refine Zn6 (d:=d) hC J1 J2 J3 ⟨hst,J⟩ O (i2.1.less O') i2.2.1 i2.2.2 AM (λA6 W6 M6 AN ry fM=>?_) hQ;rw[<-cL]at ry;have Nh:=J1.step ry fM;obtain⟨Ni,Nj⟩:=fM.tree J2 J3;refine m.o _ _ ?_;clear m K
 exact Zpe (d:=d) cZ hD Nh Ni Nj hst J O gW t1 t3 fA.1 fA.2 AN HR hQ
end
structure Ar(k:Int)(n:Nat):Prop where
 call:k=35->n≠0
 two:k=9∨k=8∨k=24∨k=5∨k=37->n=2
 if':k=7->n=2∨n=3
 one:k=13∨k=34->n=1
theorem Ar.any{k:Int}{n:Nat}(h:k≠35∧k≠9∧k≠8∧k≠24∧k≠5∧k≠37∧k≠7∧k≠13∧k≠34):Ar k n:=⟨by omega,by omega,by omega,by omega⟩
mutual
def WT:Tree->Prop
 | .mk k _ _ l=>Ar k l.length∧VA l
def VA:List Tree->Prop
 | []=>True
 |t::l=>WT t∧VA l
end
theorem WT.kids{t:Tree}(h:WT t):VA t.kids:=by cases t;exact h.2
theorem WT.leaf{k:Int}{s:ByteArray}{n:Int}(h:k≠35∧k≠9∧k≠8∧k≠24∧k≠5∧k≠37∧k≠7∧k≠13∧k≠34):WT (.mk k s n []):=⟨Ar.any h,trivial⟩
def WA(a:ATree):Prop:=∀x∈a.subs,Ar x.kind x.kids.length
theorem WA.kid{a k:ATree}(h:WA a)(hk:k∈a.kids):WA k:=λx hx=>h x (Zcf hk hx)
theorem WA.self{a:ATree}(h:WA a):Ar a.kind a.kids.length:=h a (Z7w a)
theorem WA.call{a:ATree}(h:WA a):Zo8 a:=λx hx g e=>(h x hx).call g (by rw[e];rfl)
mutual
theorem Zqd:∀(a:ATree),WT a.tree->WA a
 | .mk b v k t n ks, h => by
   intro x hx;simp only[ATree.tree,WT]at h;simp only[ATree.subs,List.mem_cons]at hx;rcases hx with rfl|hx
   .simp only[ATree.kind,ATree.kids];have:=h.1;rw[Z87,Ym]at this;exact this
   .exact Zpc ks h.2 x hx
theorem Zpc:∀(l:List ATree),VA (fs l)->∀x∈ox l,Ar x.kind x.kids.length
 | [],_,x,hx=>by simp[ox]at hx
 | a :: l, h, x, hx => by
   simp only[fs,VA]at h;simp only[ox,List.mem_append]at hx;rcases hx with hx|hx;·exact Zqd a h.1 x hx
   .exact Zpc l h.2 x hx
end
theorem Zta{l:List ATree}(h:l.length=2):∃x y,l=[x,y]:=by
 match l,h with
 | [x,y],_=>exact⟨x,y,rfl⟩
def Zv1(B m:Nat):Prop:=
 ∀ (a : ATree) (w : World) (st ins : Bool), a.many ≤ m → WA a → a.many < 274877906944 → TreeAt w B a →
   Calls Tryz.prog 71 #[.agg #[.bool st,.bool ins],a.ptr] w λe w'=>e=.returned (vI (qB a st ins))∧Below w.heap.size w w'
def Sv(B m:Nat):Prop:=
 ∀ (a : ATree) (w : World) (st ins : Bool), a.many ≤ m + 1 → (∀ k ∈ a.kids, WA k) → a.many < 274877906944 → TreeAt w B a →
   Calls Tryz.prog 31 #[.agg #[.bool st,.bool ins],a.ptr] w λe w'=>e=.returned (vI (rx a.kids st ins))∧Below w.heap.size w w'
theorem Zi5{l:List ATree}{k:Nat}{x:ATree}{st ins:Bool}(h:l[k]?=some x):rx (l.drop k) st ins=if qB x st ins≠0 then qB x st ins else rx (l.drop (k+1)) st ins:=by
 obtain⟨hk,he⟩:=List.getElem?_eq_some_iff.1 h;rw[List.drop_eq_getElem_cons hk,he];rfl
theorem Zgz{B m:Nat}(hN:Zv1 B m):Sv B m:=by
 intro a w st ins hm hA fe u;obtain⟨p,cp,J,cr,eu⟩:=u.vOf;have c3:vC w a.b 3 (.slice p a.kids.length cp):=by rw[<-J];exact u.c3
 have aH:a.kids.length<=9223372036854775807:=by unfold maxLen at eu;omega
 have eI:Below w.heap.size w (w.alloc (.cells #[.bool st,.bool ins] 91)):=(Y2 _ _).alloc (Y0 _) _;have rn:(w.alloc (.cells #[.bool st,.bool ins] 91)).cell? ⟨a.b,3,none⟩=some (.slice p a.kids.length cp):=(Zb u.lt).trans c3;have O:(w.alloc (.cells #[.bool st,.bool ins] 91)).cell? ⟨w.heap.size,0,none⟩=some (.bool st):=Pg
 have U:(w.alloc (.cells #[.bool st,.bool ins] 91)).cell? ⟨w.heap.size,1,none⟩=some (.bool ins):=Pg
 have X:(w.alloc (.cells #[.bool st,.bool ins] 91)).heap.size=w.heap.size+1:=Pg
 have HN:=lh (λ(x:ATree) (hx:x∈a.kids) (W:World) (h:TreeAt W B x)=>hN x W st ins (by have:=WQ hx;omega) (hA x hx) (by have:=WQ hx;omega) h);have HT:=lh u;have tS:=lh eI;have HV:=lh J;obtain⟨n,Y⟩:=zX a.kids.length
 rw[<-Y]at c3 rn aH cr;have Z:=lh Y;obtain⟨R,hR⟩:=zX (rx a.kids st ins)
 rw[<-hR];have HR:=lh hR;obtain⟨w1,eh⟩:=zX (w.alloc (.cells #[.bool st,.bool ins] 91))
 have nW:=lh eh;rw[<-eh]at X O U;have xo:=lh X;have D0:=lh O;have D1:=lh U;clear hN hA u hm fe eI J Y hR eh X O U;unfold ATree.ptr;go_enter Tryz.func31,Tryz.ntmps31
 go_wp2_with fail
 go_loopw [15] (λi wr=>∃(k:Nat),k<=n∧i=(vI k)∧Hid (Below w1.heap.size w1 wr)∧Hid (rx (a.kids.drop k) st ins=R)) (λi _=>n-(intOf i).toNat)
 case atStart=>exact⟨0,Yh _,rfl,lh (by rw[nW.o];exact Y2 _ _),lh HR.o.symm⟩
 case round=>
  obtain⟨k,hk,rfl,y,eR⟩:=hrel;have e0:vC wr w.heap.size 0 (.bool st):=(Yb (y.o.block w.heap.size (by rw[xo.o];omega))).trans D0.o;have e1:vC wr w.heap.size 1 (.bool ins):=(Yb (y.o.block w.heap.size (by rw[xo.o];omega))).trans D1.o;have eX:Hid (Below w.heap.size w wr):=lh (by
   have o:=tS.o;rw[<-nW.o]at o;exact o.trans (y.o.mono o.size))
  by_cases bV:k<n
  .obtain⟨x,hx⟩:∃x,a.kids[k]? =some x:=⟨_,Y6 (by rw[<-Z.o];exact bV)⟩
   have eK:TreeAt wr B a:=HT.o.bel eX.o;have ae:=eK.rowOf;rcases Z4 ae with⟨_,h2⟩|⟨g0,gf,fG,_⟩;·rw[<-Z.o]at h2;omega
   have hp:p=some ⟨g0,0,none⟩:=by
    exact S6
   subst hp;refine NP ?_;intro cx;have aU:x∈a.kids:=Yd hx;have E:=HN.o x aU wr (eK.kid aU);have F:=Zi5 (st:=st) (ins:=ins) hx;rw[eR.o]at F;obtain⟨r,hr⟩:=zX (qB x st ins)
   rw[<-hr]at E F;unfold ATree.ptr at cx E;have eB:=lh E;have fC:=lh F;clear eK ae fG hx E aU F hr;go_wp2_with fail
   refine eB.o.mono ?_;rintro e w2⟨rfl,ax⟩;have x7:w1.heap.size<=wr.heap.size:=y.o.size;have aO:=lh (y.o.trans (ax.mono x7));have sQ:=zT eX ax;clear ax eB;by_cases I:r=0
   .subst I;go_wp2;go_roundw
    case rel=>
     have o:=fC.o;simp only[ne_eq,not_true_eq_false,if_false]at o;exact⟨k+1,by omega,by go_num,aO,lh o.symm⟩
    case measure=>simp[intOf];omega
   .have n0:(r !=0)=true:=by simpa using I
    have HZ:=lh I;clear I;go_wp2;go_ret;refine⟨?_,sQ.o⟩;have o:=fC.o;rw[Y5 HZ.o]at o;rw[o];rfl
  .have aR:k=n:=by omega
   subst aR;go_wp2;go_ret;refine⟨?_,eX.o⟩;have o:=eR.o;rw[List.drop_of_length_le (by rw[<-Z.o];exact Y0 _)]at o;rw[<-o];rfl
