/- Package run: value: two operands. -/
import Derived.Test.YtjikfacdcdiddaaGreatDoorJ23
set_option maxRecDepth 100000
set_option maxHeartbeats 20000000
set_option linter.unusedVariables false
set_option linter.unusedSimpArgs false
namespace Go.Proofs.YtjikfacdcdiddaaGreatDoor
open Go Go.RowKit
section
variable {C:RCtx}{M M':MRep}{w w':World}{s s':MSt}{B:Nat}{a:ATree}{V:VF}{D:DF}{b:Int}{sc:Int}{fr:Frm}{d:Nat}
theorem Ztl(gK:F9 C.w0)(cA:xH C V b)(hV:VH V b)(h:MAt C M w s)(hI:Inv s 0)(t7:d+1<=20000)(hA:FAt s sc fr)(hb:b<=s.steps+1)(hs:s.steps<20000)(ha:TreeAt w B a)(hf:a.free M){x y:ATree}(cB:a.kids=[x,y])(wx:(x.nt C.N).wf .v)(wy:(y.nt C.N).wf .v)(mx:(x.nt C.N).tree.many<=1500)(my:(y.nt C.N).tree.many<=1500)(hk:27<=a.kind∧a.kind<=31) :
 Calls Tryz.prog 77 #[vP C.mb,a.ptr,vI sc,.agg #[.bool fr.strict,vI fr.vars]] w λe w'=>al C M w (yk (x4 V D (a.nt C.N) sc fr) s) e w':=by
 refine I4 ?_;intro s1 aG bY hst jF bc dt du dv z0 aD;rw[<-aD]at bc dt du dv;refine o9 ?_;intro cF f5 y5 aE aY;rw[<-aG]at aE;refine pN ?_;intro z hz;rw[<-hz]at aE aY;refine Kw ?_;intro eT aJ bz lf lr ln g5 c0;rw[aD]at f5 y5;rw[hz,aD]at g5 c0;refine NS ?_;intro hR R aS;rw[<-aS];rw[<-aS]at hR;clear aS;refine L3 ?_;intro dC HZ ar bQ dH bM HM fI ea HO HE;refine SE ?_;intro fS dP eC;have ai:b<=s1.steps:=O'
 have jc:s1.steps<=20000:=O'
 unfold x4 at hR;have p:¬a.kind=17∧¬a.kind=18∧¬(a.kind=19∨a.kind=20)∧¬a.kind=21∧¬a.kind=22∧¬a.kind=23∧¬a.kind=24∧¬(a.kind=25∨a.kind=26):=O'
 rw[Zc,Y3 p.1,Y3 p.2.1,Y3 p.2.2.1,Y3 p.2.2.2.1,Y3 p.2.2.2.2.1,Y3 p.2.2.2.2.2.1,Y3 p.2.2.2.2.2.2.1,Y3 p.2.2.2.2.2.2.2,Y5 hk]at hR;obtain⟨kg,kc,c3,ct,p,bO,ba,eU⟩:=aJ.row bz PH;rw[cB]at c3 ct bO;refine Zr1 ?_;intro ee eD k0 k1;simp only[List.length_cons,List.length_nil]at c3 ct;have e0:(a.nt C.N).kid 0=x.nt C.N:=sp Qe;have e1:(a.nt C.N).kid 1=y.nt C.N:=sp Qe;rw[e0,e1]at hR;refine X5 ?_;intro ap r1 bA bF aj;unfold gE at hR
 rw[<-bA]at bF aj hR;have bR:=lh aj;have HR:=lh hR;have HS:=lh ap;have ii:=lh (hA.ext dP);have HB:=lh ai;have po:=lh (aJ.kid eD);have oR:=lh (bz.kid eD);have oS:=lh cA;have HV:=lh hV;have wj:=lh gK;clear hz aD bc cF aE aY eT aJ bz dt du dv lf lr ln ha hf h hI aG fS dP eC ai jc ap c3 k0 k1 bO cB e0 e1 bA aj hR hA cA hV ee eD p gK;unfold ATree.ptr;have rZ:a.kind=27∨a.kind=28∨a.kind=29∨a.kind=30∨a.kind=31:=O'
 clear hk;obtain⟨u,bG⟩:=zX a.kind
 rw[<-bG]at c0 HS HR rZ;clear bG;rcases rZ with E|E|E|E|E
 all_goals
  rw[E]at c0;clear E;go_enter Tryz.func77,Tryz.ntmps77
  go_wp2_with fail
  rw[<-HZ.o];clear f5 y5 g5 c0
  refine uY (.take 0 (.take 1 (.take 2 (.take 3 (.take 4 (.take 5 (.take 6 (.take 7 (.take 8 (.two 9 (.take 10 (.take 11 (.take 12 (.go 13 (.go 14 (.go 15 (.nil))))))) 13 (.go 9 (.take 10 (.take 11 (.take 12 (.go 14 (.go 15 (.nil))))))))))))))))) 14 (λW=>vC W w.heap.size 0 (.bool fr.strict)∧vC W w.heap.size 1 (vI fr.vars)∧vC W a.b 0 (vI u)∧vC W a.b 3 (.slice (some ⟨kg,0,none⟩) 2 kc)∧vC W kg 0 (vP x.b)∧vC W kg 1 (vP y.b)) (HS.o _ _ (MFr.drew (.refl _ _))) ?_
  refine lM ?_;refine Zt ?_;apply L4 (H:=pV C w M z r1);·exact RD HS bF HE.o HO.o
  .exact Hu HS bF HM HE.o HO.o
  intro W1 F M1 k1 O U bU ai;obtain⟨s2,q1⟩:=r1;cases q1 with
  | error x1 =>
    refine Wk ?_;intro he av hR;simp only at hR;subst hR;obtain⟨T1,P1,rfl,hP⟩:=he.ne;have ej:=lh he;have I:=lh av.o.1.2.1;obtain⟨m0,m1,m2,-,-,-⟩:=(bQ.o.fr I.o).six;obtain⟨q0,q1,q2,z0,z1,z2⟩:=(ar.o.fr I.o).six;clear ai he HR;go_wp2;refine bodyPost_ret (v:=.tuple #[.agg #[vI 0,vI 0,.string ⟨#[]⟩],.iface T1 (.pointer P1)]) ?_ rfl ?_;·simp[results,Tryz.results77,go_sem,q0,q1,q2]
    .exact .err' ar.o bM.o av.o.1.1 I.o ej.o
  | ok v1 =>
    obtain⟨rfl,rfl⟩:v1=⟨k1,O,U⟩∧bU=.nilIface:=ai.1.2.2;refine Wl ?_;intro i1 x1 ey i2 F1 ef ty hst r2 hr2 bS bC;rw[<-hr2]at bS bC;have hR:=HR.o;simp only at hR;rw[<-hr2]at hR;have I:=lh F1;have bZ:=lh ef;have j7:=lh ai.2;have Gw:=lh ey;have cD:=lh (λW M' (f:MFr M1 M' W1 W)=>HS.o W M' (I.o.trans f));have nI:=lh (Y4 HE.o F1.size);have bD:=lh hR;clear ai i1 x1 ey i2 F1 ef ty hst hr2 hR HR;go_wp2_with fail
    refine uY (.take 0 (.take 1 (.take 2 (.take 3 (.take 4 (.take 5 (.take 6 (.take 7 (.take 8 (.two 9 (.take 10 (.take 11 (.take 12 (.go 13 (.go 14 (.go 15 (.nil))))))) 13 (.go 9 (.take 10 (.take 11 (.take 12 (.go 14 (.go 15 (.nil))))))))))))))))) 14 (λW=>vC W w.heap.size 0 (.bool fr.strict)∧vC W w.heap.size 1 (vI fr.vars)∧vC W a.b 0 (vI u)∧vC W a.b 3 (.slice (some ⟨kg,0,none⟩) 2 kc)∧vC W kg 0 (vP x.b)∧vC W kg 1 (vP y.b)) (cD.o _ _ (MFr.drew (.refl _ _))) ?_
    refine lM ?_;refine Zt ?_;apply L4 (H:=pV C w M1 W1 r2);·exact RD cD bS nI.o HO.o
    .exact Zuf cD bS bZ nI.o HO.o
    intro W2 p2 M2 Y Z t2 nH o;have J:=I.o.trans o.1.2.1;have aZ:=lh J;obtain⟨s3,q2⟩:=r2;cases q2 with
    | error x2 =>
      have he:ak C M2 W2 x2 nH:=o.1.2.2;have aO:=lh o;have am:R=(s3,.error x2):=bD.o;subst am;obtain⟨T1,P1,rfl,hP⟩:=he.ne;have il:=lh he;obtain⟨m0,m1,m2,-,-,-⟩:=(bQ.o.fr J).six;obtain⟨q0,q1,q2,z0,z1,z2⟩:=(ar.o.fr J).six;clear o he bD J;go_wp2;refine bodyPost_ret (v:=.tuple #[.agg #[vI 0,vI 0,.string ⟨#[]⟩],.iface T1 (.pointer P1)]) ?_ rfl ?_;·simp[results,Tryz.results77,go_sem,q0,q1,q2]
      .exact .err' ar.o bM.o aO.o.1.1 aZ.o il.o
    | ok v2 =>
      obtain⟨rfl,rfl⟩:v2=⟨Y,Z,t2⟩∧nH=.nilIface:=o.1.2.2;obtain⟨i1,x1,-,Cs,i2⟩:=bC.o;have am:R=TF u ⟨k1,O,U⟩ ⟨Y,Z,t2⟩ s3:=bD.o;have aQ:=o.1.1;have dY:=lh (Calls.vres (Zfh wj.o aQ.drew i1 u ⟨k1,O,U⟩ ⟨Y,Z,t2⟩ (Gw.o.mono x1.lo) Cs));rw[<-am]at dY
      have iW:=lh (show∀W M',MFr M2 M' W2 W->vC W F 0 (vI k1)∧vC W F 1 (vI O)∧vC W F 2 (.string U)∧vC W p2 0 (vI Y)∧vC W p2 1 (vI Z)∧vC W p2 2 (.string t2)∧vC W a.b 0 (vI u)from
       λW M' f=>have g:=(j7.o.fr o.1.2.1).fr f;⟨g.cell rfl,g.cell rfl,g.cell rfl,(o.2.fr f).cell rfl,(o.2.fr f).cell rfl,(o.2.fr f).cell rfl,(HS.o W M' (J.trans f)).2.2.1⟩)
      clear o i1 x1 Cs i2 am aQ bD J;go_wp2_with fail
      refine oi [(true,0),(true,1),(true,2),(true,3),(true,4),(true,5),(true,6),(false,7),(true,8),(true,9)] [10,11] (λW=>vC W F 0 (vI k1)∧vC W F 1 (vI O)∧vC W F 2 (.string U)∧vC W p2 0 (vI Y)∧vC W p2 1 (vI Z)∧vC W p2 2 (.string t2)∧vC W a.b 0 (vI u)) (iW.o _ _ (.drew (.refl _ _))) (λbu=>?_);refine ep ?_;refine Z6 (λK hK=>?_);go_simp
      refine dY.o.mono ?_;rintro e W3⟨M3,k3,n3,t3,fg,rfl,aX⟩;have F3:=(MFr.drew (.refl M2 W2)).trans aX.2.1;refine hK _ _ (iW.o _ _ F3) ?_;clear hK K;have bP:=lh aX;have bE:=lh (aZ.o.trans F3);clear aX F3;refine Vp ?_;intro q0 q1 q2 z0 z1 z2;obtain⟨s4,q3⟩:=R;exact ZF
end
section
variable {C:RCtx}{M M':MRep}{w w':World}{s s':MSt}{B:Nat}{a:ATree}{V:VF}{D:DF}{b:Int}{sc:Int}{fr:Frm}{d:Nat}
theorem Zga{V:VF}{D:DF}{f:Nat}{n:NT}(hs:s.steps<20000)(g:n.kids.isEmpty=true∨n.kind=5∨n.kind=6∨n.kind=12∨n.kind=8)(m:n.kind=2->n.kids.isEmpty=true):wI V D f n sc fr s =
 D9 V D f n sc fr (-1) LVal.zero {s with steps:=s.steps+1}:=by
 unfold wI yk;rw[Y3 O',Y5 g];show D9 V D f n sc fr (if n.kind=2∧n.kids.isEmpty=false then s.H.find sc n.text else -1) LVal.zero _=_;rw[Y3 (λe=>by rw[m e.1]at e;exact absurd e.2 Pa)]
theorem Zfi(h:MAt C M w s)(hI:Inv s 0)(hs:s.steps<20000)(ha:TreeAt w B a)(hf:a.free M){m:Nat}(hk:a.kids=[]∧(a.kind=2∨a.kind=16)∨a.kind=5) :
 Calls Tryz.prog 45 #[vP C.mb,a.ptr,vI sc,.agg #[.bool fr.strict,vI fr.vars]] w λe w'=>iz C M w (wI V D m (a.nt C.N) sc fr s) e w':=by
 refine I4 ?_;intro s1 aG bY hst jF bc dt du dv z0 aD;rw[<-aD]at bc dt du dv;refine o9 ?_;intro cF f5 y5 aE aY;rw[<-aG]at aE;refine pN ?_;intro z hz;rw[<-hz]at aE aY;refine Kw ?_;intro eT aJ bz lf lr ln g5 c0;rw[aD]at f5 y5;rw[hz,aD]at g5 c0;obtain⟨R,o⟩:=zX (wI V D m (a.nt C.N) sc fr s)
 rw[<-o];have u:=o.trans (Zga (fr:=fr) (sc:=sc) (V:=V) (D:=D) (f:=m) (n:=a.nt C.N) hs Qs Qs);rw[<-aG]at u;clear o;refine L3 ?_;intro dC HZ ar bQ dH bM HM fI ea HO HE;refine NU ?_;intro q hq pp cp co cr eu dc;rw[<-hq]at co cr;refine KJ ?_;intro jZ dR eJ;rw[jZ]at dR;refine KC ?_;intro zv ff;rw[<-ff]at dR eJ;have c3:=aJ.c3;rw[co]at c3;refine RI ?_;intro d3 d0 d1 f0 f1;rw[ff,hz,aD]at d3 d0 d1 f0 f1
 refine Sc ?_;intro lN oQ nN oI lO;have E:R=(s1,.ok (false,⟨0,0,⟨#[]⟩⟩)):=by
  rw[u];unfold D9;rw[Zc,Zq];rcases hk with⟨h1,g|g⟩|g<;>rw[g]<;>simp <;>first|(rw[h1];rfl)|rfl
 have y:a.kids=[]->q=0:=λe=>by rw[hq,e];rfl
 have F:a.kind=2∧q=0∨a.kind=16∧q=0∨a.kind=5:=by
  rcases hk with⟨h1,g|g⟩|g;·exact .inl ⟨g,y h1⟩
  .exact .inr (.inl ⟨g,y h1⟩)
  .exact .inr (.inr g)
 clear hz aD bc cF aE aY eT aJ bz dt du dv lf lr ln ha hf h hI aG eJ ff dR co cr eu dc c3 c0 hq u hk y;subst E;unfold ATree.ptr;rcases F with⟨hk,hq⟩|⟨hk,hq⟩|hk
 .rw[hk]at d0;rw[hq]at d3;clear hk hq;exact TD
 .rw[hk]at d0;rw[hq]at d3;clear hk hq;exact TD
 .rw[hk]at d0;clear hk;have I:decide (0<q)=true∨decide (0<q)=false:=by cases decide (0<q)<;>simp
  rcases I with J|J
  .skip
   exact TD
  .skip
   exact TD
theorem Zv7(h:MAt C M w s)(hI:Inv s 0)(hs:s.steps<20000)(ha:TreeAt w B a)(hf:a.free M){m:Nat}(g:a.kids=[])(hk:a.kind=3∨a.kind=4) :
 Calls Tryz.prog 45 #[vP C.mb,a.ptr,vI sc,.agg #[.bool fr.strict,vI fr.vars]] w λe w'=>iz C M w (wI V D m (a.nt C.N) sc fr s) e w':=by
 refine I4 ?_;intro s1 aG bY hst jF bc dt du dv z0 aD;rw[<-aD]at bc dt du dv;refine o9 ?_;intro cF f5 y5 aE aY;rw[<-aG]at aE;refine pN ?_;intro z hz;rw[<-hz]at aE aY;refine Kw ?_;intro eT aJ bz lf lr ln g5 c0;rw[aD]at f5 y5;rw[hz,aD]at g5 c0;obtain⟨R,o⟩:=zX (wI V D m (a.nt C.N) sc fr s)
 rw[<-o];have u:=o.trans (Zga (fr:=fr) (sc:=sc) (V:=V) (D:=D) (f:=m) (n:=a.nt C.N) hs (by rw[Zq,g];exact .inl rfl) (by rw[Zq,g];exact λ_=>rfl));rw[<-aG]at u;clear o;refine L3 ?_;intro dC HZ ar bQ dH bM HM fI ea HO HE;refine NU ?_;intro q hq pp cp co cr eu dc;rw[<-hq]at co cr;refine KJ ?_;intro jZ dR eJ;rw[jZ]at dR;refine KC ?_;intro zv ff;rw[<-ff]at dR eJ;have c3:=aJ.c3;rw[co]at c3;refine RI ?_;intro d3 d0 d1 f0 f1;rw[ff,hz,aD]at d3 d0 d1 f0 f1;refine Sc ?_;intro lN oQ nN oI lO
 have y:R=(s1.setH (s1.H.start sc a.text LVal.zero).1,.ok (false,⟨0,0,⟨#[]⟩⟩)):=by
  rw[u];unfold D9;rw[Zc,Zz];rcases hk with E|E<;>rw[E]<;>simp <;>rfl
 have F:q=0:=by rw[hq,g];rfl
 have hst:=Zp8 oI.o.drew sc a.text LVal.zero;simp only[LVal.agg,LVal.zero]at hst;have O:=lh hst
 have U:=lh (show∀W M',MFr M M' zv W->vC W (w.heap.size+1+1+1) 0 (vI 0)∧vC W (w.heap.size+1+1+1) 1 (vI 0)∧vC W (w.heap.size+1+1+1) 2 (.string ⟨#[]⟩)∧vC W a.b 1 (.string a.text)from
  λW M' f=>⟨(dR.fr f).cell rfl,(dR.fr f).cell rfl,(dR.fr f).cell rfl,((lO.o.trans f).tree aJ bz).1.c1⟩)
 clear hz aD bc cF aE aY eT aJ bz dt du dv lf lr ln ha hf h hI aG eJ ff dR co cr eu dc c3 c0 hq u g hst;simp only[LVal.zero]at y;subst y;rw[F]at d3;clear F;unfold ATree.ptr;rcases hk with hk|hk
 all_goals
  rw[hk]at d0;clear hk;go_enter Tryz.func45,Tryz.ntmps45
  go_wp2_with fail
  rw[<-lN.o];clear f5 y5 g5 d3 d0 d1 f0 f1;refine oi [(true,0),(true,1),(true,2),(true,3),(true,4),(true,5),(true,6),(true,7),(true,8)] [9] (λW=>vC W (w.heap.size+1+1+1) 0 (vI 0)∧vC W (w.heap.size+1+1+1) 1 (vI 0)∧vC W (w.heap.size+1+1+1) 2 (.string ⟨#[]⟩)∧vC W a.b 1 (.string a.text)) (U.o _ _ (.drew (.refl _ _))) (λZ=>?_);refine ep ?_;refine Z0 ?_;go_wp2_with fail
  refine O.o.mono ?_;rintro e W2⟨rfl,M2,I,J⟩;have Y:=lh I;have aZ:=lh (lO.o.trans ((MFr.drew (.refl M zv)).trans J));clear I J;refine SH ?_;intro m0 m1 m2 q0 q1 q2 z0 z1 z2;go_wp2_with fail
  refine RY ?_;refine mA ?_;go_wp2;refine bodyPost_ret (v:=.tuple #[.bool false,.agg #[vI 0,vI 0,.string ⟨#[]⟩],.nilIface]) ?_ rfl ?_;·simp[results,Tryz.results45,go_sem,q0,q1,q2]
  .exact .fine' ar.o bM.o Y.o.drew (aZ.o.trans (.drew (.refl _ _)))
theorem Zpf(h:MAt C M w s)(hI:Inv s 0)(hs:s.steps<20000)(ha:TreeAt w B a)(hf:a.free M){m:Nat}(g:a.kids=[])(hk:a.kind=10) :
 Calls Tryz.prog 45 #[vP C.mb,a.ptr,vI sc,.agg #[.bool fr.strict,vI fr.vars]] w λe w'=>iz C M w (wI V D m (a.nt C.N) sc fr s) e w':=by
 refine I4 ?_;intro s1 aG bY hst jF bc dt du dv z0 aD;rw[<-aD]at bc dt du dv;refine o9 ?_;intro cF f5 y5 aE aY;rw[<-aG]at aE;refine pN ?_;intro z hz;rw[<-hz]at aE aY;refine Kw ?_;intro eT aJ bz lf lr ln g5 c0;rw[aD]at f5 y5;rw[hz,aD]at g5 c0;obtain⟨R,o⟩:=zX (wI V D m (a.nt C.N) sc fr s)
 rw[<-o];have u:=o.trans (Zga (fr:=fr) (sc:=sc) (V:=V) (D:=D) (f:=m) (n:=a.nt C.N) hs (by rw[Zq,g];exact .inl rfl) (by rw[Zq,g];exact λ_=>rfl));rw[<-aG]at u;clear o;refine L3 ?_;intro dC HZ ar bQ dH bM HM fI ea HO HE;refine NU ?_;intro q hq pp cp co cr eu dc;rw[<-hq]at co cr;refine KJ ?_;intro jZ dR eJ;rw[jZ]at dR;refine KC ?_;intro zv ff;rw[<-ff]at dR eJ;have c3:=aJ.c3;rw[co]at c3;refine RI ?_;intro d3 d0 d1 f0 f1;rw[ff,hz,aD]at d3 d0 d1 f0 f1;refine Sc ?_;intro lN oQ nN oI lO
 have E:R=(s1,.ok (true,⟨0,0,⟨#[]⟩⟩)):=by
  rw[u];unfold D9;rw[Zc,hk];rfl
 have y:q=0:=by rw[hq,g];rfl
 have F:=lh (show∀W M',MFr M M' zv W->vC W (w.heap.size+1+1+1) 0 (vI 0)∧vC W (w.heap.size+1+1+1) 1 (vI 0)∧vC W (w.heap.size+1+1+1) 2 (.string ⟨#[]⟩)from
  λW M' f=>⟨(dR.fr f).cell rfl,(dR.fr f).cell rfl,(dR.fr f).cell rfl⟩)
 clear hz aD bc cF aE aY eT aJ bz dt du dv lf lr ln ha hf h hI aG eJ ff dR co cr eu dc c3 c0 hq u g;subst E;rw[y]at d3;rw[hk]at d0;clear y hk;unfold ATree.ptr;go_enter Tryz.func45,Tryz.ntmps45
 go_wp2_with fail
 rw[<-lN.o];clear f5 y5 g5 d3 d0 d1 f0 f1;obtain⟨I,J,O,z0,U,z2⟩:=(ar.o.fr lO.o).six;refine oi [(true,0),(true,1)] [2,3] (λW=>vC W (w.heap.size+1+1+1) 0 (vI 0)∧vC W (w.heap.size+1+1+1) 1 (vI 0)∧vC W (w.heap.size+1+1+1) 2 (.string ⟨#[]⟩)) (F.o _ _ (.drew (.refl _ _))) (λX=>?_);refine ep ?_;refine Z0 ?_;go_wp2;refine bodyPost_ret (v:=.tuple #[.bool true,.agg #[vI 0,vI 0,.string ⟨#[]⟩],.nilIface]) ?_ rfl ?_
 .simp[results,Tryz.results45,go_sem,I,J,O]
 .exact .fine' ar.o bM.o oI.o.drew (lO.o.trans (.drew (.refl _ _)))
theorem Zp2(h:MAt C M w s)(hI:Inv s 0)(hs:s.steps<20000)(ha:TreeAt w B a)(hf:a.free M){fu:Nat}(hk:a.kind=6)
 (ig:∀W M',MAt C M' W {s with steps:=s.steps+1}->TreeAt W B a->a.free M'->Calls Tryz.prog 80 #[vP C.mb,vP a.b,vI sc,.agg #[.bool fr.strict,vI fr.vars]] W λe w'=>iz C M' W (Uu D (a.nt C.N) sc fr {s with steps:=s.steps+1}) e w') :
 Calls Tryz.prog 45 #[vP C.mb,a.ptr,vI sc,.agg #[.bool fr.strict,vI fr.vars]] w λe w'=>iz C M w (wI V D fu (a.nt C.N) sc fr s) e w':=by
 refine I4 ?_;intro s1 aG bY hst jF bc dt du dv z0 aD;rw[<-aD]at bc dt du dv;refine o9 ?_;intro cF f5 y5 aE aY;rw[<-aG]at aE;refine pN ?_;intro z hz;rw[<-hz]at aE aY;refine Kw ?_;intro eT aJ bz lf lr ln g5 c0;rw[aD]at f5 y5;rw[hz,aD]at g5 c0;obtain⟨R,aS⟩:=zX (wI V D fu (a.nt C.N) sc fr s)
 rw[<-aS];refine Zq4 ?_;intro hR;rw[<-aG]at hR;clear aS;refine L3 ?_;intro dC HZ ar bQ dH bM HM fI ea HO HE;refine NU ?_;intro q hq pp cp co cr eu dc;rw[<-hq]at co cr;refine KJ ?_;intro jZ dR eJ;rw[jZ]at dR;refine KC ?_;intro zv ff;rw[<-ff]at dR eJ;have c3:=aJ.c3;rw[co]at c3;refine RI ?_;intro d3 d0 d1 f0 f1;rw[ff,hz,aD]at d3 d0 d1 f0 f1;refine Sc ?_;intro lN oQ nN oI lO;obtain⟨r1,bA⟩:=zX (Uu D (a.nt C.N) sc fr s1)
 exact tr0
theorem Zvf(h:MAt C M w s)(hI:Inv s 0)(hs:s.steps<20000)(ha:TreeAt w B a)(hf:a.free M){fu:Nat}(hk:a.kind=12)
 (ig:∀W M',MAt C M' W {s with steps:=s.steps+1}->TreeAt W B a->a.free M'->Calls Tryz.prog 83 #[vP C.mb,vP a.b,vI sc,.agg #[.bool fr.strict,vI fr.vars]] W λe w'=>iz C M' W (KE D (a.nt C.N) sc fr {s with steps:=s.steps+1}) e w') :
 Calls Tryz.prog 45 #[vP C.mb,a.ptr,vI sc,.agg #[.bool fr.strict,vI fr.vars]] w λe w'=>iz C M w (wI V D fu (a.nt C.N) sc fr s) e w':=by
 refine I4 ?_;intro s1 aG bY hst jF bc dt du dv z0 aD;rw[<-aD]at bc dt du dv;refine o9 ?_;intro cF f5 y5 aE aY;rw[<-aG]at aE;refine pN ?_;intro z hz;rw[<-hz]at aE aY;refine Kw ?_;intro eT aJ bz lf lr ln g5 c0;rw[aD]at f5 y5;rw[hz,aD]at g5 c0;obtain⟨R,aS⟩:=zX (wI V D fu (a.nt C.N) sc fr s)
 rw[<-aS];refine Zq4 ?_;intro hR;rw[<-aG]at hR;clear aS;refine L3 ?_;intro dC HZ ar bQ dH bM HM fI ea HO HE;refine NU ?_;intro q hq pp cp co cr eu dc;rw[<-hq]at co cr;refine KJ ?_;intro jZ dR eJ;rw[jZ]at dR;refine KC ?_;intro zv ff;rw[<-ff]at dR eJ;have c3:=aJ.c3;rw[co]at c3;refine RI ?_;intro d3 d0 d1 f0 f1;rw[ff,hz,aD]at d3 d0 d1 f0 f1;refine Sc ?_;intro lN oQ nN oI lO;obtain⟨r1,bA⟩:=zX (KE D (a.nt C.N) sc fr s1)
 exact tr0
end
section
variable {C:RCtx}{M M':MRep}{w w':World}{s s':MSt}{B:Nat}{a:ATree}{V:VF}{D:DF}{b:Int}{sc:Int}{fr:Frm}{d:Nat}
theorem Zrc{V:VF}{D:DF}{f:Nat}{n:NT}(hs:s.steps<20000)(g:n.kids.isEmpty=false)(m:n.kind=2):wI V D f n sc fr s =
 gE (V (n.kid 0) sc fr) (D9 V D f n sc fr (s.H.find sc n.text)) {s with steps:=s.steps+1}:=by
 unfold wI yk;rw[Y3 O',Y3 (by rw[g,m];decide)];show gE (V (n.kid 0) sc fr) (D9 V D f n sc fr (if n.kind=2∧n.kids.isEmpty=false then s.H.find sc n.text else -1)) _=_;rw[Y5 ⟨m,g⟩]
theorem Zt5(oA:OK C.w0)(cA:xH C V b)(hV:VH V b)(h:MAt C M w s)(hI:Inv s 0)(t7:d+1<=20000)(hA:FAt s sc fr)(hb:b<=s.steps+1)(hs:s.steps<20000)(ha:TreeAt w B a)(hf:a.free M){x:ATree}(cB:a.kids=[x])(wx:(x.nt C.N).wf .v)(mx:(x.nt C.N).tree.many<=1500){J:Nat}(hk:a.kind=2) :
 Calls Tryz.prog 45 #[vP C.mb,a.ptr,vI sc,.agg #[.bool fr.strict,vI fr.vars]] w λe w'=>iz C M w (wI V D J (a.nt C.N) sc fr s) e w':=by
 refine I4 ?_;intro s1 aG bY hst jF bc dt du dv z0 aD;rw[<-aD]at bc dt du dv;refine o9 ?_;intro cF f5 y5 aE aY;rw[<-aG]at aE;refine pN ?_;intro z hz;rw[<-hz]at aE aY;refine Kw ?_;intro eT aJ bz lf lr ln g5 c0;rw[aD]at f5 y5;rw[hz,aD]at g5 c0;have e0:(a.nt C.N).kid 0=x.nt C.N:=sp Qe;obtain⟨R,aS⟩:=zX (wI V D J (a.nt C.N) sc fr s)
 rw[<-aS];have E:=aS.trans (Zrc (fr:=fr) (sc:=sc) (V:=V) (D:=D) (f:=J) (n:=a.nt C.N) hs (by rw[Zq,cB];rfl) (by rw[Zc,hk]));rw[<-aG,e0,Zz]at E;clear aS e0;refine L3 ?_;intro dC HZ ar bQ dH bM HM fI ea HO HE;refine SE ?_;intro fS dP eC;have ai:b<=s1.steps:=O'
 have jc:s1.steps<=20000:=O'
 obtain⟨m,O,c3,ct,aR,bO,ba,eU⟩:=aJ.row bz PH;rw[cB]at c3 ct bO;have ee:x∈a.kids:=PH
 have k0:=bO 0 x rfl;simp only[List.length_cons,List.length_nil]at c3 ct;have c3:vC z a.b 3 (.slice (some ⟨m,0,none⟩) 1 O):=c3
 have ap:∀W M',MFr M M' z W->vC W w.heap.size 0 (.bool fr.strict)∧vC W w.heap.size 1 (vI fr.vars)∧vC W a.b 0 (vI 2)∧vC W a.b 1 (.string a.text)∧vC W a.b 3 (.slice (some ⟨m,0,none⟩) 1 O)∧vC W m 0 (vP x.b):=λW M' f=>⟨(lf.fr f).cell rfl,(lf.fr f).cell rfl,by have:=(f.tree aJ bz).1.c0;rwa[hk]at this,(f.tree aJ bz).1.c1,(f.cell aJ.lt bz.blk).trans c3,(f.cell ba eU).trans k0⟩;refine KJ ?_
 intro jZ dR eJ;rw[jZ]at dR;refine KC ?_;intro zv ff;rw[<-ff]at dR eJ;have F:=(eJ.cell (p:=⟨a.b,3,none⟩) aJ.lt).trans c3;have o:=(eJ.cell (p:=⟨a.b,0,none⟩) aJ.lt).trans aJ.c0;rw[hk]at o;rw[ff,hz,aD]at F o;have lN:=lh (show zv=_ from ff.trans (by rw[hz,aD]));have oQ:=lh dR;have nN:=lh eJ;obtain⟨I,iR⟩:=zX (s.H.find sc a.text)
 have vU:=Zcl (aE.below eJ).drew.heap fS.wf sc a.text;have yb:s1.H.find sc a.text=I:=by rw[aG,iR]
 rw[yb]at vU;rw[<-iR]at E;have oB:=lh vU;refine Zwo ?_;intro r1 bA bF aj;unfold gE at E;rw[<-bA]at bF aj E;have bR:=lh aj;have HR:=lh E;have HS:=lh ap;have ii:=lh (hA.ext dP);have vN:=lh oA;have Ko:=lh (show(a.nt C.N).kind=2∧(a.nt C.N).kids.isEmpty=false by rw[Zc,Zq,cB];exact⟨hk,rfl⟩);clear hz aD bc cF aE aY eT aJ bz dt du dv lf lr ln ha hf h hI aG fS dP eC ai jc ap c3 k0 bO cB bA aj E hA cA hV ee dR eJ ff ba eU hb c0 iR vU yb oA hk;unfold ATree.ptr;go_enter Tryz.func45,Tryz.ntmps45
 go_wp2_with fail
 rw[<-lN.o];clear f5 y5 g5 F o;have U:=lh (λW M' (f:MFr M M' zv W)=>HS.o W M' ((MFr.of_below nN.o).trans f))
 refine oi [(true,0),(true,1),(true,2),(true,3),(true,4),(true,5),(true,6),(true,7)] [8,9] (λW=>vC W w.heap.size 0 (.bool fr.strict)∧vC W w.heap.size 1 (vI fr.vars)∧vC W a.b 0 (vI 2)∧vC W a.b 1 (.string a.text)∧vC W a.b 3 (.slice (some ⟨m,0,none⟩) 1 O)∧vC W m 0 (vP x.b)) (U.o _ _ (.drew (.refl _ _))) (λbu=>?_);refine ep ?_;refine Z0 ?_;go_wp2_with fail
 refine oB.o.mono ?_;rintro e Wf⟨rfl,kO⟩;have Y:=lh ((Ze zv).trans (kO.mono (Y0 _)));obtain⟨f0,f1,o,d1,F,nP⟩:=U.o Wf M (.of_below Y.o);clear kO;go_wp2_with fail
 refine uY (.take 0 (.take 1 (.take 2 (.take 3 (.take 4 (.take 5 (.take 6 (.take 7 (.take 8 (.go 9 (.take 10 (.take 11 (.take 12 (.go 13 (.go 14 .nil))))))))))))))) 13 (λW=>vC W w.heap.size 0 (.bool fr.strict)∧vC W w.heap.size 1 (vI fr.vars)∧vC W a.b 0 (vI 2)∧vC W a.b 1 (.string a.text)∧vC W a.b 3 (.slice (some ⟨m,0,none⟩) 1 O)∧vC W m 0 (vP x.b)) (U.o _ _ (.drew (.of_below Y.o))) ?_;refine lM ?_
 refine mH (λK hK=>?_);refine(bF.o _ Y.o.drew).mono ?_;rintro e W0⟨M1,k1,n1,t1,bU,rfl,ai⟩;have F0:=(MFr.of_below (M:=M) Y.o.drew).trans ai.2.1;refine hK _ _ (U.o _ _ F0) ?_;clear hK K f0 f1 o d1 F nP;refine XQ ?_;clear ai F0;intro jD ei pi qO;generalize((W0.setCell ⟨w.heap.size+1+1+1,0,none⟩ (vI k1)).setCell ⟨w.heap.size+1+1+1,1,none⟩ (vI n1)).setCell ⟨w.heap.size+1+1+1,2,none⟩ (.string t1)=W1 at *;obtain⟨s2,q1⟩:=r1;cases q1 with
 | error x1 =>
   exact ZD
 | ok v1 =>
   obtain⟨rfl,rfl⟩:v1=⟨k1,n1,t1⟩∧bU=.nilIface:=qO.o;obtain⟨i1,x1,-,ey,i2⟩:=bR.o;have am:R=D9 V D J (a.nt C.N) sc fr I ⟨k1,n1,t1⟩ s2:=HR.o;have bK:R=match Sx I a.text ⟨k1,n1,t1⟩ fr s2 with
    |(y,.ok _)=>(y,.ok (false,⟨0,0,⟨#[]⟩⟩))
    |(y,.error e)=>(y,.error e):=by
    rw[am];unfold D9;rw[Y5 Ko.o.1,Ko.o.2,Zz];simp only[Bool.false_eq_true,if_false,gE];rcases Sx I a.text ⟨k1,n1,t1⟩ fr s2 with⟨y,e|u⟩<;>rfl
   have has:=Z9g vN.o jD.o.drew i1 (ii.o.root.ext x1) I a.text ⟨k1,n1,t1⟩ fr;obtain⟨r3,dp⟩:=zX (Sx I a.text ⟨k1,n1,t1⟩ fr s2)
   rw[<-dp]at has bK;simp only[LVal.agg]at has;have sF:=lh has;have Z:=lh bK
   have BB:=lh (show∀W M',MFr M1 M' W1 W->vC W a.b 1 (.string a.text)∧vC W (w.heap.size+1+1+1) 0 (vI k1)∧vC W (w.heap.size+1+1+1) 1 (vI n1)∧vC W (w.heap.size+1+1+1) 2 (.string t1)∧vC W w.heap.size 0 (.bool fr.strict)∧vC W w.heap.size 1 (vI fr.vars)from
    λW M' f=>have g:=HS.o W M' (ei.o.trans f);⟨g.2.2.2.1,(pi.o.fr f).cell rfl,(pi.o.fr f).cell rfl,(pi.o.fr f).cell rfl,g.1,g.2.1⟩)
   clear HR am bK i1 x1 ey i2 qO bF has dp;obtain⟨f0,f1,o,d1,F,nP⟩:=HS.o W1 M1 ei.o;go_wp2_with fail
   refine oi [(true,0),(true,1),(true,2),(true,3),(true,4),(true,5),(true,6),(true,7)] [8,9] (λW=>vC W a.b 1 (.string a.text)∧vC W (w.heap.size+1+1+1) 0 (vI k1)∧vC W (w.heap.size+1+1+1) 1 (vI n1)∧vC W (w.heap.size+1+1+1) 2 (.string t1)∧vC W w.heap.size 0 (.bool fr.strict)∧vC W w.heap.size 1 (vI fr.vars)) (BB.o _ _ (.drew (.refl _ _))) (λbu=>?_);refine ep ?_;refine Z0 ?_;clear f0 f1 o d1 F nP
   go_wp2_with fail
   refine sF.o.mono ?_;rintro e W2⟨M2,aQ,aq,cu⟩;have bW:=lh aQ;have aZ:=lh (ei.o.trans ((MFr.drew (.refl M1 W1)).trans aq));clear aQ aq;refine SH ?_;intro m0 m1 m2 q0 q1 q2 z0 z1 z2;obtain⟨y,q3⟩:=r3;cases q3 with
   | error x3 =>
     obtain⟨ev,rfl,he⟩:=cu;have am:R=(y,.error x3):=Z.o;clear Z;subst am;have il:=lh he;clear he;go_wp2_with fail
     refine RY ?_;refine mA ?_;go_wp2;refine bodyPost_ret (v:=.tuple #[.bool false,.agg #[vI 0,vI 0,.string ⟨#[]⟩],ev]) ?_ rfl ?_;·simp[results,Tryz.results45,go_sem,q0,q1,q2]
     .exact .err' ar.o bM.o bW.o.drew (aZ.o.trans (.drew (.refl _ _))) il.o
   | ok u3 =>
     have he:e=.returned .nilIface:=cu;subst he;have am:R=(y,.ok (false,⟨0,0,⟨#[]⟩⟩)):=Z.o;clear Z;subst am;go_wp2_with fail
     exact tq8
end
section
variable {C:RCtx}{M M':MRep}{w w':World}{s s':MSt}{B:Nat}{a:ATree}{V:VF}{D:DF}{b:Int}{sc:Int}{fr:Frm}{d:Nat}
theorem Zhx{V:VF}{D:DF}{n:NT}{g:Nat}:SU V D n sc fr (g+1) s=match V (n.kid 0) sc fr s with
 |(s1,.error e)=>(s1,.error e)
 |(s1,.ok v)=>if v.true then(match D (n.kid 1) sc fr s1 with
  |(m,.ok (true,u))=>(m,.ok (true,u))
  |(m,.ok (false,_))=>SU V D n sc fr g m
  |(m,.error e)=>(m,.error e))else(s1,.ok (false,LVal.zero)):=by
 have e:SU V D n sc fr (g+1) s=gE (V (n.kid 0) sc fr) (λv=>if v.true then gE (D (n.kid 1) sc fr) λr=>if r.1 then f7 r else SU V D n sc fr g else f7 (false,LVal.zero)) s:=rfl;rw[e];unfold gE;rcases V (n.kid 0) sc fr s with⟨s1,e|v⟩;·rfl
 .simp only;by_cases o:v.true=true
  .simp only[o,if_true];rcases D (n.kid 1) sc fr s1 with⟨m,e|⟨_|_,u⟩⟩<;>rfl
  .simp only[o,if_false];rfl
def stepsAt(mb:Nat)(w:World):Int:=match w.cell? ⟨mb,5,none⟩with|some (.int _ n)=>n|_=>0
theorem MAt.stepsAt(h:MAt C M w s):stepsAt C.mb w=s.steps:=by
 have:=h.cell 5 (vI s.steps) Pl;unfold Go.Proofs.YtjikfacdcdiddaaGreatDoor.stepsAt;rw[this]
theorem Znv (cA:xH C V b) (cZ:Dl C D b) (hV:VH V b) (hD:DH D b) (h:MAt C M w s) (hI:Inv s 0) (t7:d + 1≤20000) (hA:FAt s sc fr) (hb:b≤s.steps + 1) (hs:s.steps < 20000) (ha:TreeAt w B a) (hf:a.free M) {x y:ATree} (cB:a.kids=[x,y]) (wx:(x.nt C.N).wf .v) (mx:(x.nt C.N).tree.many≤1500) (wy:(y.nt C.N).wf .s) (my:(y.nt C.N).tree.many≤1500) {fu:Nat} (nf:20000≤s.steps + fu) (hk:a.kind=8) :
 Calls Tryz.prog 45 #[vP C.mb,a.ptr,vI sc,.agg #[.bool fr.strict,vI fr.vars]] w λe w'=>iz C M w (wI V D fu (a.nt C.N) sc fr s) e w':=by
 refine I4 ?_;intro s1 aG bY hst jF bc dt du dv z0 aD;rw[<-aD]at bc dt du dv;refine o9 ?_;intro cF f5 y5 aE aY;rw[<-aG]at aE;refine pN ?_;intro z hz;rw[<-hz]at aE aY;refine Kw ?_;intro eT aJ bz lf lr ln g5 c0;rw[aD]at f5 y5;rw[hz,aD]at g5 c0;obtain⟨R,aS⟩:=zX (wI V D fu (a.nt C.N) sc fr s)
 rw[<-aS];refine Zq4 ?_;intro hR;rw[<-aG]at hR;clear aS;refine L3 ?_;intro dC HZ ar bQ dH bM HM fI ea HO HE;refine NU ?_;intro q hq pp cp co cr eu dc;rw[<-hq]at co cr;refine KJ ?_;intro jZ dR eJ;rw[jZ]at dR;refine KC ?_;intro zv ff;rw[<-ff]at dR eJ;have c3:=aJ.c3;rw[co]at c3;refine RI ?_;intro d3 d0 d1 f0 f1;rw[ff,hz,aD]at d3 d0 d1 f0 f1;refine Sc ?_;intro lN oQ nN oI lO;have F:R=SU V D (a.nt C.N) sc fr fu s1:=by
  rw[hR];unfold D9;rw[Zc,hk];rfl
 refine SE ?_;intro fS dP eC;obtain⟨I,kc,rn,ct,aR,bO,ba,eU⟩:=aJ.row bz PH;rw[cB]at rn ct bO;refine Zr1 ?_;intro ee eD k0 k1;simp only[List.length_cons,List.length_nil]at rn ct;have rn:vC z a.b 3 (.slice (some ⟨I,0,none⟩) 2 kc):=rn
 have ap:∀W M',MFr M M' z W->vC W w.heap.size 0 (.bool fr.strict)∧vC W w.heap.size 1 (vI fr.vars)∧vC W a.b 3 (.slice (some ⟨I,0,none⟩) 2 kc)∧vC W I 0 (vP x.b)∧vC W I 1 (vP y.b):=λW M' f=>⟨(lf.fr f).cell rfl,(lf.fr f).cell rfl,(f.cell aJ.lt bz.blk).trans rn,(f.cell ba eU).trans k0,(f.cell ba eU).trans k1⟩;have HS:=lh ap;have bD:=lh F;have eL:=lh fS;have lg:=lh dP;have iu:=lh eC
 have CM:=lh nf;have ii:=lh hA;have HB:=lh hb;have eY:=lh (aJ.kid ee);have oJ:=lh (bz.kid ee);have po:=lh (aJ.kid eD);have oR:=lh (bz.kid eD);have oS:=lh cA;have iX:=lh cZ;have HV:=lh hV;have HD:=lh hD;have Kp:=lh (show(a.nt C.N).kid 0=x.nt C.N∧(a.nt C.N).kid 1=y.nt C.N from⟨sp Qe,sp Qe⟩);have dr:decide (0<q)=true:=by rw[hq,cB];rfl
 clear hz aD bc cF aE aY eT aJ bz dt du dv lf lr ln ha hf h hI aG eJ ff dR co cr eu dc c3 c0 hq hR F fS dP eC nf hA hb cA cZ hV hD cB rn ct bO ba eU k0 k1 ee eD ap;rw[hk]at d0;clear hk;unfold ATree.ptr;go_enter Tryz.func45,Tryz.ntmps45
 go_wp2_with fail
 rw[<-lN.o];clear f5 y5 g5 d3 d0 d1 f0 f1;go_loopw [16] (λ_ wr=>∃(Mk:MRep) (J:MSt) (g:Nat),Hid (MAt C Mk wr J)∧Hid (MFr M Mk z wr)∧Hid (Inv J (d+1))∧Hid (Ext s J∧J.steps<=20000∧b<=J.steps∧20001<=J.steps+g)∧Hid (R=SU V D (a.nt C.N) sc fr g J)) (λ_ wr=>(20001-stepsAt C.mb wr).toNat)
 case atStart=>exact⟨M,s1,fu,oI,lO,eL,lh ⟨lg.o,by have:=iu.o;omega,by have:=iu.o;have:=HB.o;omega,by have:=iu.o;have:=CM.o;omega⟩,bD⟩
 case round=>
  obtain⟨Mk,J,g,da,bH,eA,O,dY⟩:=hrel;have Y:=O.o;obtain⟨g,rfl⟩:∃g',g=g'+1:=⟨g-1,by omega⟩
  have hR:=dY.o;rw[Zhx,Kp.o.1,Kp.o.2]at hR;have xI:=da.o.stepsAt;have bg:=bH.o.tree eY.o oJ.o;obtain⟨r1,bA⟩:=zX (V (x.nt C.N) sc fr J)
  have bF:=lh (oS.o.from da.o eA.o (ii.o.ext Y.1) Y.2.2.1 Y.2.1 wx mx bg.1 bg.2);have Z:=HV.o (x.nt C.N) sc fr J _ wx mx eA.o (ii.o.ext Y.1) Y.2.2.1 Y.2.1;rw[<-bA]at bF Z hR;have dS:=lh (λW M' (f:MFr Mk M' wr W)=>HS.o W M' (bH.o.trans f));have HR:=lh hR;have bR:=lh Z;have Eb:=lh xI;have qn:=lh (Y4 HE.o bH.o.size);clear Y hR xI bg bA Z;go_wp2_with fail
  refine uY (.take 0 (.take 1 (.take 2 (.take 3 (.take 4 (.take 5 (.take 6 (.take 7 (.take 8 (.two 9 (.take 10 (.take 11 (.take 12 (.go 13 (.go 14 (.go 15 (.nil))))))) 13 (.go 9 (.take 10 (.take 11 (.take 12 (.go 14 (.go 15 (.nil))))))))))))))))) 14 (λW=>vC W w.heap.size 0 (.bool fr.strict)∧vC W w.heap.size 1 (vI fr.vars)∧vC W a.b 3 (.slice (some ⟨I,0,none⟩) 2 kc)∧vC W I 0 (vP x.b)∧vC W I 1 (vP y.b)) (dS.o _ _ (MFr.drew (.refl _ _))) ?_
  refine lM ?_;refine Zt ?_;apply L4 (H:=pV C w Mk wr r1);·exact RD dS bF qn.o HO.o
  .exact Zto dS bF da qn.o HO.o
  intro W1 p1 M1 k1 n1 t1 bU ai;have F1:=bH.o.trans ai.1.2.1;have bw:=lh F1;have bZ:=lh ai.1.1;obtain⟨b0,b1,b2,-,-,-⟩:=ai.2.six;obtain⟨m0,m1,m2,-,-,-⟩:=(bQ.o.fr F1).six;obtain⟨q0,q1,q2,z0,z1,z2⟩:=(ar.o.fr F1).six;obtain⟨E,q1⟩:=r1;cases q1 with
  | error u =>
    have he:ak C M1 W1 u bU:=ai.1.2.2;have F:R=(E,.error u):=HR.o;clear HR;subst F;obtain⟨T1,P1,rfl,hP⟩:=he.ne;have ej:=lh he;clear ai F1 he;go_wp2_with fail
    refine RY ?_;refine mA ?_;go_wp2;refine bodyPost_ret (v:=.tuple #[.bool false,.agg #[vI 0,vI 0,.string ⟨#[]⟩],.iface T1 (.pointer P1)]) ?_ rfl ?_;·simp[results,Tryz.results45,go_sem,q0,q1,q2]
    .exact .err' ar.o bM.o bZ.o.drew (bw.o.trans (.drew (.refl _ _))) ej.o
  | ok v1 =>
    obtain⟨rfl,rfl⟩:v1=⟨k1,n1,t1⟩∧bU=.nilIface:=ai.1.2.2;refine Zqg ?_;intro ht bt cV;rw[<-cV]at ht;have hR:=HR.o;simp only at hR;rw[<-cV]at hR;have HT:=lh ht;have bD:=lh hR;clear ai F1 ht cV hR HR;cases bt
    .have F:R=(E,.ok (false,⟨0,0,⟨#[]⟩⟩)):=by have :=bD.o;simpa[LVal.zero]using this
     clear bD;subst F;go_wp2_with fail
     refine HT.o.mono ?_;rintro e W2⟨rfl,au⟩;have bW:=lh (bZ.o.below au);have aZ:=lh (bw.o.trans (.of_below au));clear au q0 q1 q2 z0 z1 z2 m0 m1 m2 b0 b1 b2;exact XZ
    .have bK:=bD.o;simp only[if_true]at bK;go_wp2_with fail
     refine HT.o.mono ?_;rintro e W2⟨rfl,au⟩;have bW:=lh (bZ.o.below au);have aZ:=lh (bw.o.trans (.of_below au));have nI:=lh (Y4 HE.o aZ.o.size);clear au q0 q1 q2 z0 z1 z2 m0 m1 m2 b0 b1 b2;obtain⟨⟨i1,u,-,ey,i2⟩,aA⟩:=bR.o;have im:=aZ.o.tree po.o oR.o;have gM:b<=E.steps:=Int.le_trans O.o.2.2.1 u.steps;obtain⟨r2,hr2⟩:=zX (D (y.nt C.N) sc fr E)
     have bS:=lh (iX.o.from bW.o i1 ((ii.o.ext O.o.1).ext u) gM i2 wy my im.1 im.2);have Z:=(HD.o (y.nt C.N) sc fr E _ wy my i1 ((ii.o.ext O.o.1).ext u) gM i2).1;rw[<-hr2]at bS Z bK;have bC:=lh Z;have dU:=lh bK;have sj:=lh aA;have xO:=lh u;have cD:=lh (λW M' (f:MFr M1 M' W2 W)=>HS.o W M' (aZ.o.trans f));clear i1 u ey i2 aA im gM hr2 Z bK bD;go_wp2_with fail
     refine uY (.take 0 (.take 1 (.take 2 (.take 3 (.take 4 (.take 5 (.take 6 (.take 7 (.take 8 (.two 9 (.take 10 (.take 11 (.take 12 (.take 13 (.go 14 (.go 15 (.go 16 (.go 17 (.nil))))))))) 14 (.go 9 (.take 10 (.take 11 (.take 12 (.take 13 (.go 15 (.go 16 (.go 17 (.nil))))))))))))))))))) 16 (λW=>vC W w.heap.size 0 (.bool fr.strict)∧vC W w.heap.size 1 (vI fr.vars)∧vC W a.b 3 (.slice (some ⟨I,0,none⟩) 2 kc)∧vC W I 0 (vP x.b)∧vC W I 1 (vP y.b)) (cD.o _ _ (MFr.drew (.refl _ _))) ?_
     refine lM ?_;refine Zt ?_;apply WG (H:=Hx C w M1 W2 r2);·exact ZZ cD bS nI.o HO.o
     .exact Zx0 cD bS bW nI.o HO.o
     intro W3 p2 M3 bk k2 n2 t2 nH U;have F3:=aZ.o.trans U.1.2.1;have bE:=lh F3;have dq:=lh U.1.1;obtain⟨b0,b1,b2,-,-,-⟩:=U.2.six;obtain⟨q0,q1,q2,z0,z1,z2⟩:=(ar.o.fr F3).six;have li:p2≠w.heap.size+1:=by have h1:=U.2.late;have h2:=ar.o.lt;have h3:=aZ.o.size;omega
     obtain⟨o,nS⟩:=r2;cases nS with
     | error x2 =>
       have he:ak C M3 W3 x2 nH:=U.1.2.2;have F:R=(o,.error x2):=dU.o;clear dU;subst F;obtain⟨T1,P1,rfl,hP⟩:=he.ne;have ej:=lh he;clear U F3 he;cases bk
       .go_wp2_with fail
        refine U6 ?_;refine mA ?_;go_wp2;refine bodyPost_ret (v:=.tuple #[.bool false,.agg #[vI k2,vI n2,.string t2],.iface T1 (.pointer P1)]) ?_ rfl ?_;·simp[results,Tryz.results45,go_sem,q0,q1,q2]
        .exact .err' ar.o bM.o dq.o.drew (bE.o.trans (.drew (.refl _ _))) ej.o
       .go_wp2_with fail
        refine U6 ?_;refine mA ?_;go_wp2;refine bodyPost_ret (v:=.tuple #[.bool true,.agg #[vI k2,vI n2,.string t2],.iface T1 (.pointer P1)]) ?_ rfl ?_;·simp[results,Tryz.results45,go_sem,q0,q1,q2]
        .exact .err' ar.o bM.o dq.o.drew (bE.o.trans (.drew (.refl _ _))) ej.o
     | ok v2 =>
       obtain⟨rfl,rfl⟩:v2=(bk,⟨k2,n2,t2⟩)∧nH=.nilIface:=U.1.2.2;clear U F3;cases bk
       .have NG:=lh (show R=SU V D (a.nt C.N) sc fr g o from dU.o);clear dU;obtain⟨i1,u,-,ey,i2⟩:=bC.o;have nQ:=lh i1;have hl:=sj.o;have cI:=u.steps;have DN:=dq.o.stepsAt
        have Fk:=lh (show Ext s o∧o.steps<=20000∧b<=o.steps∧20001<=o.steps+g from⟨(O.o.1.trans xO.o).trans u,i2,by have:=O.o.2.2.1;have h2:=xO.o.steps;have h3:(E,Except.ok (ε:=Er) (⟨k1,n1,t1⟩:LVal)).1.steps=E.steps:=rfl;have h4:((o,Except.ok (ε:=Er) (false,(⟨k2,n2,t2⟩:LVal))):MSt×Except Er (Bool×LVal)).1.steps=o.steps:=rfl;omega,by have:=O.o.2.2.2;have h3:(E,Except.ok (ε:=Er) (⟨k1,n1,t1⟩:LVal)).1.steps=E.steps:=rfl;have h4:((o,Except.ok (ε:=Er) (false,(⟨k2,n2,t2⟩:LVal))):MSt×Except Er (Bool×LVal)).1.steps=o.steps:=rfl;omega⟩)
        have uA:(20001-stepsAt C.mb W3).toNat<(20001-stepsAt C.mb wr).toNat:=by
         rw[Eb.o,DN];have h2:=O.o.2.1;have h3:(E,Except.ok (ε:=Er) (⟨k1,n1,t1⟩:LVal)).1.steps=E.steps:=rfl;have h4:((o,Except.ok (ε:=Er) (false,(⟨k2,n2,t2⟩:LVal))):MSt×Except Er (Bool×LVal)).1.steps=o.steps:=rfl;omega
        have NH:=lh uA;clear i1 u ey i2 hl cI DN uA;go_wp2_with fail
        go_roundw
        case rel=>exact⟨M3,o,g,dq,bE,nQ,Fk,NG⟩
        case measure=>exact NH.o
       .have F:R=(o,.ok (true,⟨k2,n2,t2⟩)):=dU.o;clear dU;subst F;go_wp2_with fail
        refine U6 ?_;refine mA ?_;go_wp2;refine bodyPost_ret (v:=.tuple #[.bool true,.agg #[vI k2,vI n2,.string t2],.nilIface]) ?_ rfl ?_;·simp[results,Tryz.results45,go_sem,q0,q1,q2]
        .exact .fine' ar.o bM.o dq.o.drew (bE.o.trans (.drew (.refl _ _)))
end
