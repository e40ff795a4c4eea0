/- Package run: remove. -/
import Derived.Test.YtjikfacdcdiddaaGreatDoorJ18
set_option maxRecDepth 100000
set_option maxHeartbeats 20000000
set_option linter.unusedVariables false
set_option linter.unusedSimpArgs false
namespace Go.Proofs.YtjikfacdcdiddaaGreatDoor
open Go Go.RowKit
section
variable {C:RCtx}{M M':MRep}{w w':World}{s s':MSt}{B:Nat}{a:ATree}{V:VF}{D:DF}{b:Int}{sc:Int}{fr:Frm}{d:Nat}
theorem Zd8(h:MAt C M w s)(hI:Inv s d)(ha:TreeAt w B a)(hf:a.free M)(hk:a.kind=23) :
 Calls Tryz.prog 130 #[vP C.mb,a.ptr,vI sc,.agg #[.bool fr.strict,vI fr.vars]] w λe w'=>al C M w (L2 V (a.nt C.N) sc fr s) e w':=by
 obtain⟨R,hR⟩:=zX (L2 V (a.nt C.N) sc fr s)
 rw[<-hR];unfold L2 at hR;rw[Zc,Y5 hk,Zz]at hR;refine Kz ?_;intro aI lf lr z hz;rw[<-hz]at aI lf lr;refine Zmt ?_;intro aE aJ bY c0;have c1:=ha.c1;rw[hk]at c0;have X:∀W M',MFr M M' z W->vC W a.b 1 (.string a.text):=λW M' f=>
  have g:MFr M M' w W:=(MFr.of_below aI).trans f;(g.cell bY hf.blk).trans c1
 obtain⟨ix,u⟩:=zX (s.H.find sc a.text)
 rw[<-u]at hR;have y:=Zcl aE.drew.heap hI.wf sc a.text;rw[<-u]at y;have Y:=lh y;have hd:=λW (hB:Below z.heap.size z W)=>Zxg (aE.below hB) ix a.text;obtain⟨Z,Ap⟩:=zX ((s.H.drop ix a.text).2)
 obtain⟨sd,qj⟩:=zX (s.setH (s.H.drop ix a.text).1)
 rw[<-Ap,<-qj]at hR hd;have Aq:=lh hd;have HS:=lh X;have ar:=lh lr;have bJ:=lh aI;have HM:=lh aE;rw[hz]at c0;have HZ:=lh hz;clear hz aE lf lr X c1 aI aJ ha hf h hI y hd Ap qj u;unfold ATree.ptr;have dr:decide (ix<0)=true∧ix<0∨decide (ix<0)=false∧¬ix<0:=by
  exact Zsk
 rcases dr with⟨d0,E⟩|⟨d0,E⟩
 .rw[Y5 E]at hR;have F:R=(s,.ok ⟨2,1,⟨#[]⟩⟩):=hR;clear hR;subst F;go_enter Tryz.func130,Tryz.ntmps130
  go_wp2_with fail
  rw[<-HZ.o];clear c0;refine Zti ?_;intro bu;go_wp2_with fail
  refine Y.o.mono ?_;rintro e w1⟨rfl,o⟩;have av:=lh ((Ze z).trans (o.mono (Y0 _)));clear o;go_wp2_with fail
  refine Zuw ?_;intro bu;have I:=lh (TI w1.drew true);go_wp2_with fail
  refine I.o.mono ?_;rintro e w2⟨rfl,au⟩;have m:=av.o.drew.trans (au.mono av.o.size);obtain⟨J,O,U,z0,z1,z2⟩:=(ar.o.bel m).six;have bP:=lh m;clear au m;go_wp2;refine bodyPost_ret (v:=.tuple #[.agg #[vI 2,vI 1,.string ⟨#[]⟩],.nilIface]) ?_ rfl ?_;·simp[results,Tryz.results130,go_sem,J,O,U]
  .exact .fine ar.o bJ.o (HM.o.below bP.o) (.of_below bP.o)
 .rw[Y3 E]at hR;obtain⟨p,ex⟩:∃p:Int,p=if Z=true then 1 else 0:=⟨_,rfl⟩
  have F:R=(sd,.ok ⟨2,p,⟨#[]⟩⟩):=Ri
  have Fh:=lh ex;clear hR ex;subst F;go_enter Tryz.func130,Tryz.ntmps130
  go_wp2_with fail
  rw[<-HZ.o];clear c0;refine Zti ?_;intro bu;go_wp2_with fail
  refine Y.o.mono ?_;rintro e w1⟨rfl,o⟩;have av:=lh ((Ze z).trans (o.mono (Y0 _)));clear o;go_wp2_with fail
  refine Zuw ?_;intro bu;go_wp2_with fail
  refine(Aq.o _ av.o.drew).mono ?_;rintro e w2⟨rfl,M2,aQ,aq⟩;have hF:=(MFr.of_below (M:=M) av.o.drew).trans aq;have hi:=TI w2 Z;rw[<-Fh.o]at hi;have I:=lh hi;have bW:=lh aQ;have aZ:=lh hF;clear aQ aq hF hi;go_wp2_with fail
  refine I.o.mono ?_;rintro e w3⟨rfl,m⟩;obtain⟨J,O,U,z0,z1,z2⟩:=(ar.o.fr (aZ.o.trans (.of_below m))).six;have bP:=lh m;clear m;go_wp2;refine bodyPost_ret (v:=.tuple #[.agg #[vI 2,vI p,.string ⟨#[]⟩],.nilIface]) ?_ rfl ?_;·simp[results,Tryz.results130,go_sem,J,O,U]
  .exact Zpi
theorem Zg1(cA:xH C V b)(hV:VH V b)(h:MAt C M w s)(hI:Inv s (d+1))(hA:FAt s sc fr)(hb:b<=s.steps)(hs:s.steps<=20000)(ha:TreeAt w B a)(hf:a.free M){o:ATree}(hk:a.kind=36)(ho:a.kids=[o])(wo:(o.nt C.N).wf .v)(mo:(o.nt C.N).tree.many<=1500) :
 Calls Tryz.prog 130 #[vP C.mb,a.ptr,vI sc,.agg #[.bool fr.strict,vI fr.vars]] w λe w'=>al C M w (L2 V (a.nt C.N) sc fr s) e w':=by
 obtain⟨R,hR⟩:=zX (L2 V (a.nt C.N) sc fr s)
 rw[<-hR];unfold L2 at hR;have e0:(a.nt C.N).kid 0=o.nt C.N:=sp Rj;rw[Zc,Y3 (by rw[hk];decide),Y5 hk,e0,Zz]at hR;refine Kz ?_;intro aI lf lr z hz;rw[<-hz]at aI lf lr;refine Zjn ?_;intro aE aJ kg kc c3 ct aR bO ba eU;rw[ho]at c3 ct bO;refine XL ?_;intro iv k0 c1;simp only[List.length_cons,List.length_nil]at c3 ct;have Z:=ha.lt;have c0:=(aI.cell Z).trans ha.c0;rw[hk]at c0
 have ap:∀W M',MFr M M' z W->vC W w.heap.size 0 (.bool fr.strict)∧vC W w.heap.size 1 (vI fr.vars)∧vC W a.b 1 (.string a.text)∧vC W a.b 3 (.slice (some ⟨kg,0,none⟩) 1 kc)∧vC W kg 0 (vP o.b):=λW M' f=>
  have g:MFr M M' w W:=(MFr.of_below aI).trans f;⟨(lf.fr f).cell rfl,(lf.fr f).cell rfl,(g.cell Z hf.blk).trans c1,(g.cell Z hf.blk).trans c3,(g.cell ba eU).trans k0⟩
 refine Uo ?_;intro r1 bA bF aj;unfold gE at hR;rw[<-bA]at bF aj hR;have bR:=lh aj;have HR:=lh hR;have HS:=lh ap;have ar:=lh lr;refine DX ?_;intro dH bJ HM HO HE;rw[hz]at c0;have HZ:=lh hz;clear hz aE lf lr ap c1 c3 k0 bO aI aJ ha hf h hI hA bA aj hR ho e0 hk iv;unfold ATree.ptr;go_enter Tryz.func130,Tryz.ntmps130
 go_wp2_with fail
 rw[<-HZ.o];clear c0
 refine uY (.take 0 (.take 1 (.take 2 (.take 3 (.take 4 (.take 5 (.take 6 (.take 7 (.take 8 (.two 9 (.take 10 (.take 11 (.take 12 (.go 13 (.go 14 (.go 15 (.nil))))))) 13 (.go 9 (.take 10 (.take 11 (.take 12 (.go 14 (.go 15 (.nil))))))))))))))))) 14 (λW=>vC W w.heap.size 0 (.bool fr.strict)∧vC W w.heap.size 1 (vI fr.vars)∧vC W a.b 1 (.string a.text)∧vC W a.b 3 (.slice (some ⟨kg,0,none⟩) 1 kc)∧vC W kg 0 (vP o.b)) (HS.o _ _ (MFr.drew (.refl _ _))) ?_
 refine lM ?_;refine Zt ?_;apply L4 (H:=pV C w M z r1);·exact RD HS bF HE.o HO.o
 .exact Hu HS bF HM HE.o HO.o
 intro W1 p1 M1 k1 n1 t1 bU ai;have O:=ai.1.2.1;have J:=lh O;obtain⟨s1,q1⟩:=r1;cases q1 with
 | error x1 =>
   refine Wk ?_;intro he av hR;simp only at hR;subst hR;obtain⟨T1,P1,rfl,hP⟩:=he.ne;have ej:=lh he;obtain⟨q0,q1,q2,z0,Y,z2⟩:=(ar.o.fr O).six;clear ai he HR O;go_wp2;refine bodyPost_ret (v:=.tuple #[.agg #[vI 0,vI 0,.string ⟨#[]⟩],.iface T1 (.pointer P1)]) ?_ rfl ?_;·simp[results,Tryz.results130,go_sem,q0,q1,q2]
   .exact .err ar.o bJ.o av.o.1.1 J.o ej.o
 | ok v1 =>
   obtain⟨rfl,rfl⟩:v1=⟨k1,n1,t1⟩∧bU=.nilIface:=ai.1.2.2;have hR:=HR.o;simp only at hR;obtain⟨c0,c1,c2,-,-,-⟩:=ai.2.six;have ef:=ai.1.1;have bZ:=lh ef
   have iW:=lh (show∀U M',MFr M1 M' W1 U->vC U p1 1 (vI n1)∧vC U a.b 1 (.string a.text)from
    λU M' f=>⟨(ai.2.fr f).cell rfl,(HS.o U M' (O.trans f)).2.2.1⟩)
   have gA:=lh hR;have av:=lh ai;clear ai O hR HR ef;by_cases h5:k1=5
   .subst h5;have hR:=gA.o;simp only[if_true]at hR;have hd:=Aau bZ.o.drew n1 a.text;obtain⟨db,Ap⟩:=zX ((s1.H.cut n1 a.text).2)
    obtain⟨sd,qj⟩:=zX (s1.setH (s1.H.cut n1 a.text).1)
    rw[<-Ap,<-qj]at hR hd;have Aq:=lh hd;clear hd Ap qj gA;cases db
    .simp only[Bool.false_eq_true,if_false]at hR;cases hst:fr.strict
     .rw[hst]at hR;have F:R=(sd,.ok ⟨2,0,⟨#[]⟩⟩):=hR;clear hR;subst F;go_wp2_with fail
      refine Vb ?_;intro bu;go_wp2_with fail
      refine Aq.o.mono ?_;rintro e W2⟨rfl,M2,y,E⟩;have u:=J.o.trans ((MFr.drew (.refl M1 W1)).trans E);have Fi:=(dH.o.fr u).cell (i:=0) rfl;rw[hst]at Fi;have I:=lh (TI W2 false);have bW:=lh y;have aZ:=lh u;clear y E u;go_wp2_with fail
      refine I.o.mono ?_;rintro e W3⟨rfl,p⟩;obtain⟨q0,q1,q2,z0,Y,z2⟩:=(ar.o.fr (aZ.o.trans (.of_below p))).six;have bP:=lh p;clear p;go_wp2;refine bodyPost_ret (v:=.tuple #[.agg #[vI 2,vI 0,.string ⟨#[]⟩],.nilIface]) ?_ rfl ?_;·simp[results,Tryz.results130,go_sem,q0,q1,q2]
      .exact Zpi
     .rw[hst]at hR;have F:R=(sd,.error (.thr (.say wh))):=hR;clear hR;subst F;go_wp2_with fail
      refine Vb ?_;intro bu;go_wp2_with fail
      refine Aq.o.mono ?_;rintro e W2⟨rfl,M2,y,E⟩;have u:=J.o.trans ((MFr.drew (.refl M1 W1)).trans E);have Fi:=(dH.o.fr u).cell (i:=0) rfl;rw[hst]at Fi;have I:=lh (KB y wh);have bW:=lh y;have aZ:=lh u;clear y E u;go_wp2_with fail
      refine I.o.mono ?_;rintro e W3⟨ev,rfl,he,p⟩;obtain⟨q0,q1,q2,z0,Y,z2⟩:=(ar.o.fr (aZ.o.trans (.of_below p))).six;have bP:=lh p;have il:=lh he;clear p he;go_wp2;refine bodyPost_ret (v:=.tuple #[.agg #[vI 0,vI 0,.string ⟨#[]⟩],ev]) ?_ rfl ?_;·simp[results,Tryz.results130,go_sem,q0,q1,q2]
      .exact .err ar.o bJ.o (bW.o.below bP.o) (aZ.o.trans (.of_below bP.o)) il.o
    .simp only[if_true]at hR;have F:R=(sd,.ok ⟨2,1,⟨#[]⟩⟩):=hR;clear hR;subst F;go_wp2_with fail
     refine Vb ?_;intro bu;go_wp2_with fail
     refine Aq.o.mono ?_;rintro e W2⟨rfl,M2,y,E⟩;have u:=J.o.trans ((MFr.drew (.refl M1 W1)).trans E);have I:=lh (TI W2 true);have bW:=lh y;have aZ:=lh u;clear y E u;go_wp2_with fail
     refine I.o.mono ?_;rintro e W3⟨rfl,p⟩;obtain⟨q0,q1,q2,z0,Y,z2⟩:=(ar.o.fr (aZ.o.trans (.of_below p))).six;have bP:=lh p;clear p;go_wp2;refine bodyPost_ret (v:=.tuple #[.agg #[vI 2,vI 1,.string ⟨#[]⟩],.nilIface]) ?_ rfl ?_;·simp[results,Tryz.results130,go_sem,q0,q1,q2]
     .exact Zpi
   .have b5:(k1 !=5)=true:=by simp[h5]
    have hR:=gA.o;simp only[h5,if_false]at hR;have F:R=(s1,.error (.thr (.say wh))):=hR;clear hR gA h5;subst F;have I:=lh (KB bZ.o wh);go_wp2_with fail
    refine I.o.mono ?_;rintro e W3⟨ev,rfl,he,p⟩;obtain⟨q0,q1,q2,z0,Y,z2⟩:=(ar.o.fr (J.o.trans (.of_below p))).six;have bP:=lh p;have il:=lh he;clear p he;go_wp2;refine bodyPost_ret (v:=.tuple #[.agg #[vI 0,vI 0,.string ⟨#[]⟩],ev]) ?_ rfl ?_;·simp[results,Tryz.results130,go_sem,q0,q1,q2]
    .exact .err ar.o bJ.o (bZ.o.below bP.o) (J.o.trans (.of_below bP.o)) il.o
theorem Zc9(cA:xH C V b)(hV:VH V b)(h:MAt C M w s)(hI:Inv s (d+1))(hA:FAt s sc fr)(hb:b<=s.steps)(hs:s.steps<=20000)(ha:TreeAt w B a)(hf:a.free M)(E:a.kind≠23)(F:a.kind≠36)(wa:(a.nt C.N).wf .v)(ma:(a.nt C.N).tree.many<=1500) :
 Calls Tryz.prog 130 #[vP C.mb,a.ptr,vI sc,.agg #[.bool fr.strict,vI fr.vars]] w λe w'=>al C M w (L2 V (a.nt C.N) sc fr s) e w':=by
 obtain⟨R,g⟩:=zX (L2 V (a.nt C.N) sc fr s)
 rw[<-g];unfold L2 at g;rw[Zc,Y3 E,Y3 F]at g;refine Kz ?_;intro aI lf lr z hz;rw[<-hz]at aI lf lr;refine Zmt ?_;intro aE aJ bY c0;have OG:(a.kind==23)=false:=by simp[E]
 have OH:(a.kind==36)=false:=by simp[F]
 obtain⟨r1,bA⟩:=zX (V (a.nt C.N) sc fr s)
 have bF:=lh (cA.from aE hI hA hb hs wa ma aJ hf);unfold gE at g;rw[<-bA]at bF g;have p:=lh g;have I:=lh lr;have bJ:=lh aI;have HM:=lh aE;have HO:=lh h.old.size;have HE:=lh aI.size;obtain⟨f0,f1⟩:=lf.two;rw[hz]at c0 f0 f1;have HZ:=lh hz;clear hz aE lf lr aI aJ ha hf h hI hA bA g E F;unfold ATree.ptr;go_enter Tryz.func130,Tryz.ntmps130
 go_wp2_with fail
 rw[<-HZ.o];clear c0 f0 f1;refine(bF.o z (Y2 _ _)).mono ?_;rintro e J⟨M1,O,U,X,u,rfl,ai⟩;have m:=lh ai;simp only[ag];have HI:=lh (TI (J.alloc (.cells #[vI O,vI U,.string X] 55)) true);clear ai;go_wp2_with fail
 refine HI.o.mono ?_;rintro e W3⟨rfl,aB⟩;have Y:=(Z1 J (.cells #[vI O,vI U,.string X] 55)).trans (aB.mono (Z1 _ _).size);obtain⟨q0,y,q2,z0,z1,z2⟩:=(I.o.fr (m.o.2.1.trans (.of_below Y))).six;have o:=lh Y;clear aB Y;obtain⟨s1,y⟩:=r1;cases y with
 | error Z =>
   have he:ak C M1 W3 Z u:=ak.bel (show ak C M1 J Z u from m.o.2.2) o.o;have am:R=(s1,.error Z):=p.o;have ej:=lh he;clear he p;subst am;go_wp2;refine bodyPost_ret (v:=.tuple #[.agg #[vI 2,vI 1,.string ⟨#[]⟩],u]) ?_ rfl ?_;·simp[results,Tryz.results130,go_sem,q0,y,q2]
   .exact .err I.o bJ.o (m.o.1.below o.o) (m.o.2.1.trans (.of_below o.o)) ej.o
 | ok v1 =>
   obtain⟨rfl,rfl⟩:v1=⟨O,U,X⟩∧u=.nilIface:=m.o.2.2;have am:R=(s1,.ok ⟨2,1,⟨#[]⟩⟩):=p.o;clear p;subst am;go_wp2;refine bodyPost_ret (v:=.tuple #[.agg #[vI 2,vI 1,.string ⟨#[]⟩],.nilIface]) ?_ rfl ?_;·simp[results,Tryz.results130,go_sem,q0,y,q2]
   .exact .fine I.o bJ.o (m.o.1.below o.o) (m.o.2.1.trans (.of_below o.o))
end
section
variable {C:RCtx}{M M':MRep}{w w':World}{s s':MSt}{B:Nat}{a:ATree}{V:VF}{D:DF}{b:Int}{sc:Int}{fr:Frm}{d:Nat}
theorem Zwq(cA:xH C V b)(hV:VH V b)(h:MAt C M w s)(hI:Inv s (d+1))(hA:FAt s sc fr)(hb:b<=s.steps)(hs:s.steps<=20000)(ha:TreeAt w B a)(hf:a.free M){o:ATree}(hk:a.kind=32)(ho:a.kids=[o])(wo:(o.nt C.N).wf .v)(mo:(o.nt C.N).tree.many<=1500) :
 Calls Tryz.prog 120 #[vP C.mb,a.ptr,vI sc,.agg #[.bool fr.strict,vI fr.vars]] w λe w'=>al C M w (xn V D (a.nt C.N) sc fr s) e w':=by
 obtain⟨R,p⟩:=zX (xn V D (a.nt C.N) sc fr s)
 rw[<-p];unfold xn at p;have e0:(a.nt C.N).kid 0=o.nt C.N:=sp Rj;simp only[Zc,hk,e0,Zz]at p;refine IE ?_;intro aI lf lr ln z hz;rw[<-hz]at aI lf lr ln;refine Zjn ?_;intro aE aJ kg kc c3 ct aR bO ba eU;rw[ho]at c3 ct bO;refine XL ?_;intro iv k0 c1;simp only[List.length_cons,List.length_nil]at c3 ct;refine Znq ?_;intro bY hob mt qS qT c0;rw[hk]at c0;refine YV ?_;intro ap;refine Uo ?_;intro r1 bA bF aj;simp only[show¬(32:Int)=33 from by decide,if_false,if_true,gE]at p;rw[<-bA]at bF aj p;have bR:=lh aj
 have E:=lh p;have HS:=lh ap;have O:=lh lr;have bQ:=lh ln;refine DX ?_;intro dH bJ HM HO HE;have HZ:=lh hz;have d3:=(aI.cell bY).trans c3;rw[hz]at c0;clear hz aE lf lr ln ap c1 c3 k0 bO aI aJ ha hf h hI hA bA aj p ho e0 hk iv qS qT d3 mt;unfold ATree.ptr;go_enter Tryz.func120,Tryz.ntmps120
 go_wp2_with fail
 rw[<-HZ.o];clear c0;refine uY (.take 0 (.take 1 (.take 2 (.take 3 (.take 4 (.take 5 (.take 6 (.take 7 (.take 8 (.two 9 (.take 10 (.take 11 (.take 12 (.go 13 (.go 14 (.go 15 (.nil))))))) 13 (.go 9 (.take 10 (.take 11 (.take 12 (.go 14 (.go 15 (.nil))))))))))))))))) 14 (λW=>vC W w.heap.size 0 (.bool fr.strict)∧vC W w.heap.size 1 (vI fr.vars)∧vC W a.b 3 (.slice (some ⟨kg,0,none⟩) 1 kc)∧vC W kg 0 (vP o.b)) (HS.o _ _ (MFr.drew (.refl _ _))) ?_;refine lM ?_;refine Zt ?_
 apply L4 (H:=pV C w M z r1);·exact RD HS bF HE.o HO.o
 .exact Hu HS bF HM HE.o HO.o
 intro W1 p1 M1 k1 n1 t1 F I;have F1:=I.1.2.1;have U:=lh F1;obtain⟨g0,g1,g2,-,-,-⟩:=I.2.six;have J:=lh I;refine Zqg ?_;intro ht bt cV;rw[<-cV]at ht;have HT:=lh ht;have mf:=lh cV;clear I F1 ht cV;go_wp2_with fail
 refine HT.o.mono ?_;rintro e W2⟨rfl,au⟩;obtain⟨u,Y⟩:∃u:Int,u=if(!bt)=true then 1 else 0:=⟨_,rfl⟩
 have hi:=TI W2 (!bt);rw[<-Y]at hi;have HI:=lh hi;have Fh:=lh Y;have aO:=lh au;clear hi Y au g0 g1 g2;go_wp2_with fail
 refine HI.o.mono ?_;rintro e W3⟨rfl,aB⟩;have Z:=aO.o.trans (aB.mono aO.o.size);obtain⟨q0,q1,q2,z0,z1,z2⟩:=(O.o.fr (U.o.trans (.of_below Z))).six;have y:=lh Z;clear aB Z;obtain⟨s1,q1⟩:=r1;cases q1 with
 | error x1 =>
   have he:ak C M1 W3 x1 F:=ak.bel (show ak C M1 W1 x1 F from J.o.1.2.2) y.o;have am:R=(s1,.error x1):=E.o;have ej:=lh he;clear he E;subst am;go_wp2;refine bodyPost_ret (v:=.tuple #[.agg #[vI 2,vI u,.string ⟨#[]⟩],F]) ?_ rfl ?_;·simp[results,Tryz.results120,go_sem,q0,q1,q2]
   .exact .err O.o bJ.o (J.o.1.1.below y.o) (U.o.trans (.of_below y.o)) ej.o
 | ok v1 =>
   obtain⟨rfl,rfl⟩:v1=⟨k1,n1,t1⟩∧F=.nilIface:=J.o.1.2.2;have am:R=(s1,.ok ⟨2,u,⟨#[]⟩⟩):=by rw[Fh.o,mf.o];exact E.o
   clear E;subst am;go_wp2;refine bodyPost_ret (v:=.tuple #[.agg #[vI 2,vI u,.string ⟨#[]⟩],.nilIface]) ?_ rfl ?_;·simp[results,Tryz.results120,go_sem,q0,q1,q2]
   .exact .fine O.o bJ.o (J.o.1.1.below y.o) (U.o.trans (.of_below y.o))
theorem Zjl{o:ATree}(h:MAt C M w s)(ha:TreeAt w B a)(hf:a.free M)(hk:a.kind=34)(ho:a.kids=[o])
 (E:∀W,Below w.heap.size w W->Calls Tryz.prog 130 #[vP C.mb,vP o.b,vI sc,.agg #[.bool fr.strict,vI fr.vars]] W λe w'=>al C M W (L2 V (o.nt C.N) sc fr s) e w') :
 Calls Tryz.prog 120 #[vP C.mb,a.ptr,vI sc,.agg #[.bool fr.strict,vI fr.vars]] w λe w'=>al C M w (xn V D (a.nt C.N) sc fr s) e w':=by
 obtain⟨R,m⟩:=zX (xn V D (a.nt C.N) sc fr s)
 rw[<-m];unfold xn at m;have Y:(a.nt C.N).kid 0=o.nt C.N:=sp Rj;simp only[Zc,hk,Y,Zz]at m;refine IE ?_;intro aI lf lr ln z hz;rw[<-hz]at aI lf lr ln;refine Zjn ?_;intro aE aJ kg kc c3 ct aR bO ba eU;rw[ho]at c3 ct bO;refine XL ?_;intro iv k0 c1;simp only[List.length_cons,List.length_nil]at c3 ct;refine Znq ?_;intro bY hob mt qS qT c0;rw[hk]at c0;refine YV ?_;intro ap;obtain⟨r1,Z⟩:=zX (L2 V (o.nt C.N) sc fr s)
 simp only[show¬(34:Int)=33 from by decide,show¬(34:Int)=32 from by decide,if_false,if_true]at m;rw[<-Z]at m E;have bF:=lh (λW (hB:Below z.heap.size z W)=>Calls.vres (E W (aI.trans (hB.mono aI.size))));have HS:=lh ap;have F:=lh lr;have bQ:=lh ln;refine DX ?_;intro dH bJ HM HO HE;have HZ:=lh hz;rw[hz]at c0;clear hz aE lf lr ln ap c1 c3 k0 bO aI aJ ha hf h Z ho Y hk iv qS qT mt E;unfold ATree.ptr;go_enter Tryz.func120,Tryz.ntmps120
 go_wp2_with fail
 rw[<-HZ.o];clear c0;refine oi [(true,0),(true,1),(true,2),(true,3),(true,4),(true,5),(true,6),(true,7),(true,8),(false,9),(true,10),(true,11)] [12,13] (λW=>vC W w.heap.size 0 (.bool fr.strict)∧vC W w.heap.size 1 (vI fr.vars)∧vC W a.b 3 (.slice (some ⟨kg,0,none⟩) 1 kc)∧vC W kg 0 (vP o.b)) (HS.o _ _ (.drew (.refl _ _))) (λbu=>?_);refine ep ?_;refine Z6 (λK hK=>?_);go_simp
 refine(bF.o _ (Ze _)).mono ?_;rintro e W1⟨M1,I,J,O,U,rfl,X⟩;have p:=(MFr.drew (.refl M z)).trans X.2.1;refine hK _ _ (HS.o _ _ p) ?_;clear hK K;obtain⟨q0,u,q2,z0,z1,z2⟩:=(F.o.fr p).six;have y:=lh X;have bw:=lh p;clear X p;simp only[ag];refine ep ?_;refine Z0 ?_;subst m;obtain⟨s1,u⟩:=R;cases u with
 | error x1 =>
   have ej:=lh (show ak C M1 W1 x1 U from y.o.2.2);go_wp2;refine bodyPost_ret (v:=.tuple #[.agg #[vI I,vI J,.string O],U]) ?_ rfl ?_;·simp[results,Tryz.results120,go_sem,q0,u,q2]
   .exact .err F.o bJ.o y.o.1 bw.o ej.o
 | ok v1 =>
   obtain⟨rfl,rfl⟩:v1=⟨I,J,O⟩∧U=.nilIface:=y.o.2.2;go_wp2;refine bodyPost_ret (v:=.tuple #[.agg #[vI I,vI J,.string O],.nilIface]) ?_ rfl ?_;·simp[results,Tryz.results120,go_sem,q0,u,q2]
   .exact .fine F.o bJ.o y.o.1 bw.o
theorem Zrv(h:MAt C M w s)(ha:TreeAt w B a)(hf:a.free M)(hk:a.kind=35)
 (p:∀W,Below w.heap.size w W->Calls Tryz.prog 131 #[vP C.mb,vP a.b,vI sc,.agg #[.bool fr.strict,vI fr.vars]] W λe w'=>al C M W (UG V D (a.nt C.N) sc fr s) e w') :
 Calls Tryz.prog 120 #[vP C.mb,a.ptr,vI sc,.agg #[.bool fr.strict,vI fr.vars]] w λe w'=>al C M w (xn V D (a.nt C.N) sc fr s) e w':=by
 obtain⟨R,g⟩:=zX (xn V D (a.nt C.N) sc fr s)
 rw[<-g];unfold xn at g;simp only[Zc,hk]at g;refine IE ?_;intro aI lf lr ln z hz;rw[<-hz]at aI lf lr ln;refine Zmt ?_;intro aE aJ bY c0;rw[hk]at c0;obtain⟨r1,O⟩:=zX (UG V D (a.nt C.N) sc fr s)
 simp only[show¬(35:Int)=33 from by decide,show¬(35:Int)=32 from by decide,show¬(35:Int)=34 from by decide,if_false,if_true]at g;rw[<-O]at g p;have bF:=lh (Calls.vres (p z aI));have u:=lh lr;have U:=lh aI;obtain⟨X,Y⟩:=lf.two;have HZ:=lh hz;rw[hz]at c0 X Y;clear hz aE lf lr ln aI aJ ha hf h O hk p;unfold ATree.ptr;go_enter Tryz.func120,Tryz.ntmps120
 go_wp2_with fail
 rw[<-HZ.o];clear c0 X Y;refine bF.o.mono ?_;rintro e W1⟨M1,y,E,F,I,rfl,J⟩;simp only[ag];obtain⟨Z,o,q2,z0,z1,z2⟩:=(u.o.fr J.2.1).six;have m:=lh J;clear J;subst g;obtain⟨s1,o⟩:=R;cases o with
 | error x1 =>
   have ej:=lh (show ak C M1 W1 x1 I from m.o.2.2);go_wp2;refine bodyPost_ret (v:=.tuple #[.agg #[vI y,vI E,.string F],I]) ?_ rfl ?_;·simp[results,Tryz.results120,go_sem,Z,o,q2]
   .exact .err u.o U.o m.o.1 m.o.2.1 ej.o
 | ok v1 =>
   obtain⟨rfl,rfl⟩:v1=⟨y,E,F⟩∧I=.nilIface:=m.o.2.2;go_wp2;refine bodyPost_ret (v:=.tuple #[.agg #[vI y,vI E,.string F],.nilIface]) ?_ rfl ?_;·simp[results,Tryz.results120,go_sem,Z,o,q2]
   .exact .fine u.o U.o m.o.1 m.o.2.1
theorem Zku(cA:xH C V b)(hV:VH V b)(h:MAt C M w s)(hI:Inv s (d+1))(hA:FAt s sc fr)(hb:b<=s.steps)(hs:s.steps<=20000)(ha:TreeAt w B a)(hf:a.free M){o:ATree}(hk:a.kind=36)(ho:a.kids=[o])(wo:(o.nt C.N).wf .v)(mo:(o.nt C.N).tree.many<=1500) :
 Calls Tryz.prog 120 #[vP C.mb,a.ptr,vI sc,.agg #[.bool fr.strict,vI fr.vars]] w λe w'=>al C M w (xn V D (a.nt C.N) sc fr s) e w':=by
 obtain⟨R,hR⟩:=zX (xn V D (a.nt C.N) sc fr s)
 rw[<-hR];unfold xn at hR;have e0:(a.nt C.N).kid 0=o.nt C.N:=sp Rj;simp only[Zc,hk,e0,Zz]at hR;refine IE ?_;intro aI lf lr ln z hz;rw[<-hz]at aI lf lr ln;refine Zjn ?_;intro aE aJ kg kc c3 ct aR bO ba eU;rw[ho]at c3 ct bO;refine XL ?_;intro iv k0 c1;simp only[List.length_cons,List.length_nil]at c3 ct;refine Znq ?_;intro bY hob mt qS qT c0;rw[hk]at c0
 have ap:∀W M',MFr M M' z W->vC W w.heap.size 0 (.bool fr.strict)∧vC W w.heap.size 1 (vI fr.vars)∧vC W a.b 3 (.slice (some ⟨kg,0,none⟩) 1 kc)∧vC W kg 0 (vP o.b)∧vC W a.b 1 (.string a.text):=λW M' f=>
  have g:MFr M M' w W:=(MFr.of_below aI).trans f;⟨(lf.fr f).cell rfl,(lf.fr f).cell rfl,(g.cell bY hf.blk).trans c3,(g.cell ba eU).trans k0,(g.cell bY hf.blk).trans c1⟩
 refine Uo ?_;intro r1 bA bF aj;simp only[show¬(36:Int)=33 from by decide,show¬(36:Int)=32 from by decide,show¬(36:Int)=34 from by decide,show¬(36:Int)=35 from by decide,if_false,if_true,gE]at hR;rw[<-bA]at bF aj hR;have bR:=lh aj;have HR:=lh hR;have HS:=lh ap;have ar:=lh lr;have bQ:=lh ln;refine DX ?_;intro dH bJ HM HO HE;have HZ:=lh hz;rw[hz]at c0;clear hz aE lf lr ln ap c1 c3 k0 bO aI aJ ha hf h hI hA bA aj hR ho e0 hk iv qS qT mt;unfold ATree.ptr;go_enter Tryz.func120,Tryz.ntmps120
 go_wp2_with fail
 rw[<-HZ.o];clear c0
 refine uY (.take 0 (.take 1 (.take 2 (.take 3 (.take 4 (.take 5 (.take 6 (.take 7 (.take 8 (.two 9 (.take 10 (.take 11 (.take 12 (.go 13 (.go 14 (.go 15 (.nil))))))) 13 (.go 9 (.take 10 (.take 11 (.take 12 (.go 14 (.go 15 (.nil))))))))))))))))) 14 (λW=>vC W w.heap.size 0 (.bool fr.strict)∧vC W w.heap.size 1 (vI fr.vars)∧vC W a.b 3 (.slice (some ⟨kg,0,none⟩) 1 kc)∧vC W kg 0 (vP o.b)∧vC W a.b 1 (.string a.text)) (HS.o _ _ (MFr.drew (.refl _ _))) ?_
 refine lM ?_;refine Zt ?_;apply L4 (H:=pV C w M z r1);·exact RD HS bF HE.o HO.o
 .exact Hu HS bF HM HE.o HO.o
 intro W1 Y M1 Z E t1 bU ai;have F1:=ai.1.2.1;have bw:=lh F1;obtain⟨s1,q1⟩:=r1;cases q1 with
 | error x1 =>
   exact tr5
 | ok v1 =>
   obtain⟨rfl,rfl⟩:v1=⟨Z,E,t1⟩∧bU=.nilIface:=ai.1.2.2;have hR:=HR.o;simp only at hR;obtain⟨c0,c1,c2,-,-,-⟩:=ai.2.six;have I:=lh ai.1.1;have av:=lh ai;clear ai F1 HR;by_cases h5:Z=5
   .subst h5;simp only[if_true,f7]at hR
    have F:=lh (show∀p M',MFr M1 M' W1 p->vC p Y 1 (vI E)∧vC p a.b 1 (.string a.text)from
     λp M' f=>⟨(av.o.2.fr f).cell rfl,(HS.o p M' (bw.o.trans f)).2.2.2.2⟩)
    have y:=AaC I.o.drew E a.text;obtain⟨G,hG⟩:=zX (s1.H.get E a.text)
    rw[<-hG]at y hR;obtain⟨⟨gk,gn,gt⟩,Jt⟩:∃v,v=G.getD LVal.zero:=⟨_,rfl⟩
    rw[<-Jt]at y hR;simp only[LVal.agg]at y;obtain⟨gb,gU⟩:=zX G.isSome
    rw[<-gU]at y;have HG:=lh y;clear y hG Jt gU;subst hR;go_wp2_with fail
    refine uY (.take 0 (.take 1 (.take 2 (.take 3 (.take 4 (.take 5 (.take 6 (.take 7 (.take 8 (.go 9 (.take 10 (.take 11 (.take 12 (.go 13 .nil)))))))))))))) 13 (λW=>vC W Y 1 (vI E)∧vC W a.b 1 (.string a.text)) (F.o _ _ (.drew (.refl _ _))) ?_;refine lM ?_;refine mH (λK hK=>?_);refine HG.o.mono ?_;rintro e W2⟨rfl,au⟩;have J:=(Ze W1).trans (au.mono (Y0 _));refine hK _ _ (F.o _ _ (.of_below J)) ?_;clear hK K c0 c1 c2;obtain⟨c0,c1,c2,d0,d1,d2⟩:=(av.o.2.bel J).six;have O:=lh J
    clear au J;try simp only[Act.put,zA,zB,zC]
    refine lM ?_;obtain⟨y1,y2,y3,y4⟩:=(av.o.2.bel O.o).fill (x':=(vI gk)) (y':=(vI gn)) (z':=.string gt) (I.o.below O.o) (MFr.trans bw.o (.of_below O.o)) av.o.2.late;have u:=lh (And.intro y1 (And.intro y2 y3));clear y1 y2 y3 y4;refine AR (λK hK=>?_);refine hK _ _ (D2 ?_);clear hK K;have aK:w.heap.size+1≠Y:=by have:=av.o.2.late;have h2:=HE.o;rw[HZ.o]at this;simp at this;omega
    obtain⟨q0,q1,q2,z0,z1,z2⟩:=(ar.o.fr (bw.o.trans (.of_below O.o))).six;have r0:=(ar.o.fr u.o.2.1).cell (i:=0) rfl;have r1:=(ar.o.fr u.o.2.1).cell (i:=1) rfl;have r2:=(ar.o.fr u.o.2.1).cell (i:=2) rfl;have u0:=u.o.2.2.cell (i:=0) rfl;have u1:=u.o.2.2.cell (i:=1) rfl;have u2:=u.o.2.2.cell (i:=2) rfl;have v0:=(ar.o.fr u.o.2.1).fz 0;have v1:=(ar.o.fr u.o.2.1).fz 1;have v2:=(ar.o.fr u.o.2.1).fz 2;go_wp2
    refine bodyPost_ret (v:=.tuple #[.agg #[vI gk,vI gn,.string gt],.nilIface]) ?_ rfl ?_;·simp[results,Tryz.results120,go_sem,r0,r1,r2]
    .exact .fine ar.o bJ.o u.o.1 u.o.2.1
   .have b5:(Z !=5)=true:=by simp[h5]
    simp only[h5,if_false,tG,tO]at hR;subst hR;clear h5;have HP:=lh (KB I.o.drew wh)
    have F:=lh (show∀p M',MFr M1 M' W1 p->vC p (w.heap.size+1+1) 0 (vI 0)∧vC p (w.heap.size+1+1) 1 (vI 0)∧vC p (w.heap.size+1+1) 2 (.string ⟨#[]⟩)from
     λp M' f=>⟨(bQ.o.fr (bw.o.trans f)).cell rfl,(bQ.o.fr (bw.o.trans f)).cell rfl,(bQ.o.fr (bw.o.trans f)).cell rfl⟩)
    go_wp2_with fail
    refine oi [(true,0),(false,1)] [2,3] (λW=>vC W (w.heap.size+1+1) 0 (vI 0)∧vC W (w.heap.size+1+1) 1 (vI 0)∧vC W (w.heap.size+1+1) 2 (.string ⟨#[]⟩)) (F.o _ _ (.drew (.refl _ _))) (λbu=>?_);refine ep ?_;refine Z6 (λK hK=>?_);go_simp
    refine HP.o.mono ?_;rintro e W3⟨fg,rfl,ko,aB⟩;have U:MFr M1 M1 W1 W3:=(MFr.drew (.refl M1 W1)).trans (.of_below aB);refine hK _ _ (F.o _ _ U) ?_;clear hK K c0 c1 c2;obtain⟨q0,q1,q2,z0,z1,z2⟩:=(ar.o.fr (bw.o.trans U)).six;have dq:=lh (I.o.drew.below aB);have bE:=lh (bw.o.trans U);have il:=lh ko;clear U ko aB;refine Z0 ?_;go_wp2;refine bodyPost_ret (v:=.tuple #[.agg #[vI 0,vI 0,.string ⟨#[]⟩],fg]) ?_ rfl ?_;·simp[results,Tryz.results120,go_sem,q0,q1,q2]
    .exact .err ar.o bJ.o dq.o bE.o il.o
theorem Zlz(cA:xH C V b)(hV:VH V b)(h:MAt C M w s)(hI:Inv s (d+1))(hA:FAt s sc fr)(hb:b<=s.steps)(hs:s.steps<=20000)(ha:TreeAt w B a)(hf:a.free M){o:ATree}(hk:a.kind=33)(ho:a.kids=[o])(wo:(o.nt C.N).wf .v)(mo:(o.nt C.N).tree.many<=1500) :
 Calls Tryz.prog 120 #[vP C.mb,a.ptr,vI sc,.agg #[.bool fr.strict,vI fr.vars]] w λe w'=>al C M w (xn V D (a.nt C.N) sc fr s) e w':=by
 obtain⟨R,hR⟩:=zX (xn V D (a.nt C.N) sc fr s)
 rw[<-hR];unfold xn at hR;have O:(a.nt C.N).kid 0=o.nt C.N:=sp Rj;simp only[Zc,hk,O,Zz]at hR;refine IE ?_;intro aI lf lr ln z hz;rw[<-hz]at aI lf lr ln;refine Zjn ?_;intro aE aJ kg kc c3 ct aR bO ba eU;rw[ho]at c3 ct bO;refine XL ?_;intro iv k0 c1;simp only[List.length_cons,List.length_nil]at c3 ct;refine Znq ?_;intro bY hob mt qS qT c0;rw[hk]at c0
 have U:∀W M',MFr M M' z W->vC W w.heap.size 0 (.bool fr.strict)∧vC W w.heap.size 1 (vI fr.vars)∧vC W a.b 3 (.slice (some ⟨kg,0,none⟩) 1 kc)∧vC W kg 0 (vP o.b)∧vC W o.b 0 (vI o.kind)∧vC W o.b 1 (.string o.text):=λW M' f=>
  have g:MFr M M' w W:=(MFr.of_below aI).trans f;⟨(lf.fr f).cell rfl,(lf.fr f).cell rfl,(g.cell bY hf.blk).trans c3,(g.cell ba eU).trans k0,(g.cell hob mt.blk).trans qS,(g.cell hob mt.blk).trans qT⟩
 refine Uo ?_;intro r1 bA bF aj;simp only[if_true,gE]at hR;rw[<-bA]at bF aj hR;obtain⟨u,Y⟩:=zX (s.H.find sc o.text)
 have y:=Zcl aE.drew.heap hI.wf sc o.text;rw[<-Y]at y hR;have Z:=lh y;have bR:=lh aj;have HR:=lh hR;have HS:=lh U;have ar:=lh lr;have bQ:=lh ln;refine DX ?_;intro dH bJ HM HO HE;have HZ:=lh hz;have E:=(aI.cell bY).trans c3;have F:=(aI.cell ba).trans k0;rw[hz]at c0 E F;clear hz aE lf lr ln U c1 c3 k0 bO aI aJ ha hf h hI hA bA aj hR ho O hk iv qS qT mt y Y;unfold ATree.ptr;by_cases p:o.kind=23∧u<0
 .have Ju:(o.kind==23)=true:=by simp[p.1]
  have L8:decide (u<0)=true:=decide_eq_true p.2;have am:R=(s,.ok ⟨4,0,UO⟩):=by rw[HR.o,Y5 p];rfl
  clear HR p;subst am;go_enter Tryz.func120,Tryz.ntmps120
  go_wp2_with fail
  rw[<-HZ.o];clear c0 E F;refine Xh ?_;intro bu;go_wp2_with fail
  refine Z.o.mono ?_;rintro e W1⟨rfl,aL⟩;have av:=lh ((Ze z).trans (aL.mono (Y0 _)));have jf:=Y' W1 UO;simp only[LVal.agg]at jf;have Dd:=lh jf;clear aL jf;go_wp2_with fail
  refine Dd.o.mono ?_;rintro e W2⟨rfl,au⟩;have aB:=av.o.trans (au.mono av.o.size);obtain⟨q0,q1,q2,z0,z1,z2⟩:=(ar.o.bel aB).six;have bP:=lh aB;clear au aB;go_wp2;refine bodyPost_ret (v:=.tuple #[.agg #[vI 4,vI 0,.string UO],.nilIface]) ?_ rfl ?_;·simp[results,Tryz.results120,go_sem,q0,q1,q2]
  .exact .fine ar.o bJ.o (HM.o.below bP.o) (.of_below bP.o)
 .have am:=HR.o;rw[Y3 p]at am;have dr:(o.kind==23)=false∨(o.kind==23)=true∧decide (u<0)=false:=by
   by_cases I:o.kind=23;·exact .inr ⟨by simp[I],decide_eq_false λh2=>p ⟨I,h2⟩⟩
   .exact .inl (by simp[I])
  have HR:=lh am;clear am p;have J:∀(Wx:World),Below z.heap.size z Wx->True:=λ_ _=>trivial;clear J;rcases dr with Ju|⟨Ju,L8⟩
  all_goals
   go_enter Tryz.func120,Tryz.ntmps120
   go_wp2_with fail
   rw[<-HZ.o];clear c0 E F;refine Xh ?_;intro bu;go_wp2_with fail
  .obtain⟨W0,Jv,jL⟩:∃W0,W0=z.drew∧Hid (Below z.heap.size z W0):=⟨_,rfl,lh (Ze z)⟩
   rw[<-Jv];clear Jv;exact Aah
  .refine Z.o.mono ?_;rintro e W0⟨rfl,cE⟩;have jL:=lh ((Ze z).trans (cE.mono (Y0 _)));clear cE;go_wp2_with fail
   exact Aah
end
section
variable {C:RCtx}{M M':MRep}{w w':World}{s s':MSt}{B:Nat}{a:ATree}{V:VF}{D:DF}{b:Int}{sc:Int}{fr:Frm}{d:Nat}
theorem Zhn{V:VF}{o:Int}{k:NT}{l:List NT}:Tr V sc fr o (k::l) s=match V (k.kid 0) sc fr s with
 |(s1,.ok v)=>Tr V sc fr o l (s1.put o k.text v false)
 |(s1,.error e)=>(s1,.error e):=by
 simp only[Tr,gE];rcases V (k.kid 0) sc fr s with⟨s1,e|v⟩<;>rfl
theorem Zkz(cA:xH C V b)(hV:VH V b)(h:MAt C M w s)(hI:Inv s (d+a.kids.length+1))(hA:FAt s sc fr)(hb:b<=s.steps)(hs:s.steps<=20000)(ha:TreeAt w B a)(hf:a.free M)(hk:a.kind=38)(hn:a.kids.length<=1500)(bG:∀x∈a.kids,∃o,x.kids=[o]∧(o.nt C.N).wf .v∧(o.nt C.N).tree.many<=1500) :
 Calls Tryz.prog 120 #[vP C.mb,a.ptr,vI sc,.agg #[.bool fr.strict,vI fr.vars]] w λe w'=>al C M w (xn V D (a.nt C.N) sc fr s) e w':=by
 obtain⟨R,g⟩:=zX (xn V D (a.nt C.N) sc fr s)
 rw[<-g];unfold xn at g;simp only[Zc,hk,Zq]at g;simp only[show¬(38:Int)=33 from by decide,show¬(38:Int)=32 from by decide,show¬(38:Int)=34 from by decide,show¬(38:Int)=35 from by decide,show¬(38:Int)=36 from by decide,if_false,if_true]at g;obtain⟨ob,hob⟩:=zX s.nextO
 rw[<-hob]at g;refine IE ?_;intro aI lf lr ln z hz;rw[<-hz]at aI lf lr ln;refine Zmt ?_;intro aE aJ bY c0;rw[hk]at c0;obtain⟨q,hq⟩:=zX a.kids.length
 obtain⟨P,E⟩:=zX a.kids
 rw[<-E]at bG;obtain⟨eP,y⟩:=hI.object (d:=d+a.kids.length) (code:=0) Pa O';have jQ:=Yw aE hI 0;rw[<-hob]at jQ;obtain⟨s0,gW⟩:=zX (s.object 0)
 rw[<-gW]at jQ g eP y;rw[<-hq]at eP hn;have As:s0.steps=s.steps:=by rw[gW];rfl
 have ql:=aJ.rowOf;obtain⟨pp,cp,co,cr,eu,dc⟩:=jm.slice ql;rw[<-hq]at co cr;rw[<-E]at dc;have c3:=ha.c3;rw[co]at c3;have d3:=(aI.cell bY).trans c3;have Y:R=match Tr V sc fr ob (P.map (ATree.nt C.N)) s0 with
  |(s1,.ok _)=>(s1,.ok (.ref ob))
  |(s1,.error e)=>(s1,.error e):=by
  rw[g,E];simp only[gE,f7,yn];rcases Tr V sc fr ob (a.kids.map (ATree.nt C.N)) s0 with⟨s1,e|v⟩<;>rfl
 have lQ:=lh jQ;have L9:=lh y;have ip:=lh eP;have Fj:=lh As;have mQ:=lh Y;have ar:=lh lr;have bQ:=lh ln;refine DX ?_;intro dH bJ HM HO HE;have fI:=lh aJ;have ea:=lh hf;have HA:=lh hA;have pF:=lh bG;have qm:=lh co;have tV:=lh dc;have HP:=lh E;have HQ:=lh (show q=P.length by rw[hq,E]);have oS:=lh cA;have HV:=lh hV;have dB:=lh (And.intro hb hs);rw[hz]at c0;have HZ:=lh hz;have ng:q<=9223372036854775807:=O'
 clear hz aE lf lr ln aI aJ ha hf h hI hA g Y hk hob jQ gW eP y As ql co dc E hq bG cA hV hb hs c3;unfold ATree.ptr;go_enter Tryz.func120,Tryz.ntmps120
 go_wp2_with fail
 rw[<-HZ.o];clear c0;refine lQ.o.mono ?_;rintro e w1⟨rfl,M1,ef,dm⟩;have e3:=(dm.tree fI.o ea.o).1.c3;rw[qm.o]at e3;have bZ:=lh ef;have bw:=lh dm;clear ef dm d3;go_wp2_with fail
 go_loopw [166] (λi wr=>∃(k:Nat) (Mk:MRep) (u:MSt),k<=q∧i=(vI k)∧Hid (MAt C Mk wr u)∧Hid (MFr M Mk z wr)∧Hid (Inv u (d+(q-k)))∧Hid (Ext s u∧u.steps<=20000)∧Hid (R=match Tr V sc fr ob ((P.drop k).map (ATree.nt C.N)) u with
  |(s1,.ok _)=>(s1,.ok (.ref ob))
  |(s1,.error e)=>(s1,.error e))) (λi _=>q-(intOf i).toNat)
 case atStart=>exact⟨0,M1,s0,Yh _,rfl,bZ,bw,lh (by rw[Nat.sub_zero];exact ip.o),lh ⟨L9.o,by rw[Fj.o];exact dB.o.2⟩,lh (by rw[List.drop_zero];exact mQ.o)⟩
 case round=>
  obtain⟨k,Mk,u,hk,rfl,da,F,eA,dO,dY⟩:=hrel;by_cases bV:k<q
  .obtain⟨x,hx⟩:∃x,P[k]? =some x:=⟨_,Y6 Qg⟩
   obtain⟨g0,hp⟩:=tV.o k x hx;subst hp;have aU:x∈P:=Yd hx;have bN:x∈a.kids:=by rw[<-HP.o];exact aU
   obtain⟨o,y,wo,mo⟩:=pF.o x aU;have dT:=F.o.tree fI.o ea.o;have ae:=dT.1.rowOf;rw[qm.o]at ae;have cx:wr.cell? ⟨g0,k,none⟩=some (vP x.b):=jm.cell ae (b:=g0) rfl (by rw[<-HP.o];exact hx);have mg:=dT.1.kid bN;have f8:=dT.2.kid bN;obtain⟨xg,xc,I,dP,sh,cI,jx,vL⟩:=mg.row f8 (by rw[y];simp);rw[y]at I dP cI;have iv:o∈x.kids:=by rw[y];simp
   have x0:=cI 0 o rfl;have sE:=mg.c1;simp only[List.length_cons,List.length_nil]at I dP;have ij:=mg.lt;obtain⟨r1,bA⟩:=zX (V (o.nt C.N) sc fr u)
   have Z:=dO.o;have gM:b<=u.steps:=Int.le_trans dB.o.1 Z.1.steps;have bF:=lh (oS.o.from da.o eA.o (HA.o.ext Z.1) gM Z.2 wo mo (mg.kid iv) (f8.kid iv));have aj:=(HV.o (o.nt C.N) sc fr u _ wo mo eA.o (HA.o.ext Z.1) gM Z.2).1;have g:=dY.o;rw[show P.drop k=x::P.drop (k+1) by
    obtain⟨hl,he⟩:=List.getElem?_eq_some_iff.1 hx;rw[List.drop_eq_getElem_cons hl,he],List.map_cons,Zhn,sp (show x.kids[0]?=some o by rw[y];rfl),Zz]at g
   rw[<-bA]at bF aj g;have HS:=lh (show∀W M',MFr Mk M' wr W->vC W w.heap.size 0 (.bool fr.strict)∧vC W w.heap.size 1 (vI fr.vars)∧vC W x.b 3 (.slice (some ⟨xg,0,none⟩) 1 xc)∧vC W xg 0 (vP o.b)∧vC W x.b 1 (.string x.text)from λW M' f=>
    ⟨(dH.o.fr (F.o.trans f)).cell rfl,(dH.o.fr (F.o.trans f)).cell rfl,(f.cell ij f8.blk).trans I,(f.cell jx vL).trans x0,(f.cell ij f8.blk).trans sE⟩)
   have HR:=lh g;have bR:=lh aj;have qn:=lh (Y4 HE.o F.o.size);clear g aj bA dT ae mg f8 cI I x0 sE aU bN y iv Z gM wo mo;go_wp2_with fail
   refine uY (.take 0 (.take 1 (.take 2 (.take 3 (.take 4 (.take 5 (.take 6 (.take 7 (.take 8 (.two 9 (.take 10 (.take 11 (.take 12 (.go 13 (.go 14 (.go 15 (.nil))))))) 13 (.go 9 (.take 10 (.take 11 (.take 12 (.go 14 (.go 15 (.nil))))))))))))))))) 14 (λW=>vC W w.heap.size 0 (.bool fr.strict)∧vC W w.heap.size 1 (vI fr.vars)∧vC W x.b 3 (.slice (some ⟨xg,0,none⟩) 1 xc)∧vC W xg 0 (vP o.b)∧vC W x.b 1 (.string x.text)) (HS.o _ _ (MFr.drew (.refl _ _))) ?_
   refine lM ?_;refine Zt ?_;apply L4 (H:=pV C w Mk wr r1);·exact RD HS bF qn.o HO.o
   .exact Zto HS bF da qn.o HO.o
   intro W1 p1 M2 J O U bU p;have F1:=F.o.trans p.1.2.1;have aZ:=lh F1;obtain⟨s1,q1⟩:=r1;cases q1 with
   | error x1 =>
     have he:ak C M2 W1 x1 bU:=p.1.2.2;have av:=lh p;have Y:R=(s1,.error x1):=HR.o;subst Y;obtain⟨T1,P1,rfl,E⟩:=he.ne;have ej:=lh he;obtain⟨q0,q1,q2,z0,z1,z2⟩:=(ar.o.fr F1).six;obtain⟨m0,m1,m2,-,-,-⟩:=(bQ.o.fr F1).six;clear p he HR F1;go_wp2;refine bodyPost_ret (v:=.tuple #[.agg #[vI 0,vI 0,.string ⟨#[]⟩],.iface T1 (.pointer P1)]) ?_ rfl ?_;·simp[results,Tryz.results120,go_sem,q0,q1,q2]
     .exact .err ar.o bJ.o av.o.1.1 aZ.o ej.o
   | ok v1 =>
     obtain⟨rfl,rfl⟩:v1=⟨J,O,U⟩∧bU=.nilIface:=p.1.2.2;obtain⟨i1,x1,-,ey,i2⟩:=bR.o;have g:=HR.o;simp only at g;have fS:Inv s1 (d+(q-(k+1))+1):=i1.less O';have hpt:=yB p.1.1.drew fS ob x.text ⟨J,O,U⟩ false;simp only[LVal.agg]at hpt;have kD:=lh hpt;obtain⟨i3,I⟩:=zq (d:=d+(q-(k+1))) (o:=ob) (name:=x.text) (v:=⟨J,O,U⟩) (fx:=false) fS ey;have nQ:=lh i3
     have Fk:=lh (show Ext s (s1.put ob x.text ⟨J,O,U⟩ false)∧(s1.put ob x.text ⟨J,O,U⟩ false).steps<=20000 from⟨(dO.o.1.trans x1).trans I,i2⟩)
     have cD:=lh (show∀W M',MFr M2 M' W1 W->vC W p1 0 (vI J)∧vC W p1 1 (vI O)∧vC W p1 2 (.string U)∧vC W x.b 1 (.string x.text)from
      λW M' f=>⟨(p.2.fr f).cell rfl,(p.2.fr f).cell rfl,(p.2.fr f).cell rfl,(HS.o W M' (p.1.2.1.trans f)).2.2.2.2⟩)
     have dU:=lh g;clear p F1 g HR i1 x1 ey i2 hpt fS i3 I;go_wp2_with fail
     refine oi [(true,0),(true,1),(true,2),(true,3),(true,4),(true,5),(true,6),(true,7),(true,8)] [9] (λW=>vC W p1 0 (vI J)∧vC W p1 1 (vI O)∧vC W p1 2 (.string U)∧vC W x.b 1 (.string x.text)) (cD.o _ _ (.drew (.refl _ _))) (λbu=>?_);refine ep ?_;refine Z0 ?_;go_wp2_with fail
     refine kD.o.mono ?_;rintro e w3⟨rfl,M3,dL,bq⟩;have dq:=lh dL;have bE:=lh (aZ.o.trans ((MFr.drew (.refl M2 W1)).trans bq));clear dL bq;go_wp2_with fail
     go_roundw
     case rel=>exact⟨k+1,M3,_,by omega,by go_num,dq,bE,nQ,Fk,dU⟩
     case measure=>simp[intOf];omega
  .have aR:k=q:=by omega
   subst aR;have g:=dY.o;rw[List.drop_eq_nil_of_le Qr]at g;have Y:R=(u,.ok ⟨5,ob,⟨#[]⟩⟩):=g;subst Y;obtain⟨q0,q1,q2,z0,z1,z2⟩:=(ar.o.fr F.o).six;clear g dY;go_wp2;refine bodyPost_ret (v:=.tuple #[.agg #[vI 5,vI ob,.string ⟨#[]⟩],.nilIface]) ?_ rfl ?_;·simp[results,Tryz.results120,go_sem,q0,q1,q2]
   .exact .fine ar.o bJ.o da.o F.o
end
