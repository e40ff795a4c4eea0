/- Package tree: statement. -/
import Derived.Test.YtjikfacdcdiddaaGreatDoorJ14
import Derived.Recover
import Derived.Stop.Asserts
import Derived.Outline
set_option linter.unusedSimpArgs false
set_option maxRecDepth 100000
set_option maxHeartbeats 20000000
set_option linter.unusedVariables false
namespace Go.Proofs.YtjikfacdcdiddaaGreatDoor
open Go Go.RowKit
theorem Zlk(f:Nat)(xA:c9 95 (λrb=>#[vP rb,.bool false]) (.block false) f)
 (hD:∀k m,c9 98 (λrb=>#[vP rb,vI k,.bool m]) (.decl k m) f)
 (zm:∀s,c9 99 (λrb=>#[vP rb,vI 5,.string s]) (.func 5 s) f)
 (hA:c9 101 cQ .around f)(hS:c9 65 cQ .stmt f)
 (hV:c9 102 cQ .value f)(hT:c9 103 cQ .try_ f):c9 65 cQ .stmt (f+1):=by
 intro w rb B d ts r hP hp;have HP:=lh hP;have tA:=lh xA;have J:=lh hD;have vq:=lh zm;have HA:=lh hA;have HS:=lh hS;have O:=lh hV;have kA:=lh hT;have aA:=hP.lt;have kI:=hp;rw[Z3]at kI;have HQ:=lh kI;have Z:=lh hP;have F0:=lh (RFr.refl w rb);refine Dz ?_;intro iV;clear hP hp xA hD zm hA hS hV hT kI;unfold cQ;go_enter Tryz.func65,Tryz.ntmps65
 by_cases h:aa CW ts=true
 .have hq:=HQ.o;rw[Y5 h]at hq;have F:=lh hq;have E:=LI w rb ts d CW Z.o.rd;rw[h]at E;unfold CW at E;have E:=lh E;clear h hq;go_wp2_with fail
  refine E.o.mono ?_;rintro e w2⟨rfl,g⟩;have F2:=lh (F0.o.trans (RFr.below (rb:=rb) g));have HC:=tA.o w2 rb B d _ r (Z.o.below g) F.o;simp only at HC;have HC:=lh HC;clear g E;exact ZX
 have u:aa CW ts=false:=PP
 have hq:=HQ.o;rw[Y3 h]at hq;have Et:=lh hq;have E:=LI w rb ts d CW Z.o.rd;rw[u]at E;unfold CW at E;have E:=lh E;clear h u hq;go_wp2_with fail
 refine E.o.mono ?_;rintro e IT⟨rfl,g⟩;have zz:=lh (Z.o.below g);have Eu:=lh (F0.o.trans (RFr.below (rb:=rb) g));clear g E Z F0 HQ;by_cases h:aa Ed ts=true
 .have hq:=Et.o;rw[Y5 h]at hq;have F:=lh hq;have HT:=wR IT rb ts d Ed zz.o.rd h;unfold Ed at HT;have HT:=lh HT;clear h hq;go_wp2_with fail
  refine HT.o.mono ?_;rintro e w2⟨rfl,am,aq⟩;have P2:=lh (zz.o.tail am aq);have F2:=lh (Eu.o.trans aq);clear am aq HT;have HR:=lh (Yc F.o).symm;have HN:=lh (Zv w2 rb 16 ⟨#[]⟩ none 0 0);have U:=lh (Got.leaf (k:=16) (t:=⟨#[]⟩) (n:=0) HP.o.le F2.o);go_wp2_with fail
  refine HN.o.mono ?_;rintro e w3⟨rfl,kF⟩;have X:Below w2.heap.size w2 w3:=QW
  have AL:=lh X;have xJ:=lh kF;clear X kF HN;go_wp2;go_ret;rw[HR.o];exact⟨_,rfl,by rw[xJ.o];exact U.o,P2.o.rd.below AL.o,F2.o.trans (RFr.below AL.o)⟩
 have u:aa Ed ts=false:=PP
 have hq:=Et.o;rw[Y3 h]at hq;have Ev:=lh hq;have HT:=xk IT rb ts d Ed zz.o.rd u;unfold Ed at HT;have HT:=lh HT;clear h u hq;go_wp2_with fail
 refine HT.o.mono ?_;rintro e IU⟨rfl,g⟩;have zD:=lh (zz.o.below g);have Ew:=lh (Eu.o.trans (RFr.below (rb:=rb) g));clear g HT zz Eu Et;by_cases h:aa Uv ts=true
 .have hq:=Ev.o;rw[Y5 h]at hq;have F:=lh hq;have HT:=wR IU rb ts d Uv zD.o.rd h;unfold Uv at HT;have HT:=lh HT;clear h hq;go_wp2_with fail
  refine HT.o.mono ?_;rintro e w2⟨rfl,am,aq⟩;have P2:=lh (zD.o.tail am aq);have F2:=lh (Ew.o.trans aq);clear am aq HT;rcases Zf F.o with⟨⟨c,p⟩,hv,rfl⟩|⟨t,vs,hv,fY⟩
  .have HC:=J.o 2 false w2 rb B d _ _ P2.o hv;simp only at HC;exact Sg
  have HC:=J.o 2 false w2 rb B d _ _ P2.o hv;exact Wi
 have u:aa Uv ts=false:=PP
 have hq:=Ev.o;rw[Y3 h]at hq;have Ex:=lh hq;have HT:=xk IU rb ts d Uv zD.o.rd u;unfold Uv at HT;have HT:=lh HT;clear h u hq;go_wp2_with fail
 refine HT.o.mono ?_;rintro e IV⟨rfl,g⟩;have zE:=lh (zD.o.below g);have Ey:=lh (Ew.o.trans (RFr.below (rb:=rb) g));clear g HT zD Ew Ev;by_cases h:aa UN ts=true
 .have hq:=Ex.o;rw[Y5 h]at hq;have F:=lh hq;have HT:=wR IV rb ts d UN zE.o.rd h;unfold UN at HT;have HT:=lh HT;clear h hq;go_wp2_with fail
  refine HT.o.mono ?_;rintro e w2⟨rfl,am,aq⟩;have P2:=lh (zE.o.tail am aq);have F2:=lh (Ey.o.trans aq);clear am aq HT;rcases Zf F.o with⟨⟨c,p⟩,hv,rfl⟩|⟨t,vs,hv,fY⟩
  .have HC:=J.o 3 false w2 rb B d _ _ P2.o hv;simp only at HC;exact Sg
  have HC:=J.o 3 false w2 rb B d _ _ P2.o hv;exact Wi
 have u:aa UN ts=false:=PP
 have hq:=Ex.o;rw[Y3 h]at hq;have Ez:=lh hq;have HT:=xk IV rb ts d UN zE.o.rd u;unfold UN at HT;have HT:=lh HT;clear h u hq;go_wp2_with fail
 refine HT.o.mono ?_;rintro e IW⟨rfl,g⟩;have zF:=lh (zE.o.below g);have EA:=lh (Ey.o.trans (RFr.below (rb:=rb) g));clear g HT zE Ey Ex;by_cases h:aa UD ts=true
 .have hq:=Ez.o;rw[Y5 h]at hq;have F:=lh hq;have HT:=wR IW rb ts d UD zF.o.rd h;unfold UD at HT;have HT:=lh HT;clear h hq;go_wp2_with fail
  refine HT.o.mono ?_;rintro e w2⟨rfl,am,aq⟩;have P2:=lh (zF.o.tail am aq);have F2:=lh (EA.o.trans aq);clear am aq HT;rcases Zf F.o with⟨⟨c,p⟩,hv,rfl⟩|⟨t,vs,hv,fY⟩
  .have HC:=J.o 4 true w2 rb B d _ _ P2.o hv;simp only at HC;exact Sg
  have HC:=J.o 4 true w2 rb B d _ _ P2.o hv;exact Wi
 have u:aa UD ts=false:=PP
 have hq:=Ez.o;rw[Y3 h]at hq;have EB:=lh hq;have HT:=xk IW rb ts d UD zF.o.rd u;unfold UD at HT;have HT:=lh HT;clear h u hq;go_wp2_with fail
 refine HT.o.mono ?_;rintro e IX⟨rfl,g⟩;have zG:=lh (zF.o.below g);have EC:=lh (EA.o.trans (RFr.below (rb:=rb) g));clear g HT zF EA Ez;by_cases h:aa NR ts=true
 .have hq:=EB.o;rw[Y5 h]at hq;have F:=lh hq;have HT:=wR IX rb ts d NR zG.o.rd h;unfold NR at HT;have HT:=lh HT;clear h hq;go_wp2_with fail
  refine HT.o.mono ?_;rintro e w2⟨rfl,am,aq⟩;have P2:=lh (zG.o.tail am aq);have F2:=lh (EC.o.trans aq);clear am aq HT;rcases V5 F.o with⟨hk,h1⟩|⟨hk,rfl⟩
  .have HC:=lh (Tj w2 rb ts.tail d P2.o.rd hk);obtain⟨s,hs⟩:=zX ((bL ts.tail).text)
   rw[<-hs]at HC h1;have fw:=lh h1;clear hk h1 hs;go_wp2_with fail
   refine HC.o.mono ?_;rintro e w4⟨rfl,eZ,bh⟩;have bS:=vq.o s w4 rb B d _ r (P2.o.tail eZ bh) fw.o;simp only at bS;have bS:=lh bS;have F4:=lh (F2.o.trans bh);clear eZ bh HC;go_wp2_with fail
   refine bS.o.mono ?_;rcases r with⟨c,p⟩|⟨t,ts'⟩
   .rintro e wz⟨⟨b,rfl,h1,h2⟩,hF⟩;exact Uj
   .rintro e wz⟨a,rfl,hG,hR,hF⟩;exact Zuk
  .have HC:=lh (UU w2 rb ts.tail d P2.o.rd hk);exact Zvr
 have u:aa NR ts=false:=PP
 have hq:=EB.o;rw[Y3 h]at hq;have ED:=lh hq;have HT:=xk IX rb ts d NR zG.o.rd u;unfold NR at HT;have HT:=lh HT;clear h u hq;go_wp2_with fail
 refine HT.o.mono ?_;rintro e IY⟨rfl,g⟩;have zH:=lh (zG.o.below g);have EE:=lh (EC.o.trans (RFr.below (rb:=rb) g));clear g HT zG EC EB;by_cases h:aa Ia ts=true
 .have hq:=ED.o;rw[Y5 h]at hq;have F:=lh hq;have HT:=wR IY rb ts d Ia zH.o.rd h;unfold Ia at HT;have HT:=lh HT;clear h hq;go_wp2_with fail
  refine HT.o.mono ?_;rintro e w2⟨rfl,am,aq⟩;have P2:=lh (zH.o.tail am aq);have F2:=lh (EE.o.trans aq);clear am aq HT;rcases Zf F.o with⟨⟨c,p⟩,hv,rfl⟩|⟨t,vs,hv,fY⟩;·exact Vu
  have HC:=HA.o w2 rb B d _ _ P2.o hv;unfold cQ at HC;refine WV ?_;clear hv fY;intro HC fX fw;go_wp2_with fail
  refine Zpz ?_;intro w3 x hX bK bq P3 F3 X3 xb ij uI;rw[<-ij];clear hX bK bq HC ij;rcases Zf fw.o with⟨⟨c,p⟩,hv,rfl⟩|⟨ty,us,hv,oT⟩;·exact V9
  refine VW ?_;intro HC kq uG;clear hv oT;go_wp2_with fail
  refine UZ ?_;intro w4 y hY hR bh mi kh nT ai;have ax:Below w4.heap.size w4 ((w4.alloc (.cells #[vP xb,vP y.b] 22)).alloc (.cells #[vI 7,.string ⟨#[]⟩,vI 0,.slice (some ⟨w4.heap.size,0,none⟩) 2 2] 42)):=ai.alloc Pg _;have hA:=Got.two (k:=7) (t:=⟨#[]⟩) HP.o.le kh mi (wA:=w3) (λz I=>(X3.o.new z I).2) F3.o.size hY;have am:=hR.below ax;have aq:=kh.trans (RFr.below (rb:=rb) ax)
  have HN:=lh (Zv (w4.alloc (.cells #[vP xb,vP y.b] 22)) rb 7 ⟨#[]⟩ (some ⟨w4.heap.size,0,none⟩) 2 2);obtain⟨sb,aN⟩:=zX w4.heap.size
  rw[<-aN]at HN hA ax am aq;have cJ:=lh aN;go_wp2_with fail
  rw[<-cJ.o];refine VM ?_;intro wn jE aX be;rw[be];obtain⟨nb,dw⟩:=zX (sb+1)
  rw[<-dw]at hA ⊢;have hA:Got w B wn (.mk nb (.slice (some ⟨sb,0,none⟩) 2 2) 7 ⟨#[]⟩ 0 [x,y]) (.mk 7 ⟨#[]⟩ 0 [t,ty]):=Q3
  rw[<-jE]at am aq;have N:=lh hA;have FQ:=lh aq;have PQ:=lh ((P3.o.next (ts':=us) hR bh kq.o).next am (RFr.below (rb:=rb) aX) (Y0 _));clear mi nT kh hY hR bh ai ax aX hA am aq HN aN jE be dw HC;by_cases he:aa Uw us=true
  .have hq:=uG.o;rw[Y5 he]at hq;have H2:=lh hq;have HT:=wR wn rb us d Uw PQ.o.rd he;unfold Uw at HT;have HT:=lh HT;clear he hq;go_wp2_with fail
   refine Zqt ?_;clear HT;intro wf N PQ FQ;refine NQ ?_;intro ac;have n3:vC wf nb 3 (.slice (some ⟨sb,0,none⟩) 2 2):=Pd
   clear ac;go_wp2_with fail
   refine Z8 [0,2,4,6,8,10,12,14,17,19,21] [11,12,13] (λW=>vC W nb 3 (.slice (some ⟨sb,0,none⟩) 2 2)) n3 λ_=>?_;refine dW ?_
   iterate 8
    refine dV ?_
   refine Zo2 ?_;intro K hK P7;rcases Zf H2.o with⟨⟨c,p⟩,hv,rfl⟩|⟨t6,IZ,hv,zI⟩
   .refine(UV wf.drew rb B _ d _ _ P7.rd (by have:=P7.deep;omega) aA hv λhd h1 w4 hR hs=>HS.o w4 rb B (d+1) _ _ ⟨hR,hd,aA,by have:=P7.le;omega,P7.few⟩ h1).mono ?_;exact Zvi
   have zJ:=lh (Nat.le_of_lt (Leaves.within (Ut f .stmt (d+1) _) t6 IZ hv));have EF:=lh zI;refine(UV wf.drew rb B _ d _ _ P7.rd (by have:=P7.deep;omega) aA hv λhd h1 w4 hR hs=>HS.o w4 rb B (d+1) _ _ ⟨hR,hd,aA,by have:=P7.le;omega,P7.few⟩ h1).mono ?_;rintro e dD⟨a,rfl,hA,bK,dK⟩;have dy:RFr wf dD rb:=(RFr.refl wf rb).drew.trans dK;have eM:=N.o.rfr aA dy;refine sJ ?_;intro ac;have m3:vC dD nb 3 (.slice (some ⟨sb,0,none⟩) 2 2):=Pd
   refine BS ?_;intro mz de dJ aK;have gz:([x,y]).length<=8:=Pg
   refine Xf ?_;intro N3 A3 R3 jd NE;have NA:=lh (show∀z∈(ATree.mk nb (.slice (some ⟨sb,0,none⟩) 2 2) 7 ⟨#[]⟩ 0 [x,y]).blocks,z<wf.drew.heap.size from λz I=>(N.o.new z I).2);refine s5 ?_;intro i0 hi aD bo bT;clear hK K hA bK dy eM ac dJ aK n3 dK hv zI P7;refine ta ?_;intro K hK
   refine step_append_lies _ Po (.tmp 65) (.tmp 70) 40 Po B 22 i0 _ 1 8 Tryz.underlying40 hi aD bo bT rfl Pa (.slice (some ⟨sb,0,none⟩) 2 2) ([x,y]).length (([x,y]).map ATree.ptr) Po (N3.o.at'.rowOf.alloc _) ⟨dD.heap.size,0,none⟩ 1 1 [a.ptr] Po rfl (Ya (cs:=#[a.ptr]) (t:=22) (fr:=(0,0)) (heap_alloc_new dD _)) Pq Pa Pc O' Pp (dD.heap.size+1) Pg ?_;intro gg cap w4 aT aC bX cg
   have m4:vC w4 nb 3 (.slice (some ⟨sb,0,none⟩) 2 2):=(aC.cell_far ⟨nb,3,none⟩ Pe (λe=>NE.o e.symm)).trans ((Zb de).trans m3);refine RF ?_;clear hK K;intro lT;have aj:=Got.push aA HP.o.le N3.o (wA:=wf.drew) NA.o A3.o jd.o R3.o ((Below.refl _ _).alloc (Nat.le_refl _) _) aC aT (bX.imp id λh=>by omega) cg;have ca:=lh aj;clear aj;refine Z0 ?_;clear aC aT bX cg;have pJ:=lh (Yc EF.o).symm;go_wp2;go_ret;rw[pJ.o];refine⟨.mk nb (.slice (some ⟨gg,0,none⟩) (([x,y]:List ATree).length+1) cap) 7 ⟨#[]⟩ 0 ([x,y]++[a]),rfl,?_,ca.o.2.2,ca.o.2.1⟩;have h1:=ca.o.1;have h2:=N.o.tree;exact y8
  .have pZ:aa Uw us=false:=by simpa using he
   have hq:=uG.o;rw[Y3 he]at hq;have pJ:=lh (Yc hq).symm;have HT:=xk wn rb us d Uw PQ.o.rd pZ;unfold Uw at HT;have HT:=lh HT;clear he pZ hq;go_wp2_with fail
   refine HT.o.mono ?_;rintro e wf⟨rfl,kO⟩;have N:=lh (N.o.rfr aA (RFr.below (rb:=rb) kO));have R:=lh (PQ.o.rd.below kO);have FQ:=lh (FQ.o.trans (RFr.below (rb:=rb) kO));clear kO HT;go_wp2;go_ret;rw[pJ.o];exact⟨_,rfl,N.o,R.o,FQ.o⟩
 have u:aa Ia ts=false:=PP
 have hq:=ED.o;rw[Y3 h]at hq;have EG:=lh hq;have HT:=xk IY rb ts d Ia zH.o.rd u;unfold Ia at HT;have HT:=lh HT;clear h u hq;go_wp2_with fail
 refine HT.o.mono ?_;rintro e I0⟨rfl,g⟩;have zK:=lh (zH.o.below g);have EH:=lh (EE.o.trans (RFr.below (rb:=rb) g));clear g HT zH EE ED;by_cases h:aa UF ts=true
 .have hq:=EG.o;rw[Y5 h]at hq;have F:=lh hq;have HT:=wR I0 rb ts d UF zK.o.rd h;unfold UF at HT;have HT:=lh HT;clear h hq;go_wp2_with fail
  refine HT.o.mono ?_;rintro e w2⟨rfl,am,aq⟩;have P2:=lh (zK.o.tail am aq);have F2:=lh (EH.o.trans aq);clear am aq HT;rcases Zf F.o with⟨⟨c,p⟩,hv,rfl⟩|⟨t,vs,hv,fY⟩;·exact Vu
  have HC:=HA.o w2 rb B d _ _ P2.o hv;unfold cQ at HC;refine WV ?_;clear hv fY;intro HC fX fw;go_wp2_with fail
  refine Zpz ?_;intro w3 x hX bK bq P3 F3 X3 xb ij uI;rw[<-ij];clear hX bK bq HC ij;rcases Zf fw.o with⟨⟨c,p⟩,hv,rfl⟩|⟨ty,us,hv,oT⟩;·exact V9
  refine VW ?_;intro HC kq uG;clear hv oT;go_wp2_with fail
  refine UZ ?_;intro w4 y hY hR bh mi kh nT ai;have ax:Below w4.heap.size w4 ((w4.alloc (.cells #[vP xb,vP y.b] 22)).alloc (.cells #[vI 8,.string ⟨#[]⟩,vI 0,.slice (some ⟨w4.heap.size,0,none⟩) 2 2] 42)):=ai.alloc Pg _;have hA:=Got.two (k:=8) (t:=⟨#[]⟩) HP.o.le kh mi (wA:=w3) (λz I=>(X3.o.new z I).2) F3.o.size hY;have am:=hR.below ax;have aq:=kh.trans (RFr.below (rb:=rb) ax)
  have HN:=lh (Zv (w4.alloc (.cells #[vP xb,vP y.b] 22)) rb 8 ⟨#[]⟩ (some ⟨w4.heap.size,0,none⟩) 2 2);obtain⟨sb,aN⟩:=zX w4.heap.size
  rw[<-aN]at HN hA ax am aq;have cJ:=lh aN;go_wp2_with fail
  rw[<-cJ.o];refine VM ?_;intro wn jE aX be;rw[be];obtain⟨nb,dw⟩:=zX (sb+1)
  rw[<-dw]at hA ⊢;have hA:Got w B wn (.mk nb (.slice (some ⟨sb,0,none⟩) 2 2) 8 ⟨#[]⟩ 0 [x,y]) (.mk 8 ⟨#[]⟩ 0 [t,ty]):=Q3
  exact Yr
 have u:aa UF ts=false:=PP
 have hq:=EG.o;rw[Y3 h]at hq;have EI:=lh hq;have HT:=xk I0 rb ts d UF zK.o.rd u;unfold UF at HT;have HT:=lh HT;clear h u hq;go_wp2_with fail
 refine HT.o.mono ?_;rintro e I1⟨rfl,g⟩;have zO:=lh (zK.o.below g);have EJ:=lh (EH.o.trans (RFr.below (rb:=rb) g));clear g HT zK EH EG;by_cases h:aa UC ts=true
 .have hq:=EI.o;rw[Y5 h]at hq;have F:=lh hq;have HT:=wR I1 rb ts d UC zO.o.rd h;unfold UC at HT;have HT:=lh HT;clear h hq;go_wp2_with fail
  refine HT.o.mono ?_;rintro e w2⟨rfl,am,aq⟩;have P2:=lh (zO.o.tail am aq);have F2:=lh (EJ.o.trans aq);clear am aq HT;rcases Zf F.o with⟨⟨c,p⟩,hv,rfl⟩|⟨t,vs,hv,fY⟩;·exact Vu
  have HC:=HA.o w2 rb B d _ _ P2.o hv;unfold cQ at HC;refine WV ?_;clear hv fY;intro HC fX fw;go_wp2_with fail
  refine Zpz ?_;intro w3 x hX bK bq P3 F3 X3 xb ij uI;rw[<-ij];clear hX bK bq HC ij;rcases Zf fw.o with⟨⟨c,p⟩,hv,rfl⟩|⟨ty,us,hv,oT⟩;·exact V9
  refine VW ?_;intro HC kq uG;clear hv oT;go_wp2_with fail
  refine UZ ?_;intro w4 y hY hR bh mi kh nT ai;have ax:Below w4.heap.size w4 ((w4.alloc (.cells #[vP xb,vP y.b] 22)).alloc (.cells #[vI 9,.string ⟨#[]⟩,vI 0,.slice (some ⟨w4.heap.size,0,none⟩) 2 2] 42)):=ai.alloc Pg _;have hA:=Got.two (k:=9) (t:=⟨#[]⟩) HP.o.le kh mi (wA:=w3) (λz I=>(X3.o.new z I).2) F3.o.size hY;have am:=hR.below ax;have aq:=kh.trans (RFr.below (rb:=rb) ax)
  have HN:=lh (Zv (w4.alloc (.cells #[vP xb,vP y.b] 22)) rb 9 ⟨#[]⟩ (some ⟨w4.heap.size,0,none⟩) 2 2);obtain⟨sb,aN⟩:=zX w4.heap.size
  rw[<-aN]at HN hA ax am aq;have cJ:=lh aN;go_wp2_with fail
  rw[<-cJ.o];refine VM ?_;intro wn jE aX be;rw[be];obtain⟨nb,dw⟩:=zX (sb+1)
  rw[<-dw]at hA ⊢;have hA:Got w B wn (.mk nb (.slice (some ⟨sb,0,none⟩) 2 2) 9 ⟨#[]⟩ 0 [x,y]) (.mk 9 ⟨#[]⟩ 0 [t,ty]):=Q3
  exact Yr
 have u:aa UC ts=false:=PP
 have hq:=EI.o;rw[Y3 h]at hq;have EK:=lh hq;have HT:=xk I1 rb ts d UC zO.o.rd u;unfold UC at HT;have HT:=lh HT;clear h u hq;go_wp2_with fail
 refine HT.o.mono ?_;rintro e I2⟨rfl,g⟩;have zP:=lh (zO.o.below g);have EL:=lh (EJ.o.trans (RFr.below (rb:=rb) g));clear g HT zO EJ EI;by_cases h:aa UL ts=true
 .have hq:=EK.o;rw[Y5 h]at hq;have F:=lh hq;have HT:=wR I2 rb ts d UL zP.o.rd h;unfold UL at HT;have HT:=lh HT;clear h hq;go_wp2_with fail
  refine HT.o.mono ?_;rintro e w2⟨rfl,am,aq⟩;have P2:=lh (zP.o.tail am aq);have F2:=lh (EL.o.trans aq);clear am aq HT;have HN:=lh (Zv w2 rb 10 ⟨#[]⟩ none 0 0);obtain⟨nb,dw⟩:=zX w2.heap.size
  have U:=Got.leaf (k:=10) (t:=⟨#[]⟩) (n:=0) HP.o.le F2.o;have X:Below w2.heap.size w2 (w2.alloc (.cells #[vI 10,.string ⟨#[]⟩,vI 0,.slice none 0 0] 42)):=(Y2 _ _).alloc (Y0 _) _;have P3:=P2.o.below X;have F3:=F2.o.trans (RFr.below (rb:=rb) X);rw[<-dw]at HN U;go_wp2_with fail
  refine HN.o.mono ?_;rintro e w3⟨rfl,kF⟩;rw[<-kF]at U P3 F3;have N:=lh U;have PQ:=lh P3;have FQ:=lh F3;clear U P3 F3 X kF HN dw;by_cases Y:aa Ed ts.tail=true
  .have hq:=F.o;rw[Y5 Y]at hq;have E:=LI w3 rb ts.tail d Ed PQ.o.rd;rw[Y]at E;unfold Ed at E;have E:=lh E;have fw:=lh hq;clear hq Y;go_wp2_with fail
   refine E.o.mono ?_;rintro e w4⟨rfl,eQ⟩;have HE:=Zc8 w w4 rb B d _ _ _ r (PQ.o.below eQ) (N.o.rfr aA (RFr.below (rb:=rb) eQ)) (FQ.o.trans (RFr.below eQ)) fw.o;simp only[ATree.b]at HE;have HE:=lh HE;clear eQ E;exact Ug
  have zQ:aa Ed ts.tail=false:=by simpa using Y
  have hq:=F.o;rw[Y3 Y]at hq;have E:=LI w3 rb ts.tail d Ed PQ.o.rd;rw[zQ]at E;unfold Ed at E;have E:=lh E;have H2:=lh hq;clear hq Y zQ;go_wp2_with fail
  refine E.o.mono ?_;refine Zq7 ?_;intro wf kO N PQ FQ;clear kO E;refine NQ ?_;intro ac;have n3:vC wf nb 3 (.slice none 0 0):=Pd
  clear ac;go_wp2_with fail
  refine Z8 [0,2,4,6,8,10,13,15,17] [9,10,11] (λW=>vC W nb 3 (.slice none 0 0)) n3 λ_=>?_;refine dW ?_
  iterate 6
   refine dV ?_
  refine Zo2 ?_;intro K hK P7;rcases Zf H2.o with⟨⟨c,p⟩,hv,rfl⟩|⟨t6,IZ,hv,zI⟩
  .refine(O.o wf.drew rb B d _ _ P7 hv).mono ?_;exact Zvi
  have zJ:=lh (RX hv);have EF:=lh zI;refine(O.o wf.drew rb B d _ _ P7 hv).mono ?_;rintro e dD⟨a,rfl,hA,bK,dK⟩;have dy:RFr wf dD rb:=(RFr.refl wf rb).drew.trans dK;have eM:=N.o.rfr aA dy;refine sJ ?_;intro ac;have m3:vC dD nb 3 (.slice none 0 0):=Pd
  refine BS ?_;intro mz de dJ aK;have gz:(([]:List ATree)).length<=8:=Pg
  refine Xf ?_;intro N3 A3 R3 jd NE;have NA:=lh (show∀z∈(ATree.mk nb (.slice none 0 0) 10 ⟨#[]⟩ 0 ([]:List ATree)).blocks,z<wf.drew.heap.size from λz I=>(N.o.new z I).2);refine s5 ?_;intro i0 hi aD bo bT;clear hK K hA bK dy eM ac dJ aK n3 dK hv zI P7;refine ta ?_;intro K hK
  refine step_append_lies _ Po (.tmp 113) (.tmp 116) 40 Po B 22 i0 _ 1 8 Tryz.underlying40 hi aD bo bT rfl Pa (.slice none 0 0) (([]:List ATree)).length ((([]:List ATree)).map ATree.ptr) Po (N3.o.at'.rowOf.alloc _) ⟨dD.heap.size,0,none⟩ 1 1 [a.ptr] Po rfl (Ya (cs:=#[a.ptr]) (t:=22) (fr:=(0,0)) (heap_alloc_new dD _)) Pq Pa Pc O' Pp (dD.heap.size+1) Pg ?_
  intro gg cap w4 aT aC bX cg;have m4:vC w4 nb 3 (.slice none 0 0):=(aC.cell_far ⟨nb,3,none⟩ Pe (λe=>NE.o e.symm)).trans ((Zb de).trans m3);refine RF ?_;clear hK K;intro lT;have aj:=Got.push aA HP.o.le N3.o (wA:=wf.drew) NA.o A3.o jd.o R3.o ((Below.refl _ _).alloc (Nat.le_refl _) _) aC aT (bX.imp id λh=>by omega) cg;have ca:=lh aj;clear aj;refine Z0 ?_;clear aC aT bX cg;have HE:=Zc8 w _ rb B d _ _ _ r (HP.o.next ca.o.2.2 ca.o.2.1 (by have:=zJ.o;have:=Zu ts;omega)) ca.o.1 ca.o.2.1 EF.o;simp only[ATree.b]at HE;have HE:=lh HE;clear ca;exact Ug
 have u:aa UL ts=false:=PP
 have hq:=EK.o;rw[Y3 h]at hq;have EM:=lh hq;have HT:=xk I2 rb ts d UL zP.o.rd u;unfold UL at HT;have HT:=lh HT;clear h u hq;go_wp2_with fail
 refine HT.o.mono ?_;rintro e I3⟨rfl,g⟩;have zR:=lh (zP.o.below g);have EN:=lh (EL.o.trans (RFr.below (rb:=rb) g));clear g HT zP EL EK;by_cases h:aa UM ts=true
 .have hq:=EM.o;rw[Y5 h]at hq;have F:=lh hq;have HT:=wR I3 rb ts d UM zR.o.rd h;unfold UM at HT;have HT:=lh HT;clear h hq;go_wp2_with fail
  refine HT.o.mono ?_;rintro e w2⟨rfl,am,aq⟩;have P2:=lh (zR.o.tail am aq);have F2:=lh (EN.o.trans aq);clear am aq HT;rcases Zf F.o with⟨⟨c,p⟩,hv,rfl⟩|⟨t,vs,hv,fY⟩
  .have HC:=O.o w2 rb B d _ _ P2.o hv;unfold cQ at HC;exact Sg
  have HC:=O.o w2 rb B d _ _ P2.o hv;unfold cQ at HC;refine WV ?_;clear hv fY;intro HC fX fw;go_wp2_with fail
  refine HC.o.mono ?_;rintro e w4⟨x,rfl,hX,hR,bh⟩;have mi:=hX.pre F2.o;have kh:=F2.o.trans bh;have ai:Below w4.heap.size w4 (w4.alloc (.cells #[vP x.b] 22)):=(Y2 _ _).alloc (Y0 _) _;have ax:Below w4.heap.size w4 ((w4.alloc (.cells #[vP x.b] 22)).alloc (.cells #[vI 11,.string ⟨#[]⟩,vI 0,.slice (some ⟨w4.heap.size,0,none⟩) 1 1] 42)):=ai.alloc Pg _;have hA:=Got.one (k:=11) (t:=⟨#[]⟩) HP.o.le kh mi;have am:=hR.below ax
  have aq:=kh.trans (RFr.below (rb:=rb) ax);have HN:=lh (Zv (w4.alloc (.cells #[vP x.b] 22)) rb 11 ⟨#[]⟩ (some ⟨w4.heap.size,0,none⟩) 1 1);obtain⟨sb,aN⟩:=zX w4.heap.size
  rw[<-aN]at HN hA ax am aq;have cJ:=lh aN;go_wp2_with fail
  rw[<-cJ.o];refine Zw8 ?_;intro wn jE aX be;rw[be];obtain⟨nb,dw⟩:=zX (sb+1)
  rw[<-dw]at hA ⊢;have hA:Got w B wn (.mk nb (.slice (some ⟨sb,0,none⟩) 1 1) 11 ⟨#[]⟩ 0 [x]) (.mk 11 ⟨#[]⟩ 0 [t]):=by rw[jE];exact hA
  exact YM
 have u:aa UM ts=false:=PP
 have hq:=EM.o;rw[Y3 h]at hq;have vA:=lh hq;have HT:=xk I3 rb ts d UM zR.o.rd u;unfold UM at HT;have HT:=lh HT;clear h u hq;go_wp2_with fail
 refine HT.o.mono ?_;rintro e zS⟨rfl,g⟩;have p9:=lh (zR.o.below g);have vB:=lh (EN.o.trans (RFr.below (rb:=rb) g));clear g HT zR EN EM;by_cases h:aa Uz ts=true
 .have hq:=vA.o;rw[Y5 h]at hq;have F:=lh hq;have HT:=wR zS rb ts d Uz p9.o.rd h;unfold Uz at HT;have HT:=lh HT;clear h hq;go_wp2_with fail
  refine HT.o.mono ?_;rintro e w2⟨rfl,am,aq⟩;have P2:=lh (p9.o.tail am aq);have F2:=lh (vB.o.trans aq);clear am aq HT;have HC:=kA.o w2 rb B d _ r P2.o F.o;unfold cQ at HC;have HC:=lh HC;exact ZX
 have u:aa Uz ts=false:=PP
 have hq:=vA.o;rw[Y3 h]at hq;have EO:=lh hq;have HT:=xk zS rb ts d Uz p9.o.rd u;unfold Uz at HT;have HT:=lh HT;clear h u hq;go_wp2_with fail
 refine HT.o.mono ?_;rintro e EP⟨rfl,g⟩;have EQ:=lh (p9.o.below g);have ER:=lh (vB.o.trans (RFr.below (rb:=rb) g));clear g HT p9 vB vA;obtain⟨w2,rfl⟩:∃w2:World,w2=EP:=⟨_,rfl⟩
 have P2:=EQ;have F2:=ER;have F:=EO;rcases Zf F.o with⟨⟨c,p⟩,hv,rfl⟩|⟨t,vs,hv,fY⟩
 .have HC:=O.o w2 rb B d _ _ P2.o hv;unfold cQ at HC;exact Sg
 have HC:=O.o w2 rb B d _ _ P2.o hv;unfold cQ at HC;refine WV ?_;clear hv fY;intro HC fX fw;go_wp2_with fail
 refine HC.o.mono ?_;rintro e w4⟨x,rfl,hX,hR,bh⟩;have mi:=hX.pre F2.o;have kh:=F2.o.trans bh;have ai:Below w4.heap.size w4 (w4.alloc (.cells #[vP x.b] 22)):=(Y2 _ _).alloc (Y0 _) _;have ax:Below w4.heap.size w4 ((w4.alloc (.cells #[vP x.b] 22)).alloc (.cells #[vI 15,.string ⟨#[]⟩,vI 0,.slice (some ⟨w4.heap.size,0,none⟩) 1 1] 42)):=ai.alloc Pg _;have hA:=Got.one (k:=15) (t:=⟨#[]⟩) HP.o.le kh mi;have am:=hR.below ax;have aq:=kh.trans (RFr.below (rb:=rb) ax)
 have HN:=lh (Zv (w4.alloc (.cells #[vP x.b] 22)) rb 15 ⟨#[]⟩ (some ⟨w4.heap.size,0,none⟩) 1 1);obtain⟨sb,aN⟩:=zX w4.heap.size
 rw[<-aN]at HN hA ax am aq;have cJ:=lh aN;go_wp2_with fail
 rw[<-cJ.o];refine Zw8 ?_;intro wn jE aX be;rw[be];obtain⟨nb,dw⟩:=zX (sb+1)
 rw[<-dw]at hA ⊢;have hA:Got w B wn (.mk nb (.slice (some ⟨sb,0,none⟩) 1 1) 15 ⟨#[]⟩ 0 [x]) (.mk 15 ⟨#[]⟩ 0 [t]):=by rw[jE];exact hA
 exact YM
structure AllSay(f:Nat):Prop where
 stmt:c9 65 cQ .stmt f
 value:c9 102 cQ .value f
 assign:c9 127 cQ .assign f
 bin:∀lv,lv<=6->c9 137 (yS lv) (.bin lv) f
 unary:c9 149 cQ .unary f
 postfix_:c9 162 cQ .postfix_ f
 primary:c9 164 cQ .primary f
 around:c9 101 cQ .around f
 func:∀k s,c9 99 (λrb=>#[vP rb,vI k,.string s]) (.func k s) f
 object:c9 166 cQ (.object []) f
 block:∀b,c9 95 (λrb=>#[vP rb,.bool b]) (.block b) f
 stmts:c9 27 (λrb=>#[vP rb,vI 6,.string Zp]) (.stmts 6 []) f
 try_:c9 103 cQ .try_ f
 decl:∀k m,c9 98 (λrb=>#[vP rb,vI k,.bool m]) (.decl k m) f
theorem RE{F:FuncId}{args:Nat->Array Value}{g:Job}:c9 F args g 0:=by
 intro w rb B d ts r _ h;cases h
theorem Zqh:∀f,AllSay f:=by
 intro f;induction f using Nat.strongRecOn with
 | _ f o =>
   cases f with
   |zero=>exact⟨RE,RE,RE,λ_ _=>RE,RE,RE,RE,RE,λ_ _=>RE,RE,λ_=>RE,RE,RE,λ_ _=>RE⟩
   | succ f =>
     have I:=o f (Nat.lt_succ_self f)
     refine⟨Zlk f (I.block false) I.decl (I.func 5) I.around I.stmt I.value I.try_,Zi8 f I.assign,Zg4 f (I.bin 0 O') I.value,λlv y=>?_,Zhv f I.unary I.postfix_,Zdw f I.primary (λg p=>(o g O').value),Zcs f I.around (I.func 37) I.object,Zfw f I.value,
      λk s=>Zm4 f k s (I.block true),Zfz (f+1) (λg p=>(o g p).value),λb=>Zj5 f b I.stmts,Zhp (f+1) (λg p=>(o g p).stmt),Zny f (I.block false),λk m=>Zlo f k m I.value⟩
     by_cases u:lv=6;·subst u;exact Zkp f I.unary
     .exact Zoq f lv O' λg p=>(o g O').bin (lv+1) O'
theorem Zot(f:Nat):c9 27 (λrb=>#[vP rb,vI 1,.string ⟨#[]⟩]) (.stmts 1 []) f:=
 Zkd f λg _=>(Zqh g).stmt
theorem Zs9(E:Addr){σ:Type}(Inv:σ->World->Prop)(g:σ->ATree->Bool×σ)(B:Nat):∀(m:Nat) (a:ATree),a.many<=m->(∀s w,Inv s w->TreeAt w B a)->
 (∀x∈a.subs,∀s w,Inv s w->Calls Tryz.prog 29 #[x.ptr,.pointer (some E)] w λe w'=>e=.returned (.bool (g s x).1)∧Inv (g s x).2 w')->
 ∀s w,Inv s w->Calls Tryz.prog 28 #[a.ptr,.func (.func 29) #[] #[.pointer (some E)]] w λe w'=>e=.returned (.tuple #[])∧Inv (uR g a s) w':=by
 intro m;induction m with
 |zero=>intro a h;exfalso;cases a;simp[ATree.many]at h
 | succ m F =>
   intro a I J o s w hI;have U:=lh F;have HT:=lh J;have X:=lh o;have Y:=lh I;have HC:=o a (Z7w a) s w hI;rw[Z91];unfold ATree.ptr at HC ⊢;obtain⟨ok,s1,O⟩:∃ok s1,g s a=(ok,s1):=⟨_,_,rfl⟩
   rw[O]at HC ⊢;have HC:=lh HC;clear F J o I hI O;cases ok;·exact XG
   .simp only[if_true];go_enter Tryz.func28,Tryz.ntmps28
    go_wp2_with fail
    refine Zu7 ?_;intro w1 gj ni ac ae p cp hv;rw[hv]at ac;refine Zuo ?_;intro c3 aH eL HV n hn;rw[<-hn]at c3 aH;have HN:=lh hn;clear gj ni ac ae hv hn HC;go_wp2_with fail
    go_loopw [19] (λi wr=>∃k:Nat,k<=n∧i=(vI k)∧Hid (Inv (rf g (a.kids.take k) s1) wr)) (λi _=>n-(intOf i).toNat)
    case atStart=>exact⟨0,Yh _,rfl,lh (by simpa[rf]using eL.o)⟩
    case round=>
     obtain⟨k,hk,rfl,u⟩:=hrel;by_cases bV:k<n
     .obtain⟨x,hx⟩:∃x,a.kids[k]? =some x:=⟨_,Y6 Pu⟩
      have eK:=HT.o _ _ u.o;have ae:=eK.rowOf;rcases Z4 ae with⟨_,h2⟩|⟨g0,gf,fG,k1,k2,k3⟩;·rw[<-HN.o]at h2;omega
      have hp:p=some ⟨g0,0,none⟩:=by
       exact S6
      subst hp;refine NP ?_;intro cx;unfold ATree.ptr at cx;have aU:x∈a.kids:=Yd hx;have cX:=U.o x (by have:=WQ aU;have:=Y.o;omega) (λs w h=>(HT.o s w h).kid aU) (λy Z=>X.o y (Zcf aU Z)) _ _ u.o;exact tr3
     .have aR:k=n:=by omega
      subst aR;go_wp2;go_end0
      refine⟨rfl,?_⟩;have:=u.o;rwa[Ye PS]at this
theorem Z5r{P:Program}{f:FuncId}{g:Func}{c:Code}{args:Array Value}{u:FrameMode}{w:World}{R:Ending->FrameMode->World->Prop}
 (hf:P.funcs[f]?=some g)(hb:g.body=some c)(T:Array Value)(m:args++Array.replicate (g.ntmps-args.size) undef=T)
 (h:∀(c₀:Frame) (cs:List Frame),c₀.mode=u->c.wpS P (bodyPostS P g c₀ cs R) {tmps:=T,defers:=[]} (c₀::cs) w):CallsD P f args u w R:=
 callsD_of_wpS hf hb (by rw[m];exact h)
theorem Tryz.asFault(v:Value)(w:World):(Instr.typeAssert (.iface 83 v) 20 83 true).run Tryz.prog w=.ok (.tuple #[v,.bool true]) w:=by kernel_rfl
theorem Zb6(p q:Addr)(w:World) :
 CallsD Tryz.prog 26 #[.pointer (some p),.pointer (some q)] .returning w λe g w'=>e=.returned (.tuple #[])∧g=.returning∧w'=w:=by
 refine Z5r Tryz.func26 rfl #[.pointer (some p),.pointer (some q),undef,undef,undef,undef,undef,undef,undef,undef,undef,undef,undef,undef,undef,undef,undef,undef] Po λc₀ cs m=>?_;apply wpS_seq;apply wpS_region;simp[wpOpsS,go_sem,recoverD,m,Exit.thenS];refine wpS_of_wp ?_;go_wp2;cases c₀;simp_all[bodyPostS,results,Tryz.results26]
def X8(w:World)(pb g:Nat)(x:Value)(w':World):Prop:=
 w'.heap[pb]?=some (.cells #[.pointer none] 22 (0,0))∧w'.heap[g]?=some (.cells #[x] 31 (0,0))∧w'.os=w.os∧w'.tape=w.tape∧w'.output=w.output∧w.heap.size<=w'.heap.size∧∀k,k<w.heap.size->k≠pb->k≠g->w'.heap[k]?=w.heap[k]?
theorem Zd4{w w1:World}{pb m:Nat}{x x0 u:Value}(hp:w.heap[pb]?=some (.cells #[x0] 22 (0,0)))(hq:w.heap[m]?=some (.cells #[u] 31 (0,0)))(p:pb≠m)(g:Below w.heap.size w w1) :
 X8 w pb m x ((w1.setCell ⟨pb,0,none⟩ (.pointer none)).setCell ⟨m,0,none⟩ x):=by
 have y:pb<w.heap.size:=(Y1.1 hp).1;have E:m<w.heap.size:=(Y1.1 hq).1;refine⟨?_,?_,g.os,g.tape,g.output,by rw[Yf,Yf];exact g.size,λk hk F G=>?_⟩;·exact(Y8 _ _ _ _ p).trans (Zh (o:=0) _ ((g.block pb y).trans hp))
 .exact Zh (o:=0) _ ((Y8 _ _ _ _ (Ne.symm p)).trans ((g.block m E).trans hq))
 .exact(Y8 _ _ _ _ G).trans ((Y8 _ _ _ _ F).trans (g.block k hk))
theorem X8.below{w w1 w2:World}{pb m:Nat}{x:Value}(h:X8 w pb m x w1)(g:Below w1.heap.size w1 w2):X8 w pb m x w2:=by
 obtain⟨o,p,y,E,h5,u,F⟩:=h;refine⟨(g.block pb (Y1.1 o).1).trans o,(g.block m (Y1.1 p).1).trans p,g.os.trans y,g.tape.trans E,g.output.trans h5,Y4 u g.size,λk hk a b=>(g.block k (Y7 hk u)).trans (F k hk a b)⟩
theorem Zfr(pb g:Nat)(b:Nat)(o:List PanicEntry)(w:World)(x0 p:Value)(hp:w.heap[pb]?=some (.cells #[x0] 22 (0,0)))(hq:w.heap[g]?=some (.cells #[p] 31 (0,0)))(u:pb≠g) :
 CallsD Tryz.prog 26 #[vP pb,vP g] (.panicking ({v:=.iface 83 (.agg #[.iface 142 (vP b)]),recovered:=false}::o)) w λe E w'=>
  e=.returned (.tuple #[])∧E=.panicking ({v:=.iface 83 (.agg #[.iface 142 (vP b)]),recovered:=true}::o)∧X8 w pb g (.iface 142 (vP b)) w':=by
 have F:pb<w.heap.size:=(Y1.1 hp).1;have I:g<w.heap.size:=(Y1.1 hq).1;have J:vC w pb 0 x0:=by simp[vC,World.cell?,hp]
 have O:vC w g 0 p:=by simp[vC,World.cell?,hq]
 have U:w.frozen? ⟨pb,0,none⟩=false:=by simp[World.frozen?,hp]
 have X:w.frozen? ⟨g,0,none⟩=false:=by simp[World.frozen?,hq]
 have Y:=Tryz.asFault (.agg #[.iface 142 (vP b)]);refine Z5r Tryz.func26 rfl #[vP pb,vP g,undef,undef,undef,undef,undef,undef,undef,undef,undef,undef,undef,undef,undef,undef,undef,undef] Po λc₀ cs y=>?_;apply wpS_seq;apply wpS_region;simp[wpOpsS,go_sem,recoverD,y,Exit.thenS];refine wpS_of_wp ?_;clear y;go_wp2;go_region
 have m:=((Zd4 (x:=.iface 142 (vP b)) hp hq u (Y2 _ w)).below ((Y2 _ _).alloc (Y0 _) (.cells #[.iface 142 (vP b)] 83))).below (Y2 _ _).drew;have m:=lh m;clear hp hq u F I J O U X Y;show bodyPostS _ _ _ _ _ Exit.normal _ _ _;cases c₀;simp[bodyPostS,results,Tryz.results26];exact m.o
theorem Zft(w:World)(text:ByteArray)(g:3000<text.size) :
 Calls Tryz.prog 25 #[.string text] w λe w'=>e=.returned (.tuple #[.slice none 0 0,.iface 34 (vI 4)])∧w=w':=by
 have m:(3000:Int)<text.size:=O'
 go_enter Tryz.func25,Tryz.ntmps25
 go_wp2;go_ret2
 exact⟨rfl,rfl⟩
def Zpl(w':World)(base:Nat)(x:Value)(c p:Int):Prop:=(p=-1∧x=.iface 34 (vI c))∨∃q:Nat,p=q∧Zsh w' base x c q
def WM(w:World)(r:Except (Int×Int) Tree)(e:Ending)(w':World):Prop:=
 Below w.heap.size w w'∧match r with
 | .ok t=>∃a,e=.returned (.tuple #[vP a.b,.nilIface])∧Got w w.heap.size w' a t
 | .error (c,p)=>∃x,e=.returned (.tuple #[.pointer none,x])∧Zpl w' w.heap.size x c p
def LD(w:World):World:=(w.alloc (.cells #[.pointer none] 22)).alloc (.cells #[.nilIface] 31)
theorem Za3(w:World):(LD w).heap[w.heap.size]?=some (.cells #[.pointer none] 22 (0,0))∧(LD w).heap[w.heap.size+1]?=some (.cells #[.nilIface] 31 (0,0))∧(LD w).heap.size=w.heap.size+2∧Below w.heap.size w (LD w):=by
 have g:Below w.heap.size w (w.alloc (.cells #[.pointer none] 22)):=(Y2 _ _).alloc (Y0 _) _;have m:Below (w.alloc (.cells #[.pointer none] 22)).heap.size (w.alloc (.cells #[.pointer none] 22)) (LD w):=(Y2 _ _).alloc (Y0 _) _;have o:(w.alloc (.cells #[.pointer none] 22)).heap.size=w.heap.size+1:=Pg
 refine⟨?_,?_,by simp[LD],g.alloc Pg _⟩;·rw[m.block w.heap.size O'];exact heap_alloc_new w _
 .have:=heap_alloc_new (w.alloc (.cells #[.pointer none] 22)) (.cells #[.nilIface] 31);rw[o]at this;exact this
theorem Z6p{R:Ending->World->Prop}{tmps:Array Value}{W:World}{pb eb:Nat}{x y:Value}(h2:tmps.getD 2 undef=(vP pb))(h3:tmps.getD 3 undef=(vP eb))
 (c1:vC W pb 0 x)(c2:vC W eb 0 y)(g:R (.returned (.tuple #[x,y])) W):Go.Leaves Tryz.prog Tryz.f9 tmps R [] .returning W:=by
 refine⟨.tuple #[x,y],?_,g⟩;have m:tmps[2]?.getD undef=(vP pb):=Q6
 have o:tmps[3]?.getD undef=(vP eb):=Ro
 simp[results,Tryz.results9,go_sem,m,o,c1,c2]
theorem WM.bad{w w1 W:World}{c p:Int}{x:Value}(hx:Zpl w1 (w.heap.size+2) x c p)(g:Below w.heap.size w w1)(m:∀k,k<w1.heap.size->k≠w.heap.size->k≠w.heap.size+1->W.heap[k]?=w1.heap[k]?)(hs:w1.heap.size<=W.heap.size)
 (ho:W.os=w1.os)(ht:W.tape=w1.tape)(u:W.output=w1.output):WM w (.error (c,p)) (.returned (.tuple #[.pointer none,x])) W:=by
 refine⟨⟨ho.trans g.os,ht.trans g.tape,u.trans g.output,Y4 g.size hs,λk hk=>(m k (Y7 hk g.size) O' O').trans (g.block k hk)⟩,x,rfl,?_⟩;rcases hx with h|⟨q,hq,b,y,E,o⟩;·exact .inl h
 .exact .inr ⟨q,hq,b,y,by omega,(m b (Y1.1 o).1 O' O').trans o⟩
theorem Zdt(w:World)(text:ByteArray)(c p:Int)(g:Calls Tryz.prog 25 #[.string text] (LD w) λe w'=>(∃x,e=.returned (.tuple #[.slice none 0 0,x])∧Zpl w' (LD w).heap.size x c p)∧Below (LD w).heap.size (LD w) w') :
 Calls Tryz.prog 9 #[.string text] w (WM w (.error (c,p))):=by
 obtain⟨F,I,J,O⟩:=Za3 w;have K1:=lh F;have K2:=lh I;have K3:=lh J;have o:=lh O;obtain⟨w0,m⟩:=zX (LD w)
 rw[<-m]at g K1 K2 K3 o;unfold LD at m;have X:=lh m;have g:=lh g;clear m F I J O;go_enter_defers Tryz.func9,Tryz.ntmps9
 go_wp2_with fail
 rw[<-X.o];refine g.o.mono ?_;rintro e w1⟨⟨x,rfl,hx⟩,hB⟩;refine Zud ?_;intro b1 b2 pb li eb pr;rw[<-pr]at b2;rw[<-li]at b1;rw[<-pr,<-li];refine Zuz ?_;intro c1 c2 z1 z2;have aK:pb≠eb:=O'
 have ku:pb<w1.heap.size:=(Y1.1 b1).1;have ny:eb<w1.heap.size:=(Y1.1 b2).1;have Y:=lh hx;have Z:=lh hB;have vD:=lh li;have sz:=lh pr;have B1:=lh b1;have B2:=lh b2;obtain⟨tx,u,LJ⟩:∃tx u,x=.iface tx u:=by
  rcases hx with⟨_,rfl⟩|⟨q,_,b,rfl,_⟩;·exact⟨_,_,rfl⟩
  .exact⟨_,_,rfl⟩
 subst LJ;clear hx hB li pr b1 b2 g;go_wp2_with fail
 go_region
 go_wp2;refine Z6p (pb:=pb) (eb:=eb) rfl rfl (x:=.pointer none) (y:=.iface tx u) ?_ ?_ ?_;·unfold vC;go_simp
 .unfold vC;go_simp
 .refine WM.bad (w1:=w1) (by have :=Y.o;rwa[K3.o]at this) (o.o.trans (Z.o.mono o.o.size)) (λk hk U E=>?_) ?_ rfl rfl rfl
  .rw[<-vD.o]at U;rw[<-sz.o]at E;exact((Y8 _ _ _ _ E).trans (Y8 _ _ _ _ U)).trans (Y8 _ _ _ _ E)
  .show _<=(World.setCell _ _ _).heap.size;rw[Yf,Yf,Yf];exact Y0 _
theorem B7.mono{w:World}{rb g:Nat}(h:B7 w rb)(hr:rb<=g):B7 w g:=by
 intro lv hl;obtain⟨b,off,cap,o,p,m⟩:=h lv hl;exact⟨b,off,cap,by omega,by omega,m⟩
theorem Rd.new{w1 w2:World}{base rb:Nat}{ts:List Tok}{v:Value}(m:w1.ownsRow base 141 4 v ts.length (ts.flatMap Tok.cells))(hl:∃l e,ts=l++[e]∧e.kind=6∧∀t∈l,t.kind≠6)
 (hb:w2.heap[rb]?=some (.cells #[v,vI 0] 87 (0,0)))(hr:rb=w1.heap.size)(hk:∀k,k<w1.heap.size->v.ownBlock=some k->w2.heap[k]?=w1.heap[k]?)(hs:w1.heap.size<=w2.heap.size)(u:B7 w2 rb):Rd w2 rb ts 0:=by
 have F:0<ts.length:=by obtain⟨l,e,h,_⟩:=hl;rw[h];simp
 rcases Z4 m with⟨_,o⟩|⟨g,cap,rfl,y,o,G⟩;·omega
 have p:g<w1.heap.size:=(m.lt g rfl).2;refine⟨g,0,cap,⟨hb,y,o,by omega,Y7 p hs,λk t j x hi E=>?_,hl,u⟩⟩;have:=Md (f:=Tok.cells) (λ_=>rfl) m (g:=g) rfl hi E;rw[Nat.zero_add];exact(Yb (hk g p rfl)).trans this
theorem Zm3(c:Int):IntKind.i64.wrap (IntKind.i64.wrap c+1)=IntKind.i64.wrap (c+1):=by
 simp only[IntKind.wrap_i64];omega
def XC(g:World)(B mb:Nat)(a:ATree)(c:Nat)(W:World):Prop:=
 TreeAt W B a∧W.heap[mb]?=some (.cells #[vI (IntKind.i64.wrap c)] 3 (0,0))∧W.os=g.os∧W.tape=g.tape∧W.output=g.output∧g.heap.size<=W.heap.size∧∀k,k<g.heap.size->k≠mb->W.heap[k]?=g.heap[k]?
def Sj(c:Nat)(x:ATree):Bool×Nat:=(true,c+1)
mutual
theorem Zgp:∀(a:ATree) (c:Nat),uR Sj a c=c+a.many
 | .mk b v k t n l,c=>by simp only[uR,Sj,if_true,ATree.many];rw[Zdn l];omega
theorem Zdn:∀(l:List ATree) (c:Nat),rf Sj l c=c+xQ l
 | [],c=>by simp[rf,xQ]
 |a::l,c=>by simp only[rf,xQ];rw[Zgp a,Zdn l];omega
end
theorem Zs3(g:World)(B mb:Nat)(a x:ATree)(E:mb<B∨mb∉a.blocks)(X:mb<g.heap.size)(c:Nat)(w:World)(hI:XC g B mb a c w) :
 Calls Tryz.prog 29 #[x.ptr,vP mb] w λe w'=>e=.returned (.bool (Sj c x).1)∧XC g B mb a (Sj c x).2 w':=by
 obtain⟨p,m,F,G,h5,I,J⟩:=hI;have c1:vC w mb 0 (vI (IntKind.i64.wrap c)):=by simp[vC,World.cell?,m]
 have Y:w.frozen? ⟨mb,0,none⟩=false:=by simp[World.frozen?,m]
 have hn:mb∉a.blocks:=by
  rcases E with h|h;·intro hx;have:=(p.has mb hx).1;omega
  .exact h
 obtain⟨y,u⟩:∃y,y=IntKind.i64.wrap (c:Int):=⟨_,rfl⟩
 rw[<-u]at c1;have H:Hid (XC g B mb a (c+1) (w.setCell ⟨mb,0,none⟩ (vI (IntKind.i64.wrap (y+1))))):=by
  refine lh ⟨p.keepB λk hk=>Y8 _ _ _ _ (λe=>hn (by have U:k=mb:=e;rw[<-U];exact hk)),?_,F,G,h5,by rw[Yf];exact I,λk hk O=>(Y8 _ _ _ _ O).trans (J k hk O)⟩;rw[show IntKind.i64.wrap (((c+1:Nat):Int))=IntKind.i64.wrap (y+1) by rw[u,Zm3];rfl];exact Zh (o:=0) _ m
 unfold ATree.ptr;clear p m F G h5 I J hn u E;go_enter Tryz.func29,Tryz.ntmps29
 go_wp2;go_ret;rw[show wrap64 (y+1)=IntKind.i64.wrap (y+1) by simp only[IntKind.wrap_i64,wrap64]];exact⟨rfl,H.o⟩
def AaB:Except (Int×Nat) (Tree×List Tok)->Except (Int×Int) Tree
 | .error (e,p)=>.error (e,p)
 | .ok (t,_)=>if 1500<t.many then .error (4,-1)else .ok t
theorem Zip(w:World)(text:ByteArray)(hm:text.size<=3000)(hW:Words w)(hL:B7 w w.heap.size)(ts:List Tok)(ht:Wu text=.ok ts) :
 Calls Tryz.prog 9 #[.string text] w (WM w (xG text)):=by
 obtain⟨k1,k2,k3,k4⟩:=Za3 w;obtain⟨w0,sy⟩:=zX (LD w)
 rw[<-sy]at k1 k2 k3 k4;have HC:=Zbf w0 text hm (hW.below k4);rw[ht]at HC;have HC:=lh HC;have HL:=lh hL;obtain⟨s1,s2,s3⟩:=Zfs ts 0 (Yh _) (Ze7 ht);have S1:=lh s1;have S2:=lh s2;have HM:=lh hm;have HT:=lh ht;refine Dz ?_;intro iV;obtain⟨r,hr⟩:∃r,Z3 (40*ts.length+31) (.stmts 1 []) 0 ts=some r:=by
  have:=Zib (40*ts.length+31) (.stmts 1 []) 0 ts (by simp only[Job.rank];omega);cases h:Z3 (40*ts.length+31) (.stmts 1 []) 0 ts with
  |none=>exact absurd h this
  |some r=>exact⟨r,rfl⟩
 have an:xG text=AaB r:=by
  unfold xG;rw[Y3 O',ht];simp only[hr];rcases r with⟨e,p⟩|⟨t,us⟩<;>rfl
 have HR:=lh hr;have cU:=lh an;have K1:=lh k1;have K2:=lh k2;have K3:=lh k3;have K4:=lh k4;unfold LD at sy;have ES:=lh sy;clear sy k1 k2 k3 k4 s1 s2 s3 ht hr an hm hL hW;go_enter_defers Tryz.func9,Tryz.ntmps9
 go_wp2_with fail
 rw[<-ES.o];refine HC.o.mono ?_;rintro e w1⟨⟨v,rfl,hv⟩,hB⟩;obtain⟨vp,vn,vc,ic⟩:∃p n c,v=.slice p n c:=by
  rcases Z4 hv with⟨I,_⟩|⟨g,cap,I,_⟩;·exact⟨_,_,_,I⟩
  .exact⟨_,_,_,I⟩
 subst ic;refine Zud ?_;intro b1 b2 pb li eb pr;rw[<-pr]at b2;rw[<-li]at b1;rw[<-pr,<-li];have aK:pb≠eb:=O'
 refine Zuz ?_;intro c1 c2 z1 z2;have ku:pb<w1.heap.size:=(Y1.1 b1).1;have ny:eb<w1.heap.size:=(Y1.1 b2).1;have J:=zT K4 hB;have HV:=lh hv;have vD:=lh li;have Y:=lh pr;have On:=lh b1;have Oo:=lh b2;obtain⟨w2,Z⟩:=zX ((w1.setCell ⟨eb,0,none⟩ .nilIface).alloc (.cells #[.slice vp vn vc,vI 0] 87))
 obtain⟨rb,i8⟩:=zX w1.heap.size
 have aG:(w1.setCell ⟨eb,0,none⟩ .nilIface).heap.size=rb:=by rw[i8];exact Yf ..
 have cO:w2.heap.size=rb+1:=by rw[Z];simp[i8]
 have cR:∀k,k<rb->k≠eb->w2.heap[k]?=w1.heap[k]?:=λk hk hn=>by
  rw[Z];exact(Below.heap_alloc _ _ _ (by rw[aG];exact hk)).trans (Y8 _ _ _ _ hn)
 have e2:w2.heap[eb]?=some (.cells #[.nilIface] 31 (0,0)):=by
  rw[Z];exact(Below.heap_alloc _ _ _ (by rw[aG];omega)).trans (Zh (o:=0) .nilIface b2)
 have r2:w2.heap[rb]?=some (.cells #[.slice vp vn vc,vI 0] 87 (0,0)):=by
  rw[Z,<-aG];exact heap_alloc_new _ _
 have zV:B7 w2 rb:=by
  refine(HL.o.keep (w':=w2) λk hk=>?_).mono (by have:=J.o.size;omega);exact(cR k (by have:=J.o.size;omega) O').trans (J.o.block k hk)
 have I5:∀k,(Value.slice vp vn vc).ownBlock=some k->k≠eb:=λk hk=>by have:=(hv.lt k hk).1;rw[K3.o]at this;omega
 have I6:Rd w2 rb ts 0:=Rd.new hv S1.o r2 i8 (λk hk aR=>cR k O' (I5 k aR)) O' zV;have hP:Pre w2 rb w2.heap.size 0 ts:=⟨I6,by omega,by omega,Y0 _,by have:=S2.o;have:=HM.o;omega⟩
 have HS:=Zot _ w2 rb w2.heap.size 0 ts r hP HR.o;simp only at HS;have HS:=lh HS;have zW:=lh cR;have E2:=lh e2;have fH:=lh Z;have vE:=lh i8;have cD:=lh cO;have p2:=(zW.o pb O' aK).trans b1;have I7:=lh p2;have oq:=lh (show w2.os=w1.os∧w2.tape=w1.tape∧w2.output=w1.output by rw[Z];exact⟨rfl,rfl,rfl⟩);clear hB hv li pr b1 b2 HC Z i8 aG cO cR e2 r2 zV I5 I6 hP p2;go_wp2_with fail
 rw[<-fH.o,<-vE.o];refine HS.o.mono ?_;have I8:Hid (∀k,k<w.heap.size->w2.heap[k]?=w.heap[k]?):=lh λk hk=>(zW.o k (by have:=J.o.size;have:=vE.o;omega) (by have:=Y.o;omega)).trans (J.o.block k hk);have X:Hid (w.heap.size+2<=rb):=lh (by have:=Y.o;have:=vE.o;omega);rcases r with⟨c,p⟩|⟨t,us⟩
 .rintro e m⟨⟨b,rfl,I,F⟩,U⟩;have p3:=(U.block pb QX (by have :=X.o;have :=vD.o;omega)).trans I7.o;have e3:=(U.block eb QX (by have :=X.o;have :=Y.o;omega)).trans E2.o;have H1:=lh I;have H2:=lh F;have O:=lh U;rw[cU.o];clear I F U HS;refine Zrb ?_;refine(Zfr pb eb b [] m _ _ p3 e3 aK).mono ?_;rintro e u' u⟨rfl,rfl,LK⟩;obtain⟨q1,q2,q3,q4,q5,q6,q7⟩:=LK;show Go.Leaves _ _ _ _ [] .returning _
  refine Z6p (pb:=pb) (eb:=eb) rfl rfl (x:=.pointer none) (y:=.iface 142 (vP b)) (by simp[vC,World.cell?,q1]) (by simp[vC,World.cell?,q2]) ?_;have be:=O.o.size;have aX:b<m.heap.size:=(Y1.1 H2.o).1;have px:=H1.o;refine⟨⟨?_,?_,?_,?_,λk hk=>?_⟩,.iface 142 (vP b),rfl,.inr ⟨p,rfl,b,rfl,?_,?_⟩⟩;·exact q3.trans (O.o.os.trans (oq.o.1.trans J.o.os))
  .exact q4.trans (O.o.tape.trans (oq.o.2.1.trans J.o.tape))
  .exact q5.trans (O.o.output.trans (oq.o.2.2.trans J.o.output))
  .have:=cD.o;have:=X.o;omega
  .have F:=cD.o;have h3:=X.o;have h4:=vD.o;have h5:=Y.o;exact(q7 k O' O' O').trans ((O.o.block k O' O').trans (I8.o k hk))
  .have:=cD.o;have:=X.o;omega
  .have F:=cD.o;have h3:=X.o;have h4:=vD.o;have h5:=Y.o;exact(q7 b aX O' O').trans H2.o
 .rintro e m⟨a,rfl,hG,bK,U⟩;have F:=cD.o;have h3:=X.o;have h4:=vD.o;have h5:=Y.o;have h6:=vE.o;have p3:=(U.block pb O' O').trans I7.o;have e3:=(U.block eb O' O').trans E2.o;have be:=U.size;obtain⟨mb,jo⟩:=zX m.heap.size
  obtain⟨u,ew⟩:=zX ((m.setCell ⟨pb,0,none⟩ (vP a.b)).alloc (.cells #[vI 0] 3))
  have cL:(m.setCell ⟨pb,0,none⟩ (vP a.b)).heap.size=mb:=by rw[jo];exact Yf ..
  have jb:u.heap.size=mb+1:=by rw[ew];simp[jo]
  have vF:∀k,k<mb->k≠pb->u.heap[k]?=m.heap[k]?:=λk hk hn=>by
   rw[ew];exact(Below.heap_alloc _ _ _ (by rw[cL];exact hk)).trans (Y8 _ _ _ _ hn)
  have p4:u.heap[pb]?=some (.cells #[vP a.b] 22 (0,0)):=by
   rw[ew];exact(Below.heap_alloc _ _ _ (by rw[cL];omega)).trans (Zh (o:=0) _ p3)
  have m4:u.heap[mb]?=some (.cells #[vI 0] 3 (0,0)):=by
   rw[ew,<-cL];exact heap_alloc_new _ _
  have zY:TreeAt u w2.heap.size a:=hG.at'.keepB λk hk=>vF k (by have:=(hG.new k hk).2;omega) (by have:=(hG.new k hk).1;omega);have hI:XC u w2.heap.size mb a 0 u:=⟨zY,m4,rfl,rfl,rfl,Y0 _,λ_ _ _=>rfl⟩
  have lE:mb∉a.blocks:=λhx=>by have:=(hG.new mb hx).2;omega
  have xK:=Zs9 ⟨mb,0,none⟩ (XC u w2.heap.size mb a) Sj w2.heap.size a.many a (Y0 _) (λs W h=>h.1) (λx hx s W h=>Zs3 u w2.heap.size mb a x (.inr lE) O' s W h) 0 u hI;unfold ATree.ptr at xK;rw[Zgp,Nat.zero_add,<-Tw,hG.tree]at xK;have xK:=lh xK;have c3:vC m pb 0 (.pointer none):=by simp[vC,World.cell?,p3]
  have z3:m.frozen? ⟨pb,0,none⟩=false:=by simp[World.frozen?,p3]
  have LL:pb<m.heap.size:=O'
  have HG:=lh hG;have O:=lh U;have sx:=lh ew;have El:=lh jo;have np:=lh jb;have zZ:=lh vF;have P4:=lh p4;have E3:=lh e3;have nE:t.many<=6100:=by
   have:=Zhd _ _ _ _ _ _ HR.o;simp only[Job.base,pS]at this;have:=S2.o;have:=HM.o;omega
  have ET:=lh (show u.os=m.os∧u.tape=m.tape∧u.output=m.output by rw[ew];exact⟨rfl,rfl,rfl⟩);clear hG bK U ew jo cL jb vF p4 m4 zY hI lE p3 e3 F h3 h4 h5 h6 be HS;go_wp2_with fail
  rw[<-sx.o,<-El.o];refine xK.o.mono ?_;rintro e E⟨rfl,i1,i2,i3,i4,i5,i6,i7⟩;rw[show IntKind.i64.wrap ((t.many:Nat):Int)=(t.many:Int) by simp only[IntKind.wrap_i64];omega]at i2;have F:=cD.o;have h3:=X.o;have h4:=vD.o;have h5:=Y.o;have h6:=vE.o;have h7:=np.o;have h8:=El.o;have h9:=O.o.size;have p5:=(i7 pb O' O').trans P4.o;have e5:=(i7 eb O' O').trans ((zZ.o eb O' O').trans E3.o)
  have cm:vC E mb 0 (vI (t.many:Int)):=by simp[vC,World.cell?,i2]
  have cp:vC E pb 0 (vP a.b):=by simp[vC,World.cell?,p5]
  have ce:E.cell? ⟨eb,0,none⟩=some .nilIface:=by simp[vC,World.cell?,e5]
  have zp:E.frozen? ⟨pb,0,none⟩=false:=by simp[World.frozen?,p5]
  have ze:E.frozen? ⟨eb,0,none⟩=false:=by simp[World.frozen?,e5]
  have Oq:pb<E.heap.size:=O'
  have z7:eb<E.heap.size:=O'
  have fin:Hid (∀(W:World) (x y:Value),W=(E.setCell ⟨pb,0,none⟩ x).setCell ⟨eb,0,none⟩ y->Below w.heap.size w W∧Got w w.heap.size W a t):=by
   refine lh λW x y hW=>?_;have Or:W.heap.size=E.heap.size:=by rw[hW,Yf,Yf]
   have EU:∀k,k≠pb->k≠eb->W.heap[k]?=E.heap[k]?:=λk I F=>by rw[hW];exact(Y8 _ _ _ _ F).trans (Y8 _ _ _ _ I)
   have z8:∀k,k<mb->k≠pb->k≠eb->W.heap[k]?=m.heap[k]?:=λk hk I F=>(EU k I F).trans ((i7 k O' O').trans (zZ.o k O' I));have o1:W.os=E.os∧W.tape=E.tape∧W.output=E.output:=by rw[hW];exact⟨rfl,rfl,rfl⟩
   refine⟨⟨?_,?_,?_,by omega,λk hk=>?_⟩,⟨HG.o.tree,?_,HG.o.nodup,λz hz=>?_⟩⟩;·exact o1.1.trans (i3.trans (ET.o.1.trans (O.o.os.trans (oq.o.1.trans J.o.os))))
   .exact o1.2.1.trans (i4.trans (ET.o.2.1.trans (O.o.tape.trans (oq.o.2.1.trans J.o.tape))))
   .exact o1.2.2.trans (i5.trans (ET.o.2.2.trans (O.o.output.trans (oq.o.2.2.trans J.o.output))))
   .exact(z8 k O' O' O').trans ((O.o.block k O' O').trans (I8.o k hk))
   .refine(HG.o.at'.keepB λk hk=>?_).base O';have:=HG.o.new k hk;exact z8 k O' O' O'
   .have:=HG.o.new z hz;omega
  have kb:xG text=if 1500<t.many then .error (4,-1)else .ok t:=cU.o;clear i1 i2 i3 i4 i5 i6 i7 p5 e5 F h3 h4 h5 h6 h7 h8 h9 xK;by_cases fe:1500<t.many
  .rw[Y5 fe]at kb;have hb:decide ((t.many:Int)>1500)=true:=by simp;omega
   have HA:=lh kb;clear kb fe;go_wp2_with fail
   refine Zrb ?_;refine(Zb6 ⟨pb,0,none⟩ ⟨eb,0,none⟩ _).mono ?_;rintro e u' w6⟨rfl,rfl,rfl⟩;show Go.Leaves _ _ _ _ [] .returning _;refine Z6p (pb:=pb) (eb:=eb) rfl rfl (x:=.pointer none) (y:=.iface 34 (vI 4)) (by unfold vC;go_simp) (by unfold vC;go_simp) ?_;rw[HA.o];have hf:=fin.o _ (.pointer none) (.iface 34 (vI 4)) rfl;exact⟨hf.1,_,rfl,.inl ⟨rfl,rfl⟩⟩
  .rw[Y3 fe]at kb;have hb:decide ((t.many:Int)>1500)=false:=by simp;omega
   have HA:=lh kb;clear kb fe;go_wp2_with fail
   refine Zrb ?_;refine(Zb6 ⟨pb,0,none⟩ ⟨eb,0,none⟩ _).mono ?_;rintro e u' w6⟨rfl,rfl,rfl⟩;show Go.Leaves _ _ _ _ [] .returning _;refine Z6p (pb:=pb) (eb:=eb) rfl rfl (x:=(vP a.b)) (y:=.nilIface) (by unfold vC;go_simp) (by unfold vC;go_simp) ?_;rw[HA.o];have hf:=fin.o _ (vP a.b) (.nilIface) rfl;exact⟨hf.1,a,rfl,hf.2⟩
theorem Zel(w:World)(text:ByteArray)(u:Words w)(E:B7 w w.heap.size) :
 Calls Tryz.prog 9 #[.string text] w (WM w (xG text)):=by
 have F:=(Za3 w).2.2.2;by_cases g:3000<text.size
 .have e:xG text= .error (4,-1):=by unfold xG;rw[Y5 g]
  rw[e];exact Zdt w text 4 (-1) ((Zft (LD w) text g).mono λe w' ⟨m,o⟩=>by subst m;subst o;exact⟨⟨_,rfl,.inl ⟨rfl,rfl⟩⟩,Y2 _ _⟩)
 .cases ht:Wu text with
  |ok ts=>exact Zip w text O' u E ts ht
  | error x =>
    obtain⟨c,p⟩:=x;have e:xG text=.error (c,(p:Int)):=by unfold xG;rw[Y3 g,ht]
    rw[e];have y:=Zbf (LD w) text O' (u.below F);rw[ht]at y;exact Zdt w text c p (y.mono λe w' ⟨⟨x,m,o⟩,I⟩=>⟨⟨x,m,.inr ⟨p,rfl,o⟩⟩,I⟩)
structure RCtx where
 w0:World
 mb:Nat
 nb:Nat
 eb:Addr
 pl:List (Nat×Nat)
def RCtx.N(C:RCtx)(b:Nat):Int:=match C.pl.find? (λx=>x.1==b)with|some x=>x.2|none=>-3
structure CloR where
 a:ATree
 scope:Int
 strict:Bool
def CloR.cells(c:CloR):List Value:=[c.a.ptr,vI c.scope,.bool c.strict]
def CloR.clo(N:Nat->Int)(c:CloR):Clo:=⟨c.a.nt N,c.scope,c.strict⟩
structure MRep where
 ρ:Nat->Option Role
 L:HL
 row:Nat->Value
 cl:List CloR
def mK:Nat->TypeId
 |0=>9
 |1=>78
 |2=>3
 |_=>119
def mZ:Nat->Nat
 |0=>1
 |1=>2
 |2=>1
 |_=>3
def rowO:Nat->Nat
 |0=>2
 |1=>6
 |2=>8
 |_=>9
def jS(s:MSt)(cl:List CloR):Nat->Nat
 |0=>s.log.length
 |1=>s.seen.length
 |2=>s.owners.length
 |_=>cl.length
def nc(s:MSt)(cl:List CloR):Nat->List Value
 |0=>s.log.map Value.string
 |1=>s.seen.flatMap λp=>[vI p.1,vI p.2]
 |2=>s.owners.map (Value.int .i64)
 |_=>cl.flatMap CloR.cells
def MRep.has(M:MRep)(b:Nat):Prop:=M.ρ b≠none∨∃i,i<4∧(M.row i).ownBlock=some b
def lH(C:RCtx)(s:MSt):List (Nat×Value):=
 [(3,vI 0),(4,.string ⟨#[]⟩),(5,vI s.steps),(7,.map (some C.nb)),(10,vI s.glob),(11,vI s.outer),(12,vI s.top),(13,vI s.calls),(14,vI s.last.kind),(15,vI s.last.n),(16,.string s.last.s)]
structure MAt(C:RCtx)(M:MRep)(w:World)(s:MSt):Prop where
 heap:HeapAt M.ρ w C.mb 0 M.L s.H
 cell:∀o x,(o,x)∈lH C s->w.cell? ⟨C.mb,o,none⟩=some x
 rcell:∀i,i<4->w.cell? ⟨C.mb,rowO i,none⟩=some (M.row i)
 fz:∀o,w.frozen? ⟨C.mb,o,none⟩=false
 rows:∀i,i<4->w.ownsRow 0 (mK i) (mZ i) (M.row i) (jS s M.cl i) (nc s M.cl i)
 rfree:∀i,i<4->∀g,(M.row i).ownBlock=some g->M.ρ g=none∧g<w.heap.size
 rdist:∀i j g,i<4->j<4->(M.row i).ownBlock=some g->(M.row j).ownBlock=some g->i=j
 clos:s.clos=M.cl.map (CloR.clo C.N)
 trees:∀x∈M.cl,TreeAt w 0 x.a∧∀k∈x.a.blocks,¬M.has k
 old:Below C.w0.heap.size C.w0 w
 far:∀k,k<C.w0.heap.size->¬M.has k
structure MFr(M M':MRep)(w w':World):Prop where
 os:w'.os=w.os
 tape:w'.tape=w.tape
 output:w'.output=w.output
 size:w.heap.size<=w'.heap.size
 block:∀k,k<w.heap.size->¬M.has k->w'.heap[k]?=w.heap[k]?
 free:∀k,k<w.heap.size->¬M.has k->¬M'.has k
section
variable {C:RCtx}{M M' sA:MRep}{w w' dQ:World}{s s':MSt}
theorem MFr.refl(M:MRep)(w:World):MFr M M w w:=⟨rfl,rfl,rfl,Y0 _,λ_ _ _=>rfl,λ_ _ h=>h⟩
theorem MFr.trans(a:MFr M M' w w')(b:MFr M' sA w' dQ):MFr M sA w dQ:=
 ⟨b.os.trans a.os, b.tape.trans a.tape, b.output.trans a.output, Y4 a.size b.size,
  λk hk hf=>(b.block k (Y7 hk a.size) (a.free k hk hf)).trans (a.block k hk hf),
  λk hk hf=>b.free k (Y7 hk a.size) (a.free k hk hf)⟩
theorem MFr.of_below(g:Below w.heap.size w w'):MFr M M w w':=⟨g.os,g.tape,g.output,g.size,λk hk _=>g.block k hk,λ_ _ h=>h⟩
theorem MFr.drew(a:MFr M M' w w'):MFr M M' w w'.drew:=⟨a.os,a.tape,a.output,a.size,a.block,a.free⟩
theorem MAt.lt(h:MAt C M w s){k:Nat}(hk:M.has k):k<w.heap.size:=by
 rcases hk with hk|⟨i,hi,hk⟩;·exact h.heap.live k hk
 .exact(h.rfree i hi k hk).2
theorem MAt.mbHas(h:MAt C M w s):M.has C.mb:=.inl (by simp[h.heap.rhp])
theorem MAt.mbLt(h:MAt C M w s):C.mb<w.heap.size:=h.heap.hbLt
theorem MAt.fresh(h:MAt C M w s){k:Nat}(hk:w.heap.size<=k):¬M.has k:=λg=>by have:=h.lt g;omega
theorem MAt.rowNe(h:MAt C M w s){i:Nat}(hi:i<4):(M.row i).ownBlock≠some C.mb:=λe=>by
 have:=(h.rfree i hi _ e).1;rw[h.heap.rhp]at this;cases this
theorem MAt.keep(h:MAt C M w s)(hs:w.heap.size<=w'.heap.size)(hk:∀k,k<w.heap.size->w'.heap[k]?=w.heap[k]?)(p:w'.os=w.os)(u:w'.tape=w.tape)(y:w'.output=w.output):MAt C M w' s where
 heap:=h.heap.keep hs λb hb=>hk b (h.heap.live b hb)
 cell o x hx:=(Yb (hk _ h.mbLt)).trans (h.cell o x hx)
 rcell i hi:=(Yb (hk _ h.mbLt)).trans (h.rcell i hi)
 fz o:=(Yn (hk _ h.mbLt)).trans (h.fz o)
 rows i hi:=Z2 (h.rows i hi) λg m=>hk g (h.rfree i hi g m).2
 rfree i hi g m:=⟨(h.rfree i hi g m).1,by have:=(h.rfree i hi g m).2;omega⟩
 rdist:=h.rdist
 clos:=h.clos
 trees x hx:=⟨(h.trees x hx).1.keepB λk hb=>hk k ((h.trees x hx).1.has k hb).2,(h.trees x hx).2⟩
 old:=⟨p.trans h.old.os,u.trans h.old.tape,y.trans h.old.output,Y4 h.old.size hs,λk hb=>(hk k (Y7 hb h.old.size)).trans (h.old.block k hb)⟩
 far:=h.far
theorem MAt.below(h:MAt C M w s)(g:Below w.heap.size w w'):MAt C M w' s:=h.keep g.size g.block g.os g.tape g.output
theorem MAt.drew(h:MAt C M w s):MAt C M w.drew s:=h.keep (Y0 _) (λ_ _=>rfl) rfl rfl rfl
theorem MAt.heapStep{ρ':Nat->Option Role}{p:HL}{u:LHeap}(h:MAt C M w s)(g:HeapAt ρ' w' C.mb 0 p u)(f:Fr M.ρ ρ' C.mb 0 w w') :
 MAt C {M with ρ:=ρ',L:=p} w' (s.setH u)∧MFr M {M with ρ:=ρ',L:=p} w w':=by
 have fp:∀k,k<w.heap.size->¬M.has k->¬({M with ρ:=ρ',L:=p}:MRep).has k:=λk hk hf m=>by
  have hr:M.ρ k=none:=by
   cases hr:M.ρ k with
   |none=>rfl
   |some r=>exact absurd (.inl Qt) hf
  rcases m with m|m;·exact m (f.role k hk hr)
  .exact hf (.inr m)
 have ac:∀k,k<w.heap.size->¬M.has k->w'.heap[k]?=w.heap[k]?:=λk hk hf=>f.block k hk (by
  cases hr:M.ρ k with
  |none=>rfl
  |some r=>exact absurd (.inl Qt) hf)
 have y:∀o x,(o,x)∈lH C s->o≠0∧o≠0+1:=λo x hx=>by
  simp only[lH,List.mem_cons,Prod.mk.injEq,List.not_mem_nil,or_false]at hx;omega
 refine⟨⟨g,λo x hx=>?_,λi hi=>?_,λo=>(f.frz o).trans (h.fz o),λi hi=>?_,λi hi k hk=>?_,h.rdist,h.clos,λx hx=>?_,?_,λk hk=>?_⟩,⟨f.os,f.tape,f.output,f.size,ac,fp⟩⟩;·exact(f.cell o (y o x hx).1 (y o x hx).2).trans (h.cell o x hx)
 .have :rowO i≠0∧rowO i≠0+1:=by unfold rowO;split<;>decide
  exact(f.cell _ this.1 this.2).trans (h.rcell i hi)
 .exact Z2 (h.rows i hi) λk hk=>f.block k (h.rfree i hi k hk).2 (h.rfree i hi k hk).1
 .exact⟨f.role k (h.rfree i hi k hk).2 (h.rfree i hi k hk).1,Y7 (h.rfree i hi k hk).2 f.size⟩
 .have ht:=h.trees x hx;exact Zss
 .exact⟨f.os.trans h.old.os,f.tape.trans h.old.tape,f.output.trans h.old.output,Y4 h.old.size f.size,λk hk=>(ac k (Y7 hk h.old.size) (h.far k hk)).trans (h.old.block k hk)⟩
 .exact fp k (Y7 hk h.old.size) (h.far k hk)
theorem MAt.of_below(h:MAt C M w s)(g:Below w.heap.size w w'):MAt C M w' s∧MFr M M w w':=⟨h.below g,.of_below g⟩
theorem MAt.scalar{j:Nat}{v:Value}(h:MAt C M w s)(hj:3<=j)(J:s'.H=s.H)(hl:s'.log=s.log)(hn:s'.seen=s.seen)(ho:s'.owners=s.owners)(hc:s'.clos=s.clos)
 (hr:∀i,i<4->rowO i≠j)(O:∃x,w.cell? ⟨C.mb,j,none⟩=some x)(hx:∀o x,(o,x)∈lH C s'->o=j∧x=v∨o≠j∧(o,x)∈lH C s) :
 MAt C M (w.setCell ⟨C.mb,j,none⟩ v) s'∧MFr M M w (w.setCell ⟨C.mb,j,none⟩ v):=by
 have hb:∀k,k≠C.mb->(w.setCell ⟨C.mb,j,none⟩ v).heap[k]?=w.heap[k]?:=λk hk=>Y8 _ _ _ _ hk;have y:(w.setCell ⟨C.mb,j,none⟩ v).heap.size=w.heap.size:=PF
 have F:∀k,¬M.has k->k≠C.mb:=λk hk e=>hk (e▸h.mbHas);obtain⟨x0,U⟩:=O;have E:∀o,o≠j->(w.setCell ⟨C.mb,j,none⟩ v).cell? ⟨C.mb,o,none⟩=w.cell? ⟨C.mb,o,none⟩:=λo ho=>World.cell?_setCell_other _ _ _ _ (by intro e;cases e;exact ho rfl);have X:(w.setCell ⟨C.mb,j,none⟩ v).cell? ⟨C.mb,j,none⟩=some v:=World.cell?_setCell_same _ _ _ U;have I:∀o,(w.setCell ⟨C.mb,j,none⟩ v).frozen? ⟨C.mb,o,none⟩=w.frozen? ⟨C.mb,o,none⟩:=λo=>World.frozen?_setCell _ _ _ _;have m:=h.heap
 have u:∀k r,M.ρ k=some r->r≠.hp->k≠C.mb:=λk r hk hr e=>by rw[e,m.rhp]at hk;cases hk;exact hr rfl
 refine⟨⟨?_,λo x ho=>?_,λi hi=>?_,λo=>(I o).trans (h.fz o),λi hi=>?_,λi hi g p=>by rw[y];exact h.rfree i hi g p,h.rdist,hc.trans h.clos,λx hx=>?_,?_,h.far⟩,⟨rfl,rfl,rfl,Nat.le_of_eq y.symm,λk _ hk=>hb k (F k hk),λ_ _ hk=>hk⟩⟩
 .rw[J]
  exact⟨(E 0 O').trans m.cellO,(E (0+1) O').trans m.cellS,(I 0).trans m.frO,(I (0+1)).trans m.frS,
   Z2 m.rowO λg p=>hb g (u g _ (m.rvo g p) Pm),Z2 m.rowS λg p=>hb g (u g _ (m.rvs g p) Pm),
   λi o ho=>⟨(hb _ (u _ _ (m.rob i (getElem?_lt ho)) Pm)).trans (m.obj i o ho).1,Z2 (m.obj i o ho).2 λg p=>hb g (u g _ (m.rpv i g (getElem?_lt ho) p) Pm)⟩,
   λi o ho=>⟨(hb _ (u _ _ (m.rsb i (getElem?_lt ho)) Pm)).trans (m.scp i o ho).1,Z2 (m.scp i o ho).2 λg p=>hb g (u g _ (m.rnv i g (getElem?_lt ho) p) Pm)⟩,
   m.rhp,m.rvo,m.rvs,m.rob,m.rpv,m.rsb,m.rnv,λb hb=>by rw[y];exact m.live b hb⟩
 .rcases hx o x ho with⟨rfl,rfl⟩|⟨Y,Z⟩;·exact X
  .exact(E o Y).trans (h.cell o x Z)
 .exact(E _ (hr i hi)).trans (h.rcell i hi)
 .have e1:jS s' M.cl i=jS s M.cl i:=by unfold jS;split<;>simp[hl,hn,ho]
  have e2:nc s' M.cl i=nc s M.cl i:=by unfold nc;split<;>simp[hl,hn,ho]
  rw[e1,e2];exact Z2 (h.rows i hi) λg p=>hb g λe=>h.rowNe hi (e▸p)
 .exact⟨(h.trees x hx).1.keepB λk hk=>hb k (F k ((h.trees x hx).2 k hk)),(h.trees x hx).2⟩
 .exact⟨h.old.os,h.old.tape,h.old.output,Y4 h.old.size (Nat.le_of_eq y.symm),λk hk=>(hb k (F k (h.far k hk))).trans (h.old.block k hk)⟩
end
