/- Package run: set. -/
import Derived.Test.YtjikfacdcdiddaaGreatDoorJ17
import Derived.RowKitTokens
import Derived.Laws.StructEq
import Derived.Lib.ItoaLen
set_option maxRecDepth 100000
set_option maxHeartbeats 20000000
set_option linter.unusedVariables false
set_option linter.unusedSimpArgs false
namespace Go.Proofs.YtjikfacdcdiddaaGreatDoor
open Go Go.RowKit
theorem Zgg{H:LHeap}{n:Int}{name:ByteArray}{v:LVal}{fx:Bool}(g:0<=n)(m:n<H.objects.length):(H.put n name v fx).2=0:=by
 unfold LHeap.put;rcases ho:H.object? n with _|o
 .unfold LHeap.object? at ho;rw[Y3 O']at ho;have:=List.getElem?_eq_none_iff.1 ho;omega
 .simp only;split<;>rfl
section
variable {C:RCtx}{M M':MRep}{w w':World}{s s':MSt}{B:Nat}{a:ATree}{V:VF}{D:DF}{b:Int}{sc:Int}{fr:Frm}{d:Nat}
theorem xH.from(m:xH C V b)(h:MAt C M w s)(hI:Inv s d)(o:FAt s sc fr)(hb:b<=s.steps)(hs:s.steps<=20000)(p:(a.nt C.N).wf .v)(u:(a.nt C.N).tree.many<=1500)(y:TreeAt w B a)(hf:a.free M) :
 ∀ W, Below w.heap.size w W → Calls Tryz.prog 77 #[vP C.mb, vP a.b, vI sc, .agg #[.bool fr.strict, vI fr.vars]] W
   λe w'=>∃M' k n t ev,e=.returned (.tuple #[ag k n t,ev])∧o4 C M W (V (a.nt C.N) sc fr s) w' M' k n t ev:=
 λW g=>Calls.vres (m W M s a B sc fr d (h.below g) hI o hb hs p u (y.bel g) hf)
theorem Dl.from(m:Dl C D b)(h:MAt C M w s)(hI:Inv s d)(o:FAt s sc fr)(hb:b<=s.steps)(hs:s.steps<=20000)(p:(a.nt C.N).wf .s)(u:(a.nt C.N).tree.many<=1500)(y:TreeAt w B a)(hf:a.free M) :
 ∀ W, Below w.heap.size w W → Calls Tryz.prog 45 #[vP C.mb, vP a.b, vI sc, .agg #[.bool fr.strict, vI fr.vars]] W
   λe w'=>∃M' b k n t ev,e=.returned (.tuple #[.bool b,ag k n t,ev])∧mc C M W (D (a.nt C.N) sc fr s) w' M' b k n t ev:=
 λW g=>Calls.dres (m W M s a B sc fr d (h.below g) hI o hb hs p u (y.bel g) hf)
theorem Zoa(cA:xH C V b)(hV:VH V b)(h:MAt C M w s)(hI:Inv s (d+2))(hA:FAt s sc fr)(hb:b<=s.steps)(hs:s.steps<=20000)(O:TreeAt w B a)(hf:a.free M)
 {x y o:ATree}(hk:a.kids=[x,y])(hx:x.kids=[o])(gi:x.kind≠23)(wo:(o.nt C.N).wf .v)(wy:(y.nt C.N).wf .v)(mo:(o.nt C.N).tree.many<=1500)(my:(y.nt C.N).tree.many<=1500) :
 Calls Tryz.prog 118 #[vP C.mb,a.ptr,vI sc,.agg #[.bool fr.strict,vI fr.vars]] w λe w'=>al C M w (t8 V (a.nt C.N) sc fr s) e w':=by
 have hR:t8 V (a.nt C.N) sc fr s=gE (V (o.nt C.N) sc fr) (λo=>gE (V (y.nt C.N) sc fr) λv=>if o.kind=5 then λs=>f7 v (s.put o.n x.text v false)else tG wh) s:=by
  have e0:(a.nt C.N).kid 0=x.nt C.N:=sp QL;have e1:(a.nt C.N).kid 1=y.nt C.N:=sp QL;have e2:(x.nt C.N).kid 0=o.nt C.N:=sp (by rw[hx];rfl);unfold t8;rw[e0,Zc,Y3 gi,e1,e2,Zz]
 obtain⟨R,aS⟩:=zX (t8 V (a.nt C.N) sc fr s)
 rw[<-aS]at hR ⊢;clear aS;refine IE ?_;intro aI lf lr ln z hz;rw[<-hz]at aI lf lr ln;have aE:=h.below aI;have aJ:=O.bel aI;obtain⟨u,kc,c3,ct,aR,bO,ba,eU⟩:=O.row hf Qf;rw[hk]at c3 ct bO;have Z:x∈a.kids:=Qf
 have sw:=aJ.kid Z;have f8:=hf.kid Z;obtain⟨xg,xc,x3,dP,sh,cI,jx,vL⟩:=(O.kid Z).row f8 PC;rw[hx]at x3 dP cI;have iv:o∈x.kids:=PC
 have eD:y∈a.kids:=Qf
 have k0:=bO 0 x rfl;have k1:=bO 1 y rfl;have x0:=cI 0 o rfl;simp only[List.length_cons,List.length_nil]at c3 ct x3 dP;obtain⟨r1,bA⟩:=zX (V (o.nt C.N) sc fr s)
 have bF:=lh (cA.from aE hI hA hb hs wo mo (sw.kid iv) (f8.kid iv));rw[<-bA]at bF;have aj:=(hV (o.nt C.N) sc fr s _ wo mo hI hA hb hs).1;rw[<-bA]at aj;unfold gE at hR;rw[<-bA]at hR;have HR:=lh hR;have bR:=lh aj;have ii:=lh hA;have po:=lh (aJ.kid eD);have oR:=lh (hf.kid eD);have E:=lh lr;have bQ:=lh ln;have bJ:=lh aI;have bY:=O.lt;have ij:=(O.kid Z).lt;have Am:=(O.kid Z).c0;have sE:=(O.kid Z).c1
 have ap:∀W M',MFr M M' z W->vC W w.heap.size 0 (.bool fr.strict)∧vC W w.heap.size 1 (vI fr.vars)∧vC W a.b 3 (.slice (some ⟨u,0,none⟩) 2 kc)∧vC W u 0 (vP x.b)∧vC W u 1 (vP y.b)∧
  vC W x.b 3 (.slice (some ⟨xg,0,none⟩) 1 xc)∧vC W xg 0 (vP o.b)∧vC W x.b 1 (.string x.text):=λW M' f=>
  have g:MFr M M' w W:=(MFr.of_below aI).trans f;⟨(lf.fr f).cell rfl,(lf.fr f).cell rfl,(g.cell bY hf.blk).trans c3,(g.cell ba eU).trans k0,(g.cell ba eU).trans k1,(g.cell ij f8.blk).trans x3,(g.cell jx vL).trans x0,(g.cell ij f8.blk).trans sE⟩
 obtain⟨-,-,d3,e0,-,-,-,-⟩:=ap z M (.refl _ _);have dk:=(aI.cell ij).trans Am;rw[hz]at d3 e0 dk;have HS:=lh ap;have HZ:=lh hz;have HM:=lh aE;have bk:(x.kind==23)=false:=by simp[gi]
 have HO:=lh h.old.size;have HE:=lh aI.size;clear c3 k0 k1 x0 x3 Am sE ap hz aE lf bO cI hk hx gi bA aj h hI O aJ sw hR lr ln aI hA hf f8;unfold ATree.ptr;go_enter Tryz.func118,Tryz.ntmps118
 go_wp2_with fail
 rw[<-HZ.o];clear d3 e0 dk
 refine uY (.take 0 (.take 1 (.take 2 (.take 3 (.take 4 (.take 5 (.take 6 (.take 7 (.take 8 (.two 9 (.take 10 (.take 11 (.take 12 (.go 13 (.go 14 (.go 15 (.nil))))))) 13 (.go 9 (.take 10 (.take 11 (.take 12 (.go 14 (.go 15 (.nil))))))))))))))))) 14 (λW=>vC W w.heap.size 0 (.bool fr.strict)∧vC W w.heap.size 1 (vI fr.vars)∧vC W a.b 3 (.slice (some ⟨u,0,none⟩) 2 kc)∧vC W u 0 (vP x.b)∧vC W u 1 (vP y.b)∧vC W x.b 3 (.slice (some ⟨xg,0,none⟩) 1 xc)∧vC W xg 0 (vP o.b)∧vC W x.b 1 (.string x.text)) (HS.o _ _ (MFr.drew (.refl _ _))) ?_
 refine lM ?_;refine Zt ?_;apply L4 (H:=pV C w M z r1);·exact RD HS bF HE.o HO.o
 .exact Hu HS bF HM HE.o HO.o
 intro W1 p1 M1 k1 n1 t1 bU ai;obtain⟨s1,q1⟩:=r1;cases q1 with
 | error x1 =>
   refine Wk ?_;intro he av hR;simp only at hR;subst hR;obtain⟨T1,P1,rfl,hP⟩:=he.ne;have ej:=lh he;obtain⟨q0,q1,q2,z0,z1,z2⟩:=(E.o.fr ai.1.2.1).six;obtain⟨n0,LX,Y,-,-,-⟩:=(bQ.o.fr ai.1.2.1).six;clear ai he HR;go_wp2;refine bodyPost_ret (v:=.tuple #[.agg #[vI 0,vI 0,.string ⟨#[]⟩],.iface T1 (.pointer P1)]) ?_ rfl ?_;·simp[results,Tryz.results118,go_sem,q0,q1,q2]
   .exact .err E.o bJ.o av.o.1.1 av.o.1.2.1 ej.o
 | ok v1 =>
   obtain⟨rfl,rfl⟩:v1=⟨k1,n1,t1⟩∧bU=.nilIface:=ai.1.2.2;obtain⟨i1,x1,-,ey,i2⟩:=bR.o;have F1:=ai.1.2.1;have vM:=ai.1.1;have ty:=F1.tree po.o oR.o;have hst:=x1.steps;obtain⟨r2,hr2⟩:=zX (V (y.nt C.N) sc fr s1)
   have bS:=lh (cA.from vM i1 (ii.o.ext x1) (Int.le_trans hb hst) i2 wy my ty.1 ty.2);rw[<-hr2]at bS;have bC:=lh (show Fin s1 _ VQ r2 by rw[hr2];exact(hV (y.nt C.N) sc fr s1 _ wy my i1 (ii.o.ext x1) (Int.le_trans hb hst) i2).1);have hR:=HR.o;simp only at hR;rw[<-hr2]at hR;have cD:=lh (λW M' (f:MFr M1 M' W1 W)=>HS.o W M' (F1.trans f));have bD:=lh hR;have av:=lh ai;have bZ:=lh vM;have ej:=lh (Y4 HE.o F1.size);have LY:=lh ey;clear ai F1 vM ty hr2 hR HR x1 i1 i2 hst ey;go_wp2_with fail
   refine uY (.take 0 (.take 1 (.take 2 (.take 3 (.take 4 (.take 5 (.take 6 (.take 7 (.take 8 (.two 9 (.take 10 (.take 11 (.take 12 (.go 13 (.go 14 (.go 15 (.nil))))))) 13 (.go 9 (.take 10 (.take 11 (.take 12 (.go 14 (.go 15 (.nil))))))))))))))))) 14 (λW=>vC W w.heap.size 0 (.bool fr.strict)∧vC W w.heap.size 1 (vI fr.vars)∧vC W a.b 3 (.slice (some ⟨u,0,none⟩) 2 kc)∧vC W u 0 (vP x.b)∧vC W u 1 (vP y.b)∧vC W x.b 3 (.slice (some ⟨xg,0,none⟩) 1 xc)∧vC W xg 0 (vP o.b)∧vC W x.b 1 (.string x.text)) (cD.o _ _ (MFr.drew (.refl _ _))) ?_
   refine lM ?_;refine Zt ?_;apply L4 (H:=pV C w M1 W1 r2);·exact RD cD bS ej.o HO.o
   .exact Zuf cD bS bZ ej.o HO.o
   intro W2 p2 M2 k2 Y t2 nH F;obtain⟨s2,q2⟩:=r2;have F2:=F.1.2.1;have U:=av.o.1.2.1.trans F2;cases q2 with
   | error x2 =>
     have he:ak C M2 W2 x2 nH:=F.1.2.2;have aO:=lh F;have hR:=bD.o;simp only at hR;subst hR;obtain⟨T1,P1,rfl,hP⟩:=he.ne;have nI:=lh he;obtain⟨q0,q1,q2,z0,z1,z2⟩:=(E.o.fr U).six;obtain⟨m0,m1,m2,-,-,-⟩:=(bQ.o.fr U).six;have I:=lh U;clear F he bD F2 U;go_wp2;refine bodyPost_ret (v:=.tuple #[.agg #[vI 0,vI 0,.string ⟨#[]⟩],.iface T1 (.pointer P1)]) ?_ rfl ?_;·simp[results,Tryz.results118,go_sem,q0,q1,q2]
     .exact .err E.o bJ.o aO.o.1.1 I.o nI.o
   | ok v2 =>
     obtain⟨rfl,rfl⟩:v2=⟨k2,Y,t2⟩∧nH=.nilIface:=F.1.2.2;obtain⟨i1,x2,-,Cs,i2⟩:=bC.o;have hR:=bD.o;simp only at hR;obtain⟨c0,c1,c2,-,-,-⟩:=(av.o.2.fr F2).six;obtain⟨q0,q1,q2,z0,z1,z2⟩:=(E.o.fr U).six;obtain⟨m0,m1,m2,-,-,-⟩:=(bQ.o.fr U).six;obtain⟨g0,g1,g2,-,-,-⟩:=F.2.six;have aQ:=F.1.1;have xO:=lh x2;have oK:=lh i1;have I:=lh U;have aZ:=lh F2;have g9:=lh F.2;have bW:=lh aQ;have HR:=lh hR;obtain⟨-,-,-,-,-,-,-,xt⟩:=cD.o W2 M2 F2;clear F bD F2 U x2 i1 i2 Cs hR aQ
     by_cases h5:k1=5
     .subst h5;have pE:=LY.o.2.2.2.2 rfl;have HC:=lh (Zgg (H:=s2.H) (n:=n1) (name:=x.text) (v:=⟨k2,Y,t2⟩) (fx:=false) pE.1 (Int.lt_of_lt_of_le pE.2 (by have :=xO.o.lo;exact Int.ofNat_le.2 this)));have hp:=yB bW.o.drew oK.o n1 x.text ⟨k2,Y,t2⟩ false;rw[HC.o]at hp;rw[show df 0= .nilIface from rfl]at hp;simp only[LVal.agg]at hp;have HP:=lh hp;clear hp pE;go_wp2_with fail
      have iW:=lh (show∀p M',MFr M2 M' W2 p->vC p p2 0 (vI k2)∧vC p p2 1 (vI Y)∧vC p p2 2 (.string t2)∧vC p p1 1 (vI n1)∧vC p x.b 1 (.string x.text)from
       λp M' f=>⟨(g9.o.fr f).cell rfl,(g9.o.fr f).cell rfl,(g9.o.fr f).cell rfl,((av.o.2.fr aZ.o).fr f).cell rfl,(cD.o p M' (aZ.o.trans f)).2.2.2.2.2.2.2⟩)
      refine oi [(true,0),(true,1),(true,2),(true,3),(true,4),(true,5),(true,6),(true,7),(true,8),(true,9),(true,10),(false,11)] [12,13] (λW=>vC W p2 0 (vI k2)∧vC W p2 1 (vI Y)∧vC W p2 2 (.string t2)∧vC W p1 1 (vI n1)∧vC W x.b 1 (.string x.text)) ⟨g0,g1,g2,c1,xt⟩ (λbu=>?_);refine ep ?_;refine Z6 (λK hK=>?_);go_simp
      refine HP.o.mono ?_;rintro e W3⟨rfl,M3,dL,bq⟩;have J:=(MFr.drew (.refl M2 W2)).trans bq;refine hK _ _ (iW.o _ _ J) ?_;clear hK K q0 q1 q2 z0 z1 z2 m0 m1 m2 g0 g1 g2 c0 c1 c2 xt;obtain⟨q0,q1,q2,z0,z1,z2⟩:=(E.o.fr (I.o.trans J)).six;have dq:=lh dL;have bE:=lh (I.o.trans J);clear dL bq J;refine Z0 ?_;have hR:=HR.o;simp only[if_true,f7]at hR;subst hR;go_wp2;refine bodyPost_ret (v:=.tuple #[.agg #[vI k2,vI Y,.string t2],.nilIface]) ?_ rfl ?_;·simp[results,Tryz.results118,go_sem,q0,q1,q2]
      .exact .fine E.o bJ.o dq.o bE.o
     .have b5:(k1 !=5)=true:=by simp[h5]
      have HP:=lh (KB bW.o.drew wh)
      have iW:=lh (show∀p M',MFr M2 M' W2 p->vC p (w.heap.size+1+1) 0 (vI 0)∧vC p (w.heap.size+1+1) 1 (vI 0)∧vC p (w.heap.size+1+1) 2 (.string ⟨#[]⟩)from
       λp M' f=>⟨(bQ.o.fr (I.o.trans f)).cell rfl,(bQ.o.fr (I.o.trans f)).cell rfl,(bQ.o.fr (I.o.trans f)).cell rfl⟩)
      have LZ:=lh h5;clear h5;go_wp2_with fail
      refine VR ?_;intro bu K hK W3 fg ko aB;have J:MFr M2 M2 W2 W3:=(MFr.drew (.refl M2 W2)).trans (.of_below aB);refine hK _ _ (iW.o _ _ J) ?_;clear hK K q0 q1 q2 z0 z1 z2 m0 m1 m2 g0 g1 g2 c0 c1 c2 xt;obtain⟨q0,q1,q2,z0,z1,z2⟩:=(E.o.fr (I.o.trans J)).six;have dq:=lh (bW.o.drew.below aB);have bE:=lh (I.o.trans J);have il:=lh ko;clear J ko aB;refine Z0 ?_;have hR:=HR.o;simp only[LZ.o,if_false,tG,tO]at hR;subst hR;go_wp2
      refine bodyPost_ret (v:=.tuple #[.agg #[vI 0,vI 0,.string ⟨#[]⟩],fg]) ?_ rfl ?_;·simp[results,Tryz.results118,go_sem,q0,q1,q2]
      .exact .err E.o bJ.o dq.o bE.o il.o
end
end Go.Proofs.YtjikfacdcdiddaaGreatDoor
namespace Go.Proofs.YtjikfacdcdiddaaGreatDoor
open Go.RowKit Go.Extern.Stop Go.Stop Go.Extern
theorem Tryz.valueOf27(t:Addr)(w:World):(ReflectliteValue.unpack (.iface 77 (.pointer (some t)))).run Tryz.prog w
 = .ok (.agg #[.pointer (some ⟨8,77,none⟩),vP w.heap.size,.int .u64 150]) (w.alloc (.cells #[.pointer (some t)] 77)):=by kernel_rfl
theorem Tryz.type27(a:Addr)(w:World):(ReflectliteValue.methodAny (ReflectliteValue.valueError "reflectlite.Value.Type" 0) (λt _ _ _=>ReflectliteType.toType t) #[.agg #[.pointer (some ⟨8,77,none⟩),.pointer (some a),.int .u64 150]]).run Tryz.prog w
 = .ok (.iface 169 (.agg #[.pointer (some ⟨8,77,none⟩)])) w:=by kernel_rfl
theorem Tryz.methodKind(h:Value)(w:World):(Go.method 371 169 (.agg #[h]) "Kind").run Tryz.prog w= .ok (181,h) w:=by kernel_rfl
theorem Tryz.kind27(w:World):((ReflectliteType.abiMethod λt=>(λa:Nat=>Value.int IntKind.u8 (a:Int))<$>Rtype.kind t) #[.pointer (some ⟨8,77,none⟩)]).run Tryz.prog w=.ok (.int .u8 22) w:=by kernel_rfl
theorem Tryz.kind25(w:World):((ReflectliteType.abiMethod λt=>(λa:Nat=>Value.int IntKind.u8 (a:Int))<$>Rtype.kind t) #[.pointer (some ⟨8,34,none⟩)]).run Tryz.prog w=.ok (.int .u8 2) w:=by kernel_rfl
theorem rlm(z:Sem Value)(f:TypeId->Addr->Nat->Nat->Sem Value)(v:Value) :
 ReflectliteValue.method z f #[v]=(do match<-ReflectliteValue.parts v with|none=>z|some (t,a,fl)=>f t a fl (fl %32)):=rfl
theorem Tryz.parts27(a:Addr)(w:World):(ReflectliteValue.parts (.agg #[.pointer (some ⟨8,77,none⟩),.pointer (some a),.int .u64 150])).run Tryz.prog w=.ok (some (77,a,150)) w:=by kernel_rfl
theorem Tryz.isNil27(a p:Addr)(W:World)(g:W.cell? a=some (.pointer (some p))) :
 (ReflectliteValue.method (ReflectliteValue.valueError "reflectlite.Value.IsNil" 0) ReflectliteValue.isNil #[.agg #[.pointer (some ⟨8,77,none⟩),.pointer (some a),.int .u64 150]]).run Tryz.prog W= .ok (.bool false) W:=by
 rw[rlm];simp only[Sem.run_bind,Tryz.parts27,Result.andThen];simp[ReflectliteValue.isNil,loadVar,isAgg,underlying,Tryz.underlying77,g,Result.andThen]
theorem Tryz.methodElem(h:Value)(w:World):(Go.method 371 169 (.agg #[h]) "Elem").run Tryz.prog w= .ok (195,.agg #[h]) w:=by kernel_rfl
theorem Tryz.methodImplements(h:Value)(w:World):(Go.method 371 169 (.agg #[h]) "Implements").run Tryz.prog w= .ok (196,.agg #[h]) w:=by kernel_rfl
theorem Tryz.methodAssignableTo(h:Value)(w:World):(Go.method 371 169 (.agg #[h]) "AssignableTo").run Tryz.prog w= .ok (193,.agg #[h]) w:=by kernel_rfl
theorem Tryz.elem27(w:World):(ReflectliteType.method ReflectliteType.elem #[.agg #[.pointer (some ⟨8,77,none⟩)]]).run Tryz.prog w=.ok (.iface 169 (.agg #[.pointer (some ⟨8,34,none⟩)])) w:=by kernel_rfl
theorem Tryz.implements25(w:World):(ReflectliteType.relation "Implements" ReflectliteType.implements_ #[.agg #[.pointer (some ⟨8,34,none⟩)],.iface 169 (.agg #[.pointer (some ⟨8,31,none⟩)])]).run Tryz.prog w= .ok (.bool true) w:=by kernel_rfl
theorem Tryz.typeOf25(v:Value)(w:World):(ReflectliteType.typeOf #[.iface 34 v]).run Tryz.prog w=.ok (.iface 169 (.agg #[.pointer (some ⟨8,34,none⟩)])) w:=by kernel_rfl
theorem Tryz.assignable25(w:World):(ReflectliteType.relation "AssignableTo" ReflectliteType.assignableTo #[.agg #[.pointer (some ⟨8,34,none⟩)],.iface 169 (.agg #[.pointer (some ⟨8,34,none⟩)])]).run Tryz.prog w= .ok (.bool true) w:=by kernel_rfl
theorem Tryz.valueOf25(e:Int)(w:World):(ReflectliteValue.unpack (.iface 34 (vI e))).run Tryz.prog w
 = .ok (.agg #[.pointer (some ⟨8,34,none⟩),vP w.heap.size,.int .u64 130]) (w.alloc (.cells #[vI e] 34)):=by kernel_rfl
theorem Tryz.elemOf27(w:World):(Rtype.elem? 77).run Tryz.prog w=.ok (some 34) w:=by kernel_rfl
theorem Tryz.mk25(p:Addr)(w:World):(ReflectliteValue.mk 34 p ReflectliteValue.flagAddr).run Tryz.prog w=.ok (.agg #[.pointer (some ⟨8,34,none⟩),.pointer (some p),.int .u64 386]) w:=by kernel_rfl
theorem Tryz.elemV27(a p:Addr)(W:World)(g:W.cell? a=some (.pointer (some p))) :
 (ReflectliteValue.method (ReflectliteValue.valueError "reflectlite.Value.Elem" 0) ReflectliteValue.elem #[.agg #[.pointer (some ⟨8, 77, none⟩), .pointer (some a), .int .u64 150]]).run Tryz.prog W
  = .ok (.agg #[.pointer (some ⟨8,34,none⟩),.pointer (some p),.int .u64 386]) W:=by
 rw[rlm];simp only[Sem.run_bind,Tryz.parts27,Result.andThen];simp[ReflectliteValue.elem,loadVar,isAgg,underlying,Tryz.underlying77,g,Result.andThen,Tryz.elemOf27,Tryz.mk25]
theorem rls(v x:Value):ReflectliteValue.set #[v,x]=(do
 let(some (dst,a,fl),some (oz,b,_)):=(<-ReflectliteValue.parts v,<-ReflectliteValue.parts x)
  |unsupported (.noEntry "extern/(internal/reflectlite.Value).Set.zeroValue")
 if fl/ReflectliteValue.flagAddr %2==0 then unsupported (.noEntry "extern/(internal/reflectlite.Value).Set.unaddressable")
 let val <-loadVar oz b
 if<-Rtype.directlyAssignable dst oz then storeVar dst a val
 else if<-Rtype.implements dst oz then
  if(<-Rtype.kind oz)==20 then
   match val with
   | .nilIface=>unsupported (.noEntry "extern/reflectlite: a nil value of one interface type handed on as a value of another")
   |_=>storeVar dst a val
  else storeVar dst a (.iface oz val)
 else panicString ("reflectlite.Set: value of type " ++(<-Rtype.spelt oz)++ " is not assignable to type " ++(<-Rtype.spelt dst))
 pure (.tuple #[])):=rfl
theorem Tryz.parts25a(a:Addr)(w:World):(ReflectliteValue.parts (.agg #[.pointer (some ⟨8,34,none⟩),.pointer (some a),.int .u64 386])).run Tryz.prog w=.ok (some (34,a,386)) w:=by kernel_rfl
theorem Tryz.parts25(a:Addr)(w:World):(ReflectliteValue.parts (.agg #[.pointer (some ⟨8,34,none⟩),.pointer (some a),.int .u64 130])).run Tryz.prog w=.ok (some (34,a,130)) w:=by kernel_rfl
theorem Tryz.direct25(w:World):(Rtype.directlyAssignable 34 34).run Tryz.prog w=.ok true w:=by kernel_rfl
theorem Tryz.set25(g b:Addr)(e:Int)(old:Value)(W:World)(hb:W.cell? b=some (vI e))(ht:W.cell? g=some old)(hf:W.frozen? g=false) :
 (ReflectliteValue.set #[.agg #[.pointer (some ⟨8, 34, none⟩), .pointer (some g), .int .u64 386], .agg #[.pointer (some ⟨8, 34, none⟩), .pointer (some b), .int .u64 130]]).run Tryz.prog W
  = .ok (.tuple #[]) (W.setCell g (vI e)):=by
 rw[rls];simp only[Sem.run_bind,Tryz.parts25a,Tryz.parts25,Result.andThen];simp[ReflectliteValue.flagAddr,loadVar,isAgg,underlying,Tryz.underlying34,hb,Result.andThen,Tryz.direct25,storeVar,Value.cells,storeCells,Addr.add];rw[run_store Tryz.prog W g _ _ Po];simp[ht,hf]
theorem Zvg(e:Int)(t:Addr)(old:Value)(w:World)(hg:w.cell? ⟨1,0,none⟩=some (.iface 169 (.agg #[.pointer (some ⟨8,31,none⟩)])))(BJ:w.cell? t=some old)(m:w.frozen? t=false) :
 Calls Tryz.prog 23 #[.iface 34 (vI e),.iface 77 (.pointer (some t))] w λev w'=>ev=.returned (.bool true)∧w'=((((w.alloc (.cells #[.pointer (some t)] 77)).alloc (.cells #[.pointer (some ⟨8,77,none⟩),vP w.heap.size,.int .u64 150] 124)).alloc (.cells #[.pointer (some ⟨8,77,none⟩),vP w.heap.size,.int .u64 150] 124)).alloc (.cells #[vI e] 34)).setCell t (vI e):=by
 refine YQ ?_;intro h6 h7 h8 qM lR xf nR yg C8 xh;have o:=Tryz.typeOf25;have p:=Tryz.methodAssignableTo;have u:=Tryz.assignable25;have y:=Tryz.valueOf25;have E:=Tryz.valueOf27;have F:=Tryz.type27;have I:=Tryz.methodKind;have J:=Tryz.methodElem;have O:=Tryz.methodImplements;have U:=Tryz.kind27;have X:=Tryz.kind25;have Y:=Tryz.elem27;have Z:=Tryz.implements25
 have n8:=Tryz.isNil27 ⟨w.heap.size,0,none⟩ t ((w.alloc (.cells #[.pointer (some t)] 77)).alloc (.cells #[.pointer (some ⟨8,77,none⟩),vP w.heap.size,.int .u64 150] 124)) Pg;have aA:1<w.heap.size:=by
  exact Zsz
 have jh:((w.alloc (.cells #[.pointer (some t)] 77)).alloc (.cells #[.pointer (some ⟨8,77,none⟩),vP w.heap.size,.int .u64 150] 124)).cell? ⟨1,0,none⟩=some (.iface 169 (.agg #[.pointer (some ⟨8,31,none⟩)])):=by
  exact Zvb
 have g:t.block<w.heap.size:=by
  exact Zu4
 have el:=Tryz.elemV27 ⟨w.heap.size,0,none⟩ t (((w.alloc (.cells #[.pointer (some t)] 77)).alloc (.cells #[.pointer (some ⟨8,77,none⟩),vP w.heap.size,.int .u64 150] 124)).alloc (.cells #[.pointer (some ⟨8,77,none⟩),vP w.heap.size,.int .u64 150] 124)) (by rw[World.cell?_alloc_lt _ _ ⟨w.heap.size,0,none⟩ PE];simp)
 have st:=Tryz.set25 t ⟨w.heap.size+1+1+1,0,none⟩ e old ((((w.alloc (.cells #[.pointer (some t)] 77)).alloc (.cells #[.pointer (some ⟨8,77,none⟩),vP w.heap.size,.int .u64 150] 124)).alloc (.cells #[.pointer (some ⟨8,77,none⟩),vP w.heap.size,.int .u64 150] 124)).alloc (.cells #[vI e] 34))
  (by rw[World.cell?_alloc_at _ _ _ _ Pg];rfl)
  (by rw[World.cell?_alloc_lt _ _ t PE,World.cell?_alloc_lt _ _ t PE,World.cell?_alloc_lt _ _ t PE,World.cell?_alloc_lt _ _ t g];exact BJ)
  (by rw[World.frozen?_alloc_old _ _ t PE,World.frozen?_alloc_old _ _ t PE,World.frozen?_alloc_old _ _ t PE,World.frozen?_alloc_old _ _ t (Nat.ne_of_lt g)];exact m)
 exact Zv4
end Go.Proofs.YtjikfacdcdiddaaGreatDoor
namespace Go.Proofs.YtjikfacdcdiddaaGreatDoor
open Go Go.RowKit
def OK(w:World):Prop:=w.cell? ⟨1,0,none⟩=some (.iface 169 (.agg #[.pointer (some ⟨8,31,none⟩)]))
theorem OK.lt{w:World}(h:OK w):1<w.heap.size:=by
 rcases Nat.lt_or_ge 1 w.heap.size with g|g;·exact g
 .simp[OK,World.cell?,Array.getElem?_eq_none g]at h
theorem OK.below{w w':World}(h:OK w)(g:Below w.heap.size w w'):OK w':=(g.cell (p:=⟨1,0,none⟩) h.lt).trans h
theorem Zgs(w:World)(c:Int)(g:OK w) :
 Calls Tryz.prog 7 #[df c] w λe w'=>e=.returned (vI c)∧Below w.heap.size w w':=by
 by_cases hc:c=0
 .subst hc;simp only[df,if_true];go_enter Tryz.func7,Tryz.ntmps7
  go_wp2;go_ret;exact⟨rfl,Y2 _ _⟩
 .simp only[df,if_neg hc];have y:=g.lt;have o:=lh (Zvg c ⟨w.heap.size,0,none⟩ (vI 0) (w.alloc (.cells #[vI 0] 34)) ((Zb (p:=⟨1,0,none⟩) y).trans g) (World.cell?_alloc_new _ _ _ 0) (World.frozen?_alloc_new _ _ _ _));clear g;go_enter Tryz.func7,Tryz.ntmps7
  go_wp2_with fail
  refine o.o.mono ?_;rintro e w1⟨rfl,m⟩;have u:Below w.heap.size w w1:=by
   rw[m];refine Below.setCell ?_ Pg _;repeat(refine Below.alloc ?_ (by simp;try omega) _)
   exact Y2 _ _
  have hx:vC w1 w.heap.size 0 (vI c):=by
   rw[m];unfold vC;rw[World.cell?_setCell_same'];rw[Zb PE,Zb PE,Zb PE,Zb Pg];rw[World.cell?_alloc_new];rfl
  have E:=lh u;clear u m o;go_wp2;go_ret;exact⟨rfl,E.o⟩
section
variable {C:RCtx}{M M':MRep}{w w':World}{s s':MSt}{B:Nat}{a:ATree}{V:VF}{D:DF}{b:Int}{sc:Int}{fr:Frm}{d:Nat}
theorem Inv.objLt(h:Inv s d){n:Int}(g:0<=s.H.objectOf n):s.H.objectOf n<s.H.objects.length:=by
 unfold LHeap.objectOf at g ⊢;rcases hs:s.H.scope? n with _|c;·rw[hs]at g;exact absurd g Pa
 .obtain⟨m,rfl,o⟩:=LHeap.scope?_some hs;exact(h.scp c (Yd o)).2.1
theorem Zls(r:Root s):0<=s.glob∧s.glob<s.H.objects.length:=by rw[r.glob];exact⟨by decide,by have:=r.objs;omega⟩
theorem Z9g(oA:OK C.w0)(h:MAt C M w s)(hI:Inv s d)(hr:Root s)(p:Int)(name:ByteArray)(v:LVal)(fr:Frm) :
 Calls Tryz.prog 78 #[vP C.mb,vI p,.string name,v.agg,.agg #[.bool fr.strict,vI fr.vars]] w λe w'=>Aam C M w (Sx p name v fr s) e w':=by
 obtain⟨R,aS⟩:=zX (Sx p name v fr s)
 have hR:=aS;unfold Sx at hR;rw[<-aS];clear aS;obtain⟨vk,vn,vt⟩:=v;simp only[LVal.agg];obtain⟨st,fv⟩:=fr;simp only at hR ⊢;have b1:=Z1 w (vO vk vn vt);have l1:=Lo.new (wE:=w) h (Y0 _) h.old.size #[vI vk,vI vn,.string vt] 55;have b2:=b1.trans ((Z1 (w.alloc (vO vk vn vt)) (frO ⟨st,fv⟩)).mono b1.size);have E:=l1.bel (Z1 _ (frO ⟨st,fv⟩));have l3:=Lo.new (wE:=w) (h.below b1) b1.size h.old.size #[.bool st,vI fv] 63;rw[World.size_alloc]at l3;unfold vO frO at b2;unfold vO at l3;unfold frO at E
 obtain⟨z,Y⟩:=zX ((w.alloc (.cells #[vI vk,vI vn,.string vt] 55)).alloc (.cells #[.bool st,vI fv] 63))
 simp only at b2 E;rw[<-Y]at b2 E l3;have dH:=lh l3;clear l3;have F:=h.below b2;have gY:=lh (MFr.of_below (M:=M) b2);have J:vC z (w.heap.size+1) 0 (.bool st):=dH.o.cell rfl;have fl:w.heap.size+1<z.heap.size:=by rw[Y];simp
 have O:=F.cell 10 (vI s.glob) Pl;have HM:=lh F;have U:=lh Y;have HI:=lh hI;have Oz:=lh hr;have vN:=lh oA;have HL:=lh E;have X:=lh (T6 F p name);have qh:=lh (λ(t:ByteArray) W (hB:Below z.heap.size z W)=>KB (F.below hB) t);have pQ:=lh (λ(n:Int) (hn:0<=n∧n<s.H.objects.length) W (hB:Below z.heap.size z W)=>by
  have hp:=yB (F.below hB) hI n name ⟨vk,vn,vt⟩ false;rw[Zgg hn.1 hn.2,show df 0=.nilIface from rfl]at hp;simp only[LVal.agg]at hp;exact hp)
 have HS:=lh (show∀W M',MFr M M' z W->vC W w.heap.size 0 (vI vk)∧vC W w.heap.size 1 (vI vn)∧vC W w.heap.size 2 (.string vt)from
  λW M' f=>⟨(E.fr f).cell rfl,(E.fr f).cell rfl,(E.fr f).cell rfl⟩)
 by_cases hc:p<0∨s.H.has p name=false
 ·rw [Y5 hc] at hR;have dr:decide (p < 0)=true∨decide (p < 0)=false∧s.H.has p name=false:=by
   by_cases y:p<0;·exact .inl (decide_eq_true y)
   .exact .inr ⟨decide_eq_false y,hc.resolve_left y⟩
  cases st
  .simp only[Bool.false_eq_true,if_false]at hR;obtain⟨g,cY⟩:=zX s.glob
   obtain⟨o,ho⟩:=zX (s.H.objectOf p)
   have jN:0<=g∧g<s.H.objects.length:=by rw[cY];exact Zls hr
   have xP:0<=o->o<s.H.objects.length:=λy=>by rw[ho]at y ⊢;exact hI.objLt y
   have HO:=lh (λW (hB:Below z.heap.size z W)=>Z65 (F.below hB).heap p);rw[<-ho]at HO hR;rw[<-cY]at O hR;have Jp:=lh jN;have Ct:=lh xP;have HR:=lh hR;clear hR hc h hI hr oA Y F l1 E b1 b2 cY ho jN xP;rcases dr with I|⟨I,Z⟩
   .have d1:decide (0<=p)=false:=by simp at I ⊢;exact I
    have bD:=lh (show R=f7 () (s.put g name ⟨vk,vn,vt⟩ false) by rw[HR.o,Y3 (by simp at I;omega)]);have Jq:=O;rw[U.o]at Jq;go_enter Tryz.func78,Tryz.ntmps78
    go_wp2_with fail
    rw[<-U.o];clear Jq;refine oi [(true,0),(true,1),(true,2),(true,3),(true,4),(true,5)] [6,7] (λW=>vC W w.heap.size 0 (vI vk)∧vC W w.heap.size 1 (vI vn)∧vC W w.heap.size 2 (.string vt)) (HS.o _ _ (.drew (.refl _ _))) (λbu=>?_);refine ep ?_;refine Z0 ?_;go_wp2_with fail
    refine(pQ.o g Jp.o _ (Ze _)).mono ?_;rintro e w3⟨rfl,M3,h3,f3⟩;have H3:=lh h3;have bE:=lh (gY.o.trans (MFr.trans (.drew (.refl _ _)) f3));clear h3 f3;go_wp2;go_ret;rw[bD.o];exact⟨M3,H3.o,bE.o,rfl⟩
   .rw[Z]at X;have d1:decide (0<=p)=true:=by simp at I ⊢;exact I
    by_cases y:0<=o
    .have d2:decide (0<=o)=true:=decide_eq_true y;have bD:=lh (show R=f7 () (s.put o name ⟨vk,vn,vt⟩ false) by rw[HR.o,Y5 ⟨by simp at I;omega,y⟩]);have HN:=lh (show 0<=o∧o<s.H.objects.length from⟨y,Ct.o y⟩);clear y;go_enter Tryz.func78,Tryz.ntmps78
     go_wp2_with fail
     rw[<-U.o];refine X.o.mono ?_;rintro e w1⟨rfl,m⟩;have Cu:=(m.cell fl).trans J;have mF:=(m.cell HM.o.mbLt).trans O;have av:=lh m;clear m J O;go_wp2_with fail
     refine(HO.o w1 av.o).mono ?_;rintro e w2⟨rfl,rfl⟩;go_wp2_with fail
     refine(HO.o w2 av.o).mono ?_;rintro e w3⟨rfl,rfl⟩;go_wp2_with fail
     refine U8 ?_;intro bu;go_wp2_with fail
     refine(pQ.o o HN.o _ av.o.drew).mono ?_;exact Zvk
    .have d2:decide (0<=o)=false:=decide_eq_false y;have bD:=lh (show R=f7 () (s.put g name ⟨vk,vn,vt⟩ false) by rw[HR.o,Y3 (λe=>y e.2)]);clear y;go_enter Tryz.func78,Tryz.ntmps78
     go_wp2_with fail
     rw[<-U.o];refine X.o.mono ?_;rintro e w1⟨rfl,m⟩;have Cu:=(m.cell fl).trans J;have mF:=(m.cell HM.o.mbLt).trans O;have av:=lh m;clear m J O;go_wp2_with fail
     refine(HO.o w1 av.o).mono ?_;rintro e w2⟨rfl,rfl⟩;go_wp2_with fail
     refine U8 ?_;intro bu;go_wp2_with fail
     refine(pQ.o g Jp.o _ av.o.drew).mono ?_;exact Zvk
  .simp only[if_true]at hR;have HR:=lh hR;clear hR hc h hI hr oA Y F l1 E b1 b2;rcases dr with I|⟨I,Z⟩
   .go_enter Tryz.func78,Tryz.ntmps78
    go_wp2_with fail
    rw[<-U.o];refine(qh.o RO _ (Y2 _ _)).mono ?_;rintro e w1⟨ev,rfl,he,m⟩;have av:=lh m;have HE:=lh he;clear m he;go_wp2;go_ret;rw[HR.o];exact⟨M,HM.o.below av.o,gY.o.trans (.of_below av.o),ev,rfl,HE.o⟩
   .rw[Z]at X;go_enter Tryz.func78,Tryz.ntmps78
    go_wp2_with fail
    rw[<-U.o];refine X.o.mono ?_;rintro e w1⟨rfl,m⟩;have Cu:=(m.cell fl).trans J;have av:=lh m;clear m J O;go_wp2_with fail
    refine(qh.o RO _ av.o).mono ?_;rintro e w2⟨ev,rfl,he,au⟩;have aO:=zT av au;have HE:=lh he;clear au he;go_wp2;go_ret;rw[HR.o];exact⟨M,HM.o.below aO.o,gY.o.trans (.of_below aO.o),ev,rfl,HE.o⟩
 .rw[Y3 hc]at hR;have I:decide (p<0)=false:=decide_eq_false (λe=>hc (.inl e));have Z:s.H.has p name=true:=by
   cases hq:s.H.has p name;·exact absurd (.inr hq) hc
   .rfl
  rw[Z]at X;have hw:=λW (hB:Below z.heap.size z W)=>X0 (F.below hB) hI p name ⟨vk,vn,vt⟩;simp only[LVal.agg]at hw;obtain⟨u,gJ⟩:=zX ((s.H.write p name ⟨vk,vn,vt⟩).2)
  rw[<-gJ]at hw hR;have HW:=lh hw;have HR:=lh hR;clear hR hc h hI hr oA Y F l1 E b1 b2 O Z hw gJ;have aj:(u==6)=true∧u=6∨(u==6)=false∧(u==1)=true∧u=1∨(u==6)=false∧(u==1)=false∧(u==5)=true∧u=5∨(u==6)=false∧(u==1)=false∧(u==5)=false:=by
   simp only[beq_iff_eq,beq_eq_false_iff_ne];omega
  go_enter Tryz.func78,Tryz.ntmps78
  go_wp2_with fail
  rw[<-U.o];refine X.o.mono ?_;rintro e w1⟨rfl,m⟩;have Cu:=(m.cell fl).trans J;have av:=lh m;clear m J;go_wp2_with fail
  refine U8 ?_;intro bu;go_wp2_with fail
  refine(HW.o _ av.o.drew).mono ?_;rintro e w2⟨rfl,M2,h2,f2⟩;have F2:=(MFr.of_below (M:=M) av.o.drew).trans f2;have Jr:vC w2 (w.heap.size+1) 0 (.bool st):=(dH.o.fr F2).cell rfl;have HT:=lh (Zgs w2 u (vN.o.below (h2.old)));have H2:=lh h2;have aZ:=lh F2;clear h2 f2 F2 Cu;go_wp2_with fail
  refine HT.o.mono ?_;rintro e w3⟨rfl,aB⟩;have bP:=lh aB;have OA:=(aB.cell (Y7 fl aZ.o.size)).trans Jr;clear aB Jr;rcases aj with⟨d6,rfl⟩|⟨d6,d1,rfl⟩|⟨d6,d1,d5,rfl⟩|⟨d6,d1,d5⟩
  .have HQ:=lh (KB (H2.o.below bP.o) RO);exact V'
  .have HQ:=lh (KB (H2.o.below bP.o) wh);exact V'
  .cases st
   .go_wp2;go_ret;have hR:=HR.o;simp[f7]at hR;exact Ztf
   .have HQ:=lh (KB (H2.o.below bP.o) wh);exact V'
  .have HD:=lh (show¬u=6∧¬u=1∧¬u=5 from⟨by simpa using d6,by simpa using d1,by simpa using d5⟩);go_wp2;go_ret;have hR:=HR.o;rw[Y3 HD.o.1,Y3 HD.o.2.1,Y3 (λe=>HD.o.2.2 e.1)]at hR;exact Ztf
end
section
variable {C:RCtx}{M M':MRep}{w w':World}{s s':MSt}{B:Nat}{a:ATree}{V:VF}{D:DF}{b:Int}{sc:Int}{fr:Frm}{d:Nat}
theorem Zk5(hC:C.Ok)(oA:OK C.w0)(cA:xH C V b)(hV:VH V b)(h:MAt C M w s)(hI:Inv s (d+2))(hA:FAt s sc fr)(hb:b<=s.steps)(hs:s.steps<=20000)(p:TreeAt w B a)(hf:a.free M)
 {x y:ATree}(hk:a.kids=[x,y])(gi:x.kind=23)(wy:(y.nt C.N).wf .v)(my:(y.nt C.N).tree.many<=1500) :
 Calls Tryz.prog 118 #[vP C.mb,a.ptr,vI sc,.agg #[.bool fr.strict,vI fr.vars]] w λe w'=>al C M w (t8 V (a.nt C.N) sc fr s) e w':=by
 obtain⟨s1,U⟩:=zX (s.look (x.nt C.N) sc x.text)
 obtain⟨ix,iR⟩:=zX (s.H.find sc x.text)
 have hR:t8 V (a.nt C.N) sc fr s=gE (V (y.nt C.N) sc fr) (λv=>gE (Sx ix x.text v fr) λ_=>f7 v) s1:=by
  have e0:(a.nt C.N).kid 0=x.nt C.N:=sp QL;have e1:(a.nt C.N).kid 1=y.nt C.N:=sp QL;unfold t8;rw[e0,Zc,Y5 gi,e1,Zz,U,iR]
 obtain⟨R,aS⟩:=zX (t8 V (a.nt C.N) sc fr s)
 rw[<-aS]at hR ⊢;clear aS;refine IE ?_;intro aI lf lr ln z hz;rw[<-hz]at aI lf lr ln;have aE:=h.below aI;have aJ:=p.bel aI;obtain⟨kg,kc,c3,ct,aR,bO,ba,eU⟩:=p.row hf Qf;rw[hk]at c3 ct bO;have Y:x∈a.kids:=Qf
 have eD:y∈a.kids:=Qf
 have sw:=aJ.kid Y;have f8:=hf.kid Y;have k0:=bO 0 x rfl;have o:=bO 1 y rfl;simp only[List.length_cons,List.length_nil]at c3 ct;obtain⟨Cv,I⟩:=Zce (n:=x.nt C.N) (sc:=sc) (name:=x.text) (d:=d+1) hI;rw[<-U]at Cv I;have hst:=I.steps;have vQ:s1.steps<=20000:=by rw[U,Zh5.2.1];exact hs
 obtain⟨r1,bA⟩:=zX (V (y.nt C.N) sc fr s1)
 have aj:=(hV (y.nt C.N) sc fr s1 _ wy my Cv (hA.ext I) (Int.le_trans hb hst) vQ).1;rw[<-bA]at aj;unfold gE at hR;rw[<-bA]at hR;have fR:=Zd1 hC aE hI.wf hI.own sw sc x.text hI.lens.2.2.2.2.2.2.2;rw[<-iR,<-U]at fR;have oB:=lh fR;have bF:=lh (λW1 M1 (ef:MAt C M1 W1 s1) (ty:TreeAt W1 B y∧y.free M1)=>cA.from ef Cv (hA.ext I) (Int.le_trans hb hst) vQ wy my ty.1 ty.2);rw[<-bA]at bF;have HR:=lh hR;have bR:=lh aj;have ii:=lh (hA.ext I);have po:=lh (aJ.kid eD);have oR:=lh (hf.kid eD);have Z:=lh lr
 have bQ:=lh ln;have bJ:=lh aI;have vN:=lh oA;have bY:=p.lt;have ij:=(p.kid Y).lt;have Am:=(p.kid Y).c0;have sE:=(p.kid Y).c1;have ap:∀W M',MFr M M' z W->vC W w.heap.size 0 (.bool fr.strict)∧vC W w.heap.size 1 (vI fr.vars)∧vC W a.b 3 (.slice (some ⟨kg,0,none⟩) 2 kc)∧vC W kg 1 (vP y.b)∧vC W x.b 1 (.string x.text):=λW M' f=>
  have g:MFr M M' w W:=(MFr.of_below aI).trans f;⟨(lf.fr f).cell rfl,(lf.fr f).cell rfl,(g.cell bY hf.blk).trans c3,(g.cell ba eU).trans o,(g.cell ij f8.blk).trans sE⟩
 have dk:=(aI.cell ij).trans Am;have d1:=(aI.cell ij).trans sE;have e0:=(aI.cell ba).trans k0;have d3:=(aI.cell bY).trans c3;rw[gi]at dk;rw[hz]at d3 e0 dk d1;have HS:=lh ap;have HZ:=lh hz;have HM:=lh aE;have HO:=lh h.old.size;have HE:=lh aI.size;clear c3 k0 o Am sE ap hz aE lf bO hk gi bA aj h hI p aJ sw hR lr ln aI hA hf f8 U iR Cv I hst vQ fR oA;unfold ATree.ptr at oB ⊢;go_enter Tryz.func118,Tryz.ntmps118
 go_wp2_with fail
 rw[<-HZ.o];clear d3 e0 dk d1;refine oB.o.mono ?_;rintro e W0⟨rfl,M0,cF,fJ⟩;have bS:=lh (bF.o W0 M0 cF (fJ.tree po.o oR.o));have dS:=lh (λW M' (f:MFr M0 M' W0 W)=>HS.o W M' (fJ.trans f));have ir:=lh cF;have gY:=lh fJ;have rP:=lh (Y4 HE.o fJ.size);clear cF fJ;go_wp2_with fail
 refine uY (.take 0 (.take 1 (.take 2 (.take 3 (.take 4 (.take 5 (.take 6 (.take 7 (.take 8 (.two 9 (.take 10 (.take 11 (.take 12 (.go 13 (.go 14 (.go 15 (.nil))))))) 13 (.go 9 (.take 10 (.take 11 (.take 12 (.go 14 (.go 15 (.nil))))))))))))))))) 14 (λW=>vC W w.heap.size 0 (.bool fr.strict)∧vC W w.heap.size 1 (vI fr.vars)∧vC W a.b 3 (.slice (some ⟨kg,0,none⟩) 2 kc)∧vC W kg 1 (vP y.b)∧vC W x.b 1 (.string x.text)) (dS.o _ _ (MFr.drew (.refl _ _))) ?_
 refine lM ?_;refine Zt ?_;apply L4 (H:=pV C w M0 W0 r1);·exact RD dS bS rP.o HO.o
 .exact Zwl dS bS ir rP.o HO.o
 intro W1 J M1 o u E bU ai;have F:=gY.o.trans ai.1.2.1;obtain⟨s2,q1⟩:=r1;cases q1 with
 | error x1 =>
   refine Wk ?_;intro he av hR;simp only at hR;subst hR;obtain⟨T1,P1,rfl,hP⟩:=he.ne;have ej:=lh he;have bw:=lh F;obtain⟨q0,q1,q2,z0,z1,z2⟩:=(Z.o.fr F).six;obtain⟨n0,LX,n2,-,-,-⟩:=(bQ.o.fr F).six;clear ai he HR F;go_wp2;refine bodyPost_ret (v:=.tuple #[.agg #[vI 0,vI 0,.string ⟨#[]⟩],.iface T1 (.pointer P1)]) ?_ rfl ?_;·simp[results,Tryz.results118,go_sem,q0,q1,q2]
   .exact .err Z.o bJ.o av.o.1.1 bw.o ej.o
 | ok v1 =>
   obtain⟨rfl,rfl⟩:v1=⟨o,u,E⟩∧bU=.nilIface:=ai.1.2.2;obtain⟨i1,x1,-,ey,i2⟩:=bR.o;have hR:=HR.o;simp only at hR;have sF:=lh (Z9g vN.o ai.1.1.drew i1 (ii.o.root.ext x1) ix x.text ⟨o,u,E⟩ fr);simp only[LVal.agg]at sF;obtain⟨g0,g1,g2,-,-,-⟩:=ai.2.six
   have cD:=lh (show∀W M',MFr M1 M' W1 W->vC W J 0 (vI o)∧vC W J 1 (vI u)∧vC W J 2 (.string E)∧vC W x.b 1 (.string x.text)∧vC W w.heap.size 0 (.bool fr.strict)∧vC W w.heap.size 1 (vI fr.vars)from
    λW M' f=>have g:=HS.o W M' (F.trans f);⟨(ai.2.fr f).cell rfl,(ai.2.fr f).cell rfl,(ai.2.fr f).cell rfl,g.2.2.2.2,g.1,g.2.1⟩)
   have bD:=lh hR;have bw:=lh F;clear ai F hR HR x1 i1 i2 ey g0 g1 g2;go_wp2_with fail
   refine oi [(true,0),(true,1),(true,2),(true,3),(true,4),(true,5),(true,6),(true,7),(true,8),(false,9)] [10,11] (λW=>vC W J 0 (vI o)∧vC W J 1 (vI u)∧vC W J 2 (.string E)∧vC W x.b 1 (.string x.text)∧vC W w.heap.size 0 (.bool fr.strict)∧vC W w.heap.size 1 (vI fr.vars)) (cD.o _ _ (.drew (.refl _ _))) (λbu=>?_);refine ep ?_;refine Z6 (λK hK=>?_);go_simp
   refine sF.o.mono ?_;rintro e W3⟨M3,dL,bq,cu⟩;have O:=(MFr.drew (.refl M1 W1)).trans bq;obtain⟨q0,q1,q2,z0,z1,z2⟩:=(Z.o.fr (bw.o.trans O)).six;have dq:=lh dL;have bE:=lh (bw.o.trans O);obtain⟨r3,dp⟩:=zX (Sx ix x.text ⟨o,u,E⟩ fr s2)
   rw[<-dp]at cu dL dq;have hR:=bD.o;rw[<-dp]at hR;obtain⟨s3,q3⟩:=r3;cases q3 with
   | error x3 =>
     obtain⟨ev,rfl,he⟩:=cu;have An:=cD.o _ _ O;refine hK _ _ An ?_;simp only at hR;subst hR;have il:=lh he;clear hK K dL bq O he dp bD An;refine Z0 ?_;go_wp2;refine bodyPost_ret (v:=.tuple #[.agg #[vI o,vI u,.string E],ev]) ?_ rfl ?_;·simp[results,Tryz.results118,go_sem,q0,q1,q2]
     .exact .err Z.o bJ.o dq.o bE.o il.o
   | ok u3 =>
     have he:e=.returned .nilIface:=cu;subst he;have An:=cD.o _ _ O;refine hK _ _ An ?_;simp only[f7]at hR;subst hR;clear hK K dL bq O dp bD An;refine Z0 ?_;go_wp2;refine bodyPost_ret (v:=.tuple #[.agg #[vI o,vI u,.string E],.nilIface]) ?_ rfl ?_;·simp[results,Tryz.results118,go_sem,q0,q1,q2]
     .exact .fine Z.o bJ.o dq.o bE.o
end
theorem Tryz.fieldsV:Tryz.prog.underlying 55=some (.struct (Tryz.prog.fieldsOf 55)):=by kernel_rfl
theorem Tryz.heldV:Tryz.prog.stoodInHeld 55=false:=by kernel_rfl
theorem Tryz.flV:(Tryz.prog.fieldsOf 55).toList=[⟨"Kind",3,0,false, "", "",0⟩,⟨"N",3,1,false, "", "",8⟩,⟨"S",9,2,false, "", "",16⟩]:=by kernel_rfl
theorem Zr9(w:World)(k n g m:Int)(t t':ByteArray):(binOp .eql 55 (.agg #[vI k,vI n,.string t]) (.agg #[vI g,vI m,.string t'])).run Tryz.prog w=.ok (.bool (LVal.same ⟨k,n,t⟩ ⟨g,m,t'⟩)) w:=by
 rw[run_eql_struct,run_equalIn_agg w 9999 _ _ _ Tryz.fieldsV Tryz.heldV,Tryz.flV];have p:=Yk;have u2:=Yj;have o:∀w,(Op.equalIn 9999 3 (vI k) (vI g)).run Tryz.prog w=.ok (k==g) w:=λw=>run_equalIn_int w 9998 _ _ _ _ _ p;have i2:∀w,(Op.equalIn 9999 3 (vI n) (vI m)).run Tryz.prog w=.ok (n==m) w:=λw=>run_equalIn_int w 9998 _ _ _ _ _ p;have i3:∀w,(Op.equalIn 9999 9 (.string t) (.string t')).run Tryz.prog w=.ok (t.toList==t'.toList) w:=λw=>run_equalIn_string w 9998 _ _ _ u2
 by_cases hk:k=g
 .by_cases hn:n=m
  .simp[go_sem,o,i2,i3,hk,hn,LVal.same,RV];cases Zg t t'<;>rfl
  .simp[go_sem,o,i2,i3,hk,hn,LVal.same]
 .simp[go_sem,o,i2,i3,hk,LVal.same]
theorem bytesLess_eq:∀a b:List UInt8,Op.bytesLess a b=decide (a<b)
 | [],[]=>by simp[Op.bytesLess]
 | [],_::_=>by simp[Op.bytesLess]
 |_::_,[]=>by simp[Op.bytesLess]
 | x :: a, y :: b => by
   simp[Op.bytesLess,List.cons_lt_cons_iff,bytesLess_eq a b];by_cases g:x=y<;>simp[g]
theorem TI(w:World)(b:Bool) :
 Calls Tryz.prog 115 #[.bool b] w λe w'=>e=.returned (.agg #[vI 2,vI (if b then 1 else 0),.string ⟨#[]⟩])∧Below w.heap.size w w':=by
 cases b
 .go_enter Tryz.func115,Tryz.ntmps115
  go_wp2;exact bodyPost_ret (v:=.agg #[vI 2,vI 0,.string ⟨#[]⟩]) QY rfl ⟨rfl,Z1 _ _⟩
 .go_enter Tryz.func115,Tryz.ntmps115
  go_wp2;exact bodyPost_ret (v:=.agg #[vI 2,vI 1,.string ⟨#[]⟩]) QY rfl ⟨rfl,Z1 _ _⟩
section
variable {C:RCtx}{M M':MRep}{w w':World}{s s':MSt}{B:Nat}{a:ATree}{V:VF}{D:DF}{b:Int}{sc:Int}{fr:Frm}{d:Nat}
theorem Zc7{v:LVal}{k:Nat}(h:v.ok k)(hk:k<=1000000000):-9223372036854775808<=v.n∧v.n<=9223372036854775807:=by
 by_cases h5:v.kind=5;·have:=h.2.2.2.2 h5;omega
 .have:=h.2.2.2.1 h5;omega
theorem Z8j(H:LHeap){k:Nat}{v:LVal}(h:v.ok k)(hk:k<=1000000000):(H.shown v).size<=8388608:=by
 have hs:=h.2.2.1;have hb:=Zc7 h hk;have:=Lib.itoa_length_le v.n hb.1 hb.2;unfold LHeap.shown;split;·decide
 split;·decide
 split;·split<;>decide
 split
 .simp[ByteArray.size];omega
 split;·omega
 split<;>decide
theorem Inv.objs(h:Inv s d):s.H.objects.length<=1000000000:=by have:=h.szO;have:=h.steps;omega
theorem Znm(m:F9 C.w0)(h:MAt C M w s)(hI:Inv s d)(v:LVal)(g:v.ok s.H.objects.length):Calls Tryz.prog 24 #[vP C.mb,v.agg] w λe w'=>e=.returned (.string (s.H.shown v))∧Below w.heap.size w w':=
 Zoz h.heap v (Zc7 g hI.objs).1 (Zc7 g hI.objs).2 (m.below h.old)
theorem Zfh(gK:F9 C.w0)(h:MAt C M w s)(hI:Inv s d)(u:Int)(x y:LVal)(hx:x.ok s.H.objects.length)(hy:y.ok s.H.objects.length) :
 Calls Tryz.prog 119 #[vP C.mb,vI u,.agg #[vI x.kind,vI x.n,.string x.s],.agg #[vI y.kind,vI y.n,.string y.s]] w λe w'=>al C M w (TF u x y s) e w':=by
 obtain⟨R,hR⟩:=zX (TF u x y s)
 rw[<-hR];obtain⟨o,g,E⟩:=x;obtain⟨p,m,F⟩:=y;simp only;have b1:=Z1 w (vO o g E);have l1:=Lo.new (wE:=w) h (Y0 _) h.old.size #[vI o,vI g,.string E] 55;have b2:=b1.trans ((Z1 (w.alloc (vO o g E)) (vO p m F)).mono b1.size);have l2:=Lo.new (wE:=w) (h.below b1) b1.size h.old.size #[vI p,vI m,.string F] 55;have l3:=Lo.new (wE:=w) (h.below b2) b2.size h.old.size #[vI 0,vI 0,.string ⟨#[]⟩] 55;have b3:=b2.trans ((Z1 ((w.alloc (vO o g E)).alloc (vO p m F)) (vO 0 0 ⟨#[]⟩)).mono b2.size)
 replace l1:=(l1.bel (Z1 _ (vO p m F))).bel (Z1 _ (vO 0 0 ⟨#[]⟩))
 replace l2:=l2.bel (Z1 _ (vO 0 0 ⟨#[]⟩))
 unfold vO at b3 l1 l2 l3;simp only[World.size_alloc]at l2 l3;obtain⟨z,hz⟩:=zX (((w.alloc (.cells #[vI o,vI g,.string E] 55)).alloc (.cells #[vI p,vI m,.string F] 55)).alloc (.cells #[vI 0,vI 0,.string ⟨#[]⟩] 55))
 rw[<-hz]at b3 l1 l2 l3;have aE:=h.below b3;have ar:=lh l3;have bJ:=lh b3;have HM:=lh aE;have Dg:=lh (λt W (hB:Below z.heap.size z W)=>KB (aE.below hB) t);have hb:=λn=>Zey aE n;have xB:=lh hb;have hi:=λb=>TI z b;have Fe:=lh hi;have q8:=lh (λW (hB:Below z.heap.size z W)=>Znm gK (aE.below hB) hI ⟨o,g,E⟩ hx);have nB:=lh (λW (hB:Below z.heap.size z W)=>Znm gK (aE.below hB) hI ⟨p,m,F⟩ hy);have Ao:=lh (And.intro (Z8j s.H hx hI.objs) (Z8j s.H hy hI.objs))
 have oJ:=lh (show o≠5->-1000000000<=g∧g<=1000000000 from hx.2.2.2.1);have oR:=lh (show p≠5->-1000000000<=m∧m<=1000000000 from hy.2.2.2.1)
 have HS:=lh (show∀W M',MFr M M' z W->vC W w.heap.size 0 (vI o)∧vC W w.heap.size 1 (vI g)∧vC W w.heap.size 2 (.string E)∧vC W (w.heap.size+1) 0 (vI p)∧vC W (w.heap.size+1) 1 (vI m)∧vC W (w.heap.size+1) 2 (.string F)from
  λW M' f=>⟨(l1.fr f).cell rfl,(l1.fr f).cell rfl,(l1.fr f).cell rfl,(l2.fr f).cell rfl,(l2.fr f).cell rfl,(l2.fr f).cell rfl⟩)
 obtain⟨x0,x1,x2,y0,y1,y2⟩:=HS.o z M (.refl _ _);rw[hz]at x0 x1 x2 y0 y1 y2;have HZ:=lh hz;simp only[LVal.agg]at q8 nB;have tU:∀a b:ByteArray,Op.bytesLess a.toList b.toList=Zom a b:=λa b=>by rw[bytesLess_eq];rfl
 clear hz aE l1 l2 l3 b1 b2 b3 hb hi h hI hx hy gK;by_cases I:u=27
 .subst I;simp only[TF,if_true]at hR;obtain⟨bb,px⟩:=zX (LVal.same ⟨o,g,E⟩ ⟨p,m,F⟩)
  rw[<-px]at hR;have ko:∀w,(binOp .eql 55 (.agg #[vI o,vI g,.string E]) (.agg #[vI p,vI m,.string F])).run Tryz.prog w=.ok (.bool bb) w:=λw=>by rw[px];exact Zr9 w _ _ _ _ _ _
  clear px;obtain⟨ib,ex⟩:∃ib:Int,ib=if(bb)=true then 1 else 0:=⟨_,rfl⟩
  have am:R=(s,.ok ⟨2,ib,⟨#[]⟩⟩):=Ri
  have h1:=Fe.o (bb);exact Vs
 have Jo:(u==27)=false:=by simp[I]
 by_cases bI:o=3∧p=3
 .obtain⟨rfl,rfl⟩:=bI;have hx:=oJ.o Pa;have hy:=oR.o Pa;clear oJ oR tU;have nZ:-1000000000000000000<=g*m∧g*m<=1000000000000000000:=by
   have h1:g.natAbs<=1000000000:=O'
   have h2:m.natAbs<=1000000000:=O'
   have h3:(g*m).natAbs<=1000000000*1000000000:=by rw[Int.natAbs_mul];exact Nat.mul_le_mul h1 h2
   omega
  simp only[TF,if_neg I,and_self,if_true]at hR;by_cases J:u=28
  .subst J;simp only[if_true]at hR;clear hx hy nZ I;obtain⟨ib,ex⟩:∃ib:Int,ib=if(decide (g<m))=true then 1 else 0:=⟨_,rfl⟩
   have am:R=(s,.ok ⟨2,ib,⟨#[]⟩⟩):=Ri
   have h1:=Fe.o (decide (g<m));exact Vs
  have Js:(u==28)=false:=by simp[J]
  rw[Y3 J]at hR;by_cases Z:u=29
  .subst Z;simp only[if_true]at hR;have wr:IntKind.i64.wrap (g+m)=g+m:=IntWalk.i64_in _ O';clear hx hy nZ I J;go_enter Tryz.func119,Tryz.ntmps119
   go_wp2_with fail
   rw[<-HZ.o];clear x0 x1 x2 y0 y1 y2;refine(Calls.vres (xB.o (g+m))).mono ?_;rintro e w1⟨M1,k1,n1,t1,bU,rfl,U⟩;obtain⟨q0,q1,q2,z0,z1,z2⟩:=(ar.o.fr U.2.1).six;have av:=lh U;clear U;obtain⟨R0,mB⟩:=zX (Tv (g+m) s)
   exact Vk
  have L5:(u==29)=false:=by simp[Z]
  rw[Y3 Z]at hR;by_cases sG:u=30
  .subst sG;simp only[if_true]at hR;have wr:IntKind.i64.wrap (g-m)=g-m:=IntWalk.i64_in _ O';clear hx hy nZ I J Z;go_enter Tryz.func119,Tryz.ntmps119
   go_wp2_with fail
   rw[<-HZ.o];clear x0 x1 x2 y0 y1 y2;refine(Calls.vres (xB.o (g-m))).mono ?_;rintro e w1⟨M1,k1,n1,t1,bU,rfl,U⟩;obtain⟨q0,q1,q2,z0,z1,z2⟩:=(ar.o.fr U.2.1).six;have av:=lh U;clear U;obtain⟨R0,mB⟩:=zX (Tv (g-m) s)
   exact Vk
  have OB:(u==30)=false:=by simp[sG]
  rw[Y3 sG]at hR;have wr:IntKind.i64.wrap (g*m)=g*m:=IntWalk.i64_in _ O';clear hx hy nZ I J Z sG;go_enter Tryz.func119,Tryz.ntmps119
  go_wp2_with fail
  rw[<-HZ.o];clear x0 x1 x2 y0 y1 y2;refine(Calls.vres (xB.o (g*m))).mono ?_;rintro e w1⟨M1,k1,n1,t1,bU,rfl,U⟩;obtain⟨q0,q1,q2,z0,z1,z2⟩:=(ar.o.fr U.2.1).six;have av:=lh U;clear U;obtain⟨R0,mB⟩:=zX (Tv (g*m) s)
  exact Vk
 have BH:(o==3)=false∨(o==3)=true∧(p==3)=false:=by
  by_cases h1:o=3;·exact .inr ⟨by simp[h1],by simp;exact λh2=>bI ⟨h1,h2⟩⟩
  .exact .inl (by simp[h1])
 clear oJ oR;simp only[TF,if_neg I,if_neg bI]at hR;clear bI;by_cases J:u=28
 .subst J;clear q8 nB;by_cases O:o=4∧p=4
  .obtain⟨rfl,rfl⟩:=O;simp at hR;clear BH I;obtain⟨ib,ex⟩:∃ib:Int,ib=if(Zom E F)=true then 1 else 0:=⟨_,rfl⟩
   have am:R=(s,.ok ⟨2,ib,⟨#[]⟩⟩):=Ri
   have h1:=Fe.o (Zom E F);exact Vs
  .have hc:(o==4)=false∨(o==4)=true∧(p==4)=false:=by
    by_cases h1:o=4;·exact .inr ⟨by simp[h1],by simp;exact λh2=>O ⟨h1,h2⟩⟩
    .exact .inl (by simp[h1])
   rw[Y3 (λe=>O e.2),Y3 (λe=>absurd e.1 Pa)]at hR;simp only[tG,tO]at hR;clear O I;rcases BH with h3|⟨h3,tu⟩<;>rcases hc with hc|⟨hc,mL⟩
   all_goals
    go_enter Tryz.func119,Tryz.ntmps119
    go_wp2_with fail
    rw[<-HZ.o];clear x0 x1 x2 y0 y1 y2;refine(Dg.o wh _ (Y2 _ _)).mono ?_;rintro e w9⟨ev,rfl,he,kR⟩;obtain⟨q0,q1,q2,z0,z1,z2⟩:=(ar.o.fr (MFr.trans (.refl _ _) (.of_below kR))).six;have fT:=lh kR;have HE:=lh he;clear kR he;subst hR;go_wp2;refine bodyPost_ret (v:=.tuple #[.agg #[vI 0,vI 0,.string ⟨#[]⟩],ev]) ?_ rfl ?_;·simp[results,Tryz.results119,go_sem,q0,q1,q2]
    .exact .err ar.o bJ.o (HM.o.below fT.o) (MFr.trans (.refl _ _) (.of_below fT.o)) HE.o
 have Js:(u==28)=false:=by simp[J]
 rw[Y3 (λe=>J e.1)]at hR;by_cases Z:u=29
 .subst Z;by_cases O:o=4∨p=4
  .rw[Y5 ⟨rfl,O⟩]at hR;have hc:(o==4)=true∨(o==4)=false∧(p==4)=true:=by
    by_cases h1:o=4;·exact .inl (by simp[h1])
    .exact .inr ⟨by simp[h1],by simp;exact O.resolve_left h1⟩
   obtain⟨X,hX⟩:=zX (s.H.shown ⟨o,g,E⟩)
   obtain⟨Y,hY⟩:=zX (s.H.shown ⟨p,m,F⟩)
   rw[<-hX]at hR q8 Ao;rw[<-hY]at hR nB Ao;have be:(X++Y).size=X.size+Y.size:=ByteArray.size_append;have dP:=Ao.o.1;have L6:=Ao.o.2;have dG:(X.size:Int)+Y.size<=9223372036854775807:=O'
   have sn:X.size+Y.size<=9223372036854775807:=O'
   obtain⟨XY,Cw⟩:=zX (X++Y)
   rw[<-Cw]at hR be;have OC:=lh Cw;have L7:∀w,(Op.stringOp .add X Y).run Tryz.prog w=.ok (.string XY) w:=λw=>by rw[Cw];exact run_string_add_sum w X Y sn
   have HR:=lh hR;have OD:=lh be;clear O I J Js hX hY tU Cw hR be dP L6 dG sn Ao;have Ff:decide (500<(XY.size:Int))=true∧500<XY.size∨decide (500<(XY.size:Int))=false∧¬500<XY.size:=by
    by_cases h9:500<XY.size;·exact .inl ⟨decide_eq_true O',h9⟩
    .exact .inr ⟨decide_eq_false O',h9⟩
   rcases BH with h3|⟨h3,tu⟩<;>rcases hc with hc|⟨hc,mL⟩<;>rcases Ff with⟨uS,vR⟩|⟨uS,vR⟩
   all_goals
    have hR:=HR.o;simp only[vR,if_true,if_false,tG,tO,f7]at hR;have sH:=lh vR;clear HR vR;go_enter Tryz.func119,Tryz.ntmps119
    go_wp2_with fail
    rw[<-HZ.o];clear x0 x1 x2 y0 y1 y2;refine oi [(true,0),(true,1),(true,2),(true,3),(true,5),(true,6),(true,7),(true,8),(false,4)] [9,10,11] (λW=>vC W w.heap.size 0 (vI o)∧vC W w.heap.size 1 (vI g)∧vC W w.heap.size 2 (.string E)∧vC W (w.heap.size+1) 0 (vI p)∧vC W (w.heap.size+1) 1 (vI m)∧vC W (w.heap.size+1) 2 (.string F)) (HS.o _ _ (.drew (.refl _ _))) (λbu=>?_);refine ep ?_
    refine Z6 (λK hK=>?_);go_simp
    refine(q8.o _ (Ze _)).mono ?_;rintro e w1⟨rfl,aL⟩;have vS:=(Ze z).trans (aL.mono (Y0 _));refine hK _ _ (HS.o _ _ (.of_below vS)) ?_;clear hK K;have av:=lh vS;clear aL vS;refine Z0 ?_;go_wp2_with fail
    refine(nB.o w1 av.o).mono ?_;rintro e w2⟨rfl,au⟩;have aO:=zT av au;clear au;have Fg:=lh (Dg.o Sp w2 aO.o);have sI:=lh (Y' w2 XY);simp only[LVal.agg]at sI;go_wp2_with fail
   iterate 4
    .refine Fg.o.mono ?_;rintro e w9⟨ev,rfl,he,kR⟩;obtain⟨q0,q1,q2,z0,z1,z2⟩:=(ar.o.fr (MFr.trans (.of_below aO.o) (.of_below kR))).six;have fT:=lh kR;have HE:=lh he;clear kR he;subst hR;go_wp2;refine bodyPost_ret (v:=.tuple #[.agg #[vI 0,vI 0,.string ⟨#[]⟩],ev]) ?_ rfl ?_;·simp[results,Tryz.results119,go_sem,q0,q1,q2]
     .exact .err ar.o bJ.o ((HM.o.below aO.o).below fT.o) (MFr.trans (.of_below aO.o) (.of_below fT.o)) HE.o
    .refine sI.o.mono ?_;rintro e w9⟨rfl,kR⟩;obtain⟨q0,q1,q2,z0,z1,z2⟩:=(ar.o.fr ((MFr.of_below aO.o).trans (.of_below kR))).six;have fT:=lh kR;clear kR;subst hR;go_wp2;refine bodyPost_ret (v:=.tuple #[.agg #[vI 4,vI 0,.string XY],.nilIface]) ?_ rfl ?_;·simp[results,Tryz.results119,go_sem,q0,q1,q2]
     .exact .fine ar.o bJ.o ((HM.o.below aO.o).below fT.o) ((MFr.of_below aO.o).trans (.of_below fT.o))
  .have OE:(o==4)=false:=by simp;exact λh1=>O (.inl h1)
   have OF:(p==4)=false:=by simp;exact λh1=>O (.inr h1)
   rw[Y3 (λe=>O e.2)]at hR;simp only[tG,tO]at hR;clear O I J q8 nB;exact XT
 .have L5:(u==29)=false:=by simp[Z]
  rw[Y3 (λe=>Z e.1)]at hR;simp only[tG,tO]at hR;clear I J Z q8 nB;exact XT
end
