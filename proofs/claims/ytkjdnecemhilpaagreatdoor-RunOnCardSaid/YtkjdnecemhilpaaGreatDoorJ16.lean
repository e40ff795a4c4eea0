import Derived.Test.YtkjdnecemhilpaaGreatDoorJ15
import Derived.Stop.Asserts
set_option maxRecDepth 100000
set_option maxHeartbeats 20000000
set_option linter.all false
namespace Go.Proofs.YtkjdnecemhilpaaGreatDoor
open Go Go.RowKit Go.Proofs.Tryz Tryz
def S6(F d:Nat)(l:List Tree)(ts:List Tok):PR:=
 if ad Zl ts then Zn (Z0 F (.block false) d ts.tail) λc ts=>fH (.mk 12 ByteArray.empty 0 (l++[.mk 14 ByteArray.empty 0 [c]])) ts
 else if l.length=1 then r' 3 ts else fH (.mk 12 ByteArray.empty 0 l) ts
def Zmg(F d:Nat)(b:Tree)(ts:List Tok):PR:=
 if ad IL ts then iE tO ts.tail λts=>tK ts λs ts=>iE tQ ts λts=>Zn (Z0 F (.block false) d ts) λc ts=>S6 F d [b,.mk 13 s 0 [c]] ts
 else S6 F d [b] ts
theorem Zkm(F d:Nat)(ts:List Tok):Z0 (F+1) .try_ d ts=Zn (Z0 F (.block false) d ts) λb ts=>Zmg F d b ts:=rfl
def Zqb(F:Nat)(hB:ay 73 (λrb=>#[vP rb,.bool false]) (.block false) F) :
 ay 81 bO .try_ (F+1):=by
 intro w rb B d ts r hP hp;rw[Zkm]at hp;obtain⟨HP,HB,H1⟩:=ds hP hB hp;have aA:=hP.lt;unfold bO;clear hP hp hB;rcases Zg H1.o with⟨⟨c,p⟩,hv,rfl⟩|⟨t0,us,hv,h2⟩
 .have u:=HB.o w rb B d _ _ HP.o hv;simp only at u;have u:=lh u;clear hv;go_enter func81,ntmps81
  go_wp2_with fail
  refine u.o.mono ?_;exact TP
 have u:=HB.o w rb B d _ _ HP.o hv;simp only at u;obtain⟨u,HL,sA⟩:=ds u (T6 hv) h2;clear hv h2;go_enter func81,ntmps81
 go_wp2_with fail
 refine u.o.mono ?_;rintro e w1⟨g,rfl,zK,dB,dc⟩;have ai:kW w1 (w1.alloc (.cells #[vP g.b] 22)):=(Y2 _ _).alloc (Y0 _) _;have aw:kW w1 ((w1.alloc (.cells #[vP g.b] 22)).alloc (.cells #[vI 12,.string ⟨#[]⟩,vI 0,.slice (some ⟨w1.heap.size,0,none⟩) 1 1] 28)):=ai.alloc Qm _;have hA:=Got.one (k:=12) (t:=⟨#[]⟩) HP.o.le dc zK;have an:=dB.below aw;have Y:=dc.trans (RFr.below (rb:=rb) aw)
 have HN:=lh (wj (w1.alloc (.cells #[vP g.b] 22)) rb 12 ⟨#[]⟩ (some ⟨w1.heap.size,0,none⟩) 1 1);obtain⟨sb,Z⟩:=zX w1.heap.size
 rw[<-Z]at HN hA aw an Y;go_wp2_with fail
 rw[<-Z];refine HN.o.mono ?_;rintro e w2⟨rfl,cj⟩;have ba:(w1.alloc (.cells #[vP g.b] 22)).heap.size=sb+1:=by rw[Z];simp
 rw[ba];obtain⟨nb,dl⟩:=zX (sb+1)
 rw[<-dl]at hA ⊢;have hA:Got w B w2 (.mk nb (.slice (some ⟨sb,0,none⟩) 1 1) 12 ⟨#[]⟩ 0 [g]) (.mk 12 ⟨#[]⟩ 0 [t0]):=by rw[cj];exact hA
 rw[<-cj]at an Y;obtain⟨N,FQ,PQ,cD⟩:=gp hA Y (HP.o.next an Y HL.o) Z;clear zK dB dc ai aw hA an Y HN Z cj ba dl u;by_cases hc:ad IL us=true
 ·have hq := sA.o;unfold Zmg at hq;rw [Y5 hc] at hq;have HQ1 := lh hq;have HT := xi _ rb us d IL PQ.o.rd hc;unfold IL at HT;have HT := lh HT;clear hc hq;go_wp2_with fail
  refine HT.o.mono ?_;rintro e w3⟨rfl,bI,bh⟩;obtain⟨N,PQ,FQ⟩:=ds (N.o.rfr aA bh) (PQ.o.tail bI bh) (FQ.o.trans bh);clear bI bh HT;rcases Un HQ1.o with⟨hs,h2⟩|⟨hs,rfl⟩
  .have HT:=MN _ rb us.tail d tO PQ.o.rd hs;unfold tO at HT;have HT:=lh HT;have ci:=lh h2;clear hs h2;go_wp2_with fail
   refine HT.o.mono ?_;rintro e w4⟨rfl,eM,O⟩;obtain⟨N,PQ,FQ⟩:=ds (N.o.rfr aA O) (PQ.o.tail eM O) (FQ.o.trans O);clear eM O HT;rcases XO ci.o with⟨hk,h1⟩|⟨hk,rfl⟩
   .have HT:=lh (Vr _ rb us.tail.tail d PQ.o.rd hk);obtain⟨s,hs⟩:=zX ((al us.tail.tail).text)
    rw[<-hs]at HT h1;have ni:=lh h1;clear hk h1 hs;go_wp2_with fail
    refine HT.o.mono ?_;rintro e w5⟨rfl,mB,eP⟩;obtain⟨N,PQ,FQ⟩:=ds (N.o.rfr aA eP) (PQ.o.tail mB eP) (FQ.o.trans eP);clear mB eP HT;rcases Un ni.o with⟨hs,h2⟩|⟨hs,rfl⟩
    .have HT:=MN _ rb us.tail.tail.tail d tQ PQ.o.rd hs;unfold tQ at HT;have HT:=lh HT;have H2:=lh h2;clear hs h2;go_wp2_with fail
     refine HT.o.mono ?_;rintro e w6⟨rfl,jH,fF⟩;obtain⟨N,PQ,FQ⟩:=ds (N.o.rfr aA fF) (PQ.o.tail jH fF) (FQ.o.trans fF);have HL:=lh (show us.tail.tail.tail.tail.length<=ts.length by have:=HL.o;simp only[List.length_tail];omega);clear jH fF HT;refine XQ ?_;intro ac;have I:w6.cell? ⟨nb,3,none⟩=some (.slice (some ⟨sb,0,none⟩) 1 1):=Qk
     clear ac;go_wp2_with fail
     refine Z7 [0,2,4,6,8,10,12,14,17,19,21,23,25] [13,14,15] (λW=>vC W nb 3 (.slice (some ⟨sb,0,none⟩) 1 1)) I λ_=>?_;refine dS ?_
     iterate 8
      refine dq ?_
     refine Ze (λK hK=>?_);go_simp
     have P7:Pre w6.drew rb B d _:=PQ.o.below (Y2 _ _).drew;rcases Zg H2.o with⟨⟨c,p⟩,hv,rfl⟩|⟨t,vs,hv,fQ⟩
     .refine(HB.o w6.drew rb B d _ _ P7 hv).mono ?_;exact Uz
     have dr:=T6 hv;have eY:=lh fQ;refine(HB.o w6.drew rb B d _ _ P7 hv).mono ?_;rintro e w7⟨x,rfl,hX,lZ,dM⟩;have eN:RFr w6 w7 rb:=(RFr.refl w6 rb).drew.trans dM;have kM:=N.o.rfr aA eN;refine Zv0 ?_;intro ac;have m3:w7.cell? ⟨nb,3,none⟩=some (.slice (some ⟨sb,0,none⟩) 1 1):=Qk
     refine hK _ _ m3 ?_;clear hK K;refine U4 ?_;intro K hK ai;refine hK _ _ ((ai.cell (p:=⟨nb,3,none⟩) (Y1.1 ac).1).trans m3) ?_;clear hK K;refine Ze (λK hK=>?_);go_simp
     have hA:=Got.one (w0:=w6.drew) (w:=w7) (rb:=rb) (k:=13) (t:=s) (Y4 HP.o.le FQ.o.size) dM hX;have aw:kW w7 ((w7.alloc (.cells #[vP x.b] 22)).alloc (.cells #[vI 13,.string s,vI 0,.slice (some ⟨w7.heap.size,0,none⟩) 1 1] 28)):=ai.alloc Qm _;refine(wj (w7.alloc (.cells #[vP x.b] 22)) rb 13 s (some ⟨w7.heap.size,0,none⟩) 1 1).mono ?_;rintro e dx⟨rfl,da⟩
     have hA:Got w6.drew B dx (.mk (w7.heap.size+1) (.slice (some ⟨w7.heap.size,0,none⟩) 1 1) 13 s 0 [x]) (.mk 13 s 0 [t]):=Sv
     rw[<-da]at aw;refine Zsq ?_;intro fL bI cI;clear ac m3 da ai;refine ui ?_;intro ac;have m3:dx.cell? ⟨nb,3,none⟩=some (.slice (some ⟨sb,0,none⟩) 1 1):=Qk
     refine Iq ?_;intro mz dm dK aH;have gK:([g]).length<=8:=Qm
     refine Zmy ?_;intro fT;rw[fT];obtain⟨a,ha⟩:∃a:ATree,a=.mk (w7.heap.size+1) (.slice (some ⟨w7.heap.size,0,none⟩) 1 1) 13 s 0 [x]:=⟨_,rfl⟩
     rw[<-ha]at hA;refine Zm3 ?_;intro jv;rw[jv];clear ha jv fT;refine Tu ?_;intro N3 A3 R3;obtain⟨jD,NE,NA,fP⟩:=gp (FQ.o.trans cI) aH (show∀y∈(ATree.mk nb (.slice (some ⟨sb,0,none⟩) 1 1) 12 ⟨#[]⟩ 0 [g]).blocks,y<w6.drew.heap.size from λy hy=>(N.o.new y hy).2) dr;refine vB ?_;intro i0 hi aC bj bJ;clear hK K hA bI cI fL ac dK aH I hX lZ dM eN kM aw hv fQ P7 dr;refine ub ?_;intro K hK
     refine step_append_lies _ Qt (.tmp 22) (.tmp 29) 26 Qt B 22 i0 _ 1 8 underlying26 hi aC bj bJ rfl Qg (.slice (some ⟨sb,0,none⟩) 1 1) ([g]).length (([g]).map ATree.ptr) Qt (N3.o.at'.rowOf.alloc _) ⟨dx.heap.size,0,none⟩ 1 1 [a.ptr] Qt rfl (Ya (cs:=#[a.ptr]) (t:=22) (fr:=(0,0)) (Yq dx _)) Qv Qg Qj Qe Qu (dx.heap.size+1) Qm ?_;intro m cap w4 aU aB bV ca
     refine Zwi ?_;intro m4;refine vf ?_;clear hK K;intro lX;refine Zr9 ?_;clear aB aU bV ca;intro ct;go_wp2_with fail
     have uV:Got w B (w4.setCell ⟨nb,3,none⟩ (.slice (some ⟨m,0,none⟩) 2 cap)) (.mk nb (.slice (some ⟨m,0,none⟩) 2 cap) 12 ⟨#[]⟩ 0 [g,a]) (.mk 12 ⟨#[]⟩ 0 [t0,.mk 13 s 0 [t]]):=by
      exact Wz
     have O:RFr w (w4.setCell ⟨nb,3,none⟩ (.slice (some ⟨m,0,none⟩) 2 cap)) rb:=ct.o.2.1;have eM:Rd (w4.setCell ⟨nb,3,none⟩ (.slice (some ⟨m,0,none⟩) 2 cap)) rb vs d:=ct.o.2.2;have Jy:vs.length<=ts.length:=by have:=fP.o;have:=HL.o;omega
     have E8:Pre (w4.setCell ⟨nb,3,none⟩ (.slice (some ⟨m,0,none⟩) 2 cap)) rb B d vs:=HP.o.next eM O Jy;obtain⟨w5,CN⟩:=zX (w4.setCell ⟨nb,3,none⟩ (.slice (some ⟨m,0,none⟩) 2 cap))
     have Pg:=lh CN;rw[<-CN]at uV O E8;obtain⟨N,FQ,PQ,HQ⟩:=gp uV O E8 (show S6 F d [t0,.mk 13 s 0 [t]] vs=some r from eY.o);clear uV O eM Jy E8 ct m4 lX NA NE A3 N3 R3 jD m3 mz dm gK;rw[<-CN];clear CN;obtain⟨c0,rfl⟩:∃c0:ATree,c0=a:=⟨_,rfl⟩
     obtain⟨tc,rfl⟩:∃tc:Tree,tc=t:=⟨_,rfl⟩
     obtain⟨J,rfl⟩:∃J:Nat,J=m:=⟨_,rfl⟩
     obtain⟨X,rfl⟩:∃c2:Nat,c2=cap:=⟨_,rfl⟩
     obtain⟨ox,rfl⟩:∃c2:List Tok,c2=vs:=⟨_,rfl⟩
     by_cases hf:ad Zl ox=true
     .have hq:=HQ.o;unfold S6 at hq;rw[Y5 hf]at hq;have H2:=lh hq;have HT:=xi _ rb ox d Zl PQ.o.rd hf;unfold Zl at HT;have HT:=lh HT;clear hf hq;go_wp2_with fail
      refine Zrh ?_;clear HT;intro wf N PQ FQ;refine XQ ?_;intro ac;have I:wf.cell? ⟨nb,3,none⟩=some (.slice (some ⟨J,0,none⟩) 2 X):=Qk
      clear ac;go_wp2_with fail
      refine Z7 [0,2,4,6,8,10,12,15,17,19,21,23] [12,13,14] (λW=>vC W nb 3 (.slice (some ⟨J,0,none⟩) 2 X)) I λ_=>?_;refine dS ?_
      iterate 7
       refine dq ?_
      refine Zqi ?_;intro K hK P7;rcases Zg H2.o with⟨⟨c,p⟩,hv,rfl⟩|⟨t,vs,hv,fQ⟩
      .refine(HB.o wf.drew rb B d _ _ P7 hv).mono ?_;exact Uz
      refine Zva ?_;intro dr eY w7 x hX lZ dM eN kM;refine Zv0 ?_;intro ac;have m3:w7.cell? ⟨nb,3,none⟩=some (.slice (some ⟨J,0,none⟩) 2 X):=Qk
      refine hK _ _ m3 ?_;clear hK K;refine U4 ?_;intro K hK ai;refine hK _ _ ((ai.cell (p:=⟨nb,3,none⟩) (Y1.1 ac).1).trans m3) ?_;clear hK K;refine Zvq ?_;intro K hK hA;refine Aap ?_;intro aw dx da hA;rw[<-da]at aw;have fL:=kM.rfr aA (RFr.below (rb:=rb) aw);have bI:=lZ.below aw;have cI:RFr wf dx rb:=eN.trans (RFr.below aw);clear ac m3 da ai;refine ui ?_;intro ac;have m3:dx.cell? ⟨nb,3,none⟩=some (.slice (some ⟨J,0,none⟩) 2 X):=Qk
      refine Iq ?_;intro mz dm dK aH;have gK:([g,c0]).length<=8:=Qm
      refine Zmy ?_;intro fT;rw[fT];obtain⟨a,ha⟩:∃a:ATree,a=.mk (w7.heap.size+1) (.slice (some ⟨w7.heap.size,0,none⟩) 1 1) 14 ⟨#[]⟩ 0 [x]:=⟨_,rfl⟩
      rw[<-ha]at hA;refine Zm3 ?_;intro jv;rw[jv];clear ha jv fT;refine Tu ?_;intro N3 A3 R3;obtain⟨jD,NE,NA,fP⟩:=gp (FQ.o.trans cI) aH (show∀y∈(ATree.mk nb (.slice (some ⟨J,0,none⟩) 2 X) 12 ⟨#[]⟩ 0 [g,c0]).blocks,y<wf.drew.heap.size from λy hy=>(N.o.new y hy).2) dr;refine vB ?_;intro i0 hi aC bj bJ;clear hK K hA bI cI fL ac dK aH I hX lZ dM eN kM aw hv fQ P7 dr;refine ub ?_;intro K hK
      refine step_append_lies _ Qt (.tmp 39) (.tmp 45) 26 Qt B 22 i0 _ 1 8 underlying26 hi aC bj bJ rfl Qg (.slice (some ⟨J,0,none⟩) 2 X) ([g,c0]).length (([g,c0]).map ATree.ptr) Qt (N3.o.at'.rowOf.alloc _) ⟨dx.heap.size,0,none⟩ 1 1 [a.ptr] Qt rfl (Ya (cs:=#[a.ptr]) (t:=22) (fr:=(0,0)) (Yq dx _)) Qv Qg Qj Qe Qu (dx.heap.size+1) Qm ?_
      intro m cap w4 aU aB bV ca;have m4:vC w4 nb 3 (.slice (some ⟨J,0,none⟩) 2 X):=(aB.cell_far ⟨nb,3,none⟩ Qi (λe=>NE.o e.symm)).trans ((Zb dm).trans m3);refine vf ?_;clear hK K;intro lX;refine VV ?_;clear aB aU bV ca;intro ct;have oW:=Yc eY.o;have pR:=lh oW.symm;have ac:=ct.o.1.at'.blkOf;simp only[ATree.b,ATree.v,ATree.kind,ATree.text,ATree.n]at ac
      have e3:(w4.setCell ⟨nb,3,none⟩ (.slice (some ⟨m,0,none⟩) (([g,c0]).length+1) cap)).cell? ⟨nb,3,none⟩=some (.slice (some ⟨m,0,none⟩) (([g,c0]).length+1) cap):=by unfold World.cell?;rw[ac];rfl
      have n1:(((([g,c0]).length+1:Nat):Int)==1)=false:=Qm
      clear oW ac;go_wp2;go_ret;rw[pR.o];refine⟨.mk nb (.slice (some ⟨m,0,none⟩) (([g,c0]).length+1) cap) 12 ⟨#[]⟩ 0 ([g,c0]++[a]),rfl,?_,ct.o.2.2,ct.o.2.1⟩;exact Wz
     .have z8:ad Zl ox=false:=by simpa using hf
      have hq:=HQ.o;unfold S6 at hq;rw[Y3 hf]at hq;have ci:=lh hq;have HT:=yn _ rb ox d Zl PQ.o.rd z8;unfold Zl at HT;have HT:=lh HT;clear hf z8 hq;go_wp2_with fail
      refine HT.o.mono ?_;refine Zsu ?_;intro wf kP N PQ FQ;refine XQ ?_;intro ac;have I:wf.cell? ⟨nb,3,none⟩=some (.slice (some ⟨J,0,none⟩) 2 X):=Qk
      clear kP HT ac;have hq:=ci.o;rw[Y3 Qm]at hq;have pR:=lh (Yc hq).symm;clear hq;go_wp2;go_ret;rw[pR.o];exact⟨_,rfl,N.o,PQ.o.rd,FQ.o⟩
    .have HT:=Tz _ rb us.tail.tail.tail d tQ PQ.o.rd hs;unfold tQ at HT;have HT:=lh HT;clear hs;exact ZJ
   .have HT:=lh (WU _ rb us.tail.tail d PQ.o.rd hk);clear hk;exact ZJ
  .have HT:=Tz _ rb us.tail d tO PQ.o.rd hs;unfold tO at HT;have HT:=lh HT;clear hs;exact ZJ
 .have mM:ad IL us=false:=by simpa using hc
  have hq:=sA.o;unfold Zmg at hq;rw[Y3 hc]at hq;have HQ:=lh hq;have HT:=yn _ rb us d IL PQ.o.rd mM;unfold IL at HT;have HT:=lh HT;clear hc mM hq;go_wp2_with fail
  refine HT.o.mono ?_;rintro e w3⟨rfl,U⟩;obtain⟨N,PQ,FQ⟩:=ds (N.o.rfr aA (RFr.below (rb:=rb) U)) (PQ.o.below U) (FQ.o.trans (RFr.below (rb:=rb) U));clear U HT;by_cases hf:ad Zl us=true
  .have hq:=HQ.o;unfold S6 at hq;rw[Y5 hf]at hq;have H2:=lh hq;have HT:=xi _ rb us d Zl PQ.o.rd hf;unfold Zl at HT;have HT:=lh HT;clear hf hq;go_wp2_with fail
   refine Zrh ?_;clear HT;intro wf N PQ FQ;refine XQ ?_;intro ac;have I:wf.cell? ⟨nb,3,none⟩=some (.slice (some ⟨sb,0,none⟩) 1 1):=Qk
   clear ac;go_wp2_with fail
   refine Z7 [0,2,4,6,8,10,12,15,17,19,21,23] [12,13,14] (λW=>vC W nb 3 (.slice (some ⟨sb,0,none⟩) 1 1)) I λ_=>?_;refine dS ?_
   iterate 7
    refine dq ?_
   refine Zqi ?_;intro K hK P7;rcases Zg H2.o with⟨⟨c,p⟩,hv,rfl⟩|⟨t,vs,hv,fQ⟩
   .refine(HB.o wf.drew rb B d _ _ P7 hv).mono ?_;exact Uz
   refine Zva ?_;intro dr eY w7 x hX lZ dM eN kM;refine Zv0 ?_;intro ac;have m3:w7.cell? ⟨nb,3,none⟩=some (.slice (some ⟨sb,0,none⟩) 1 1):=Qk
   refine hK _ _ m3 ?_;clear hK K;refine U4 ?_;intro K hK ai;refine hK _ _ ((ai.cell (p:=⟨nb,3,none⟩) (Y1.1 ac).1).trans m3) ?_;clear hK K;refine Zvq ?_;intro K hK hA;refine Aap ?_;intro aw dx da hA;rw[<-da]at aw;have fL:=kM.rfr aA (RFr.below (rb:=rb) aw);have bI:=lZ.below aw;have cI:RFr wf dx rb:=eN.trans (RFr.below aw);clear ac m3 da ai;refine ui ?_;intro ac;have m3:dx.cell? ⟨nb,3,none⟩=some (.slice (some ⟨sb,0,none⟩) 1 1):=Qk
   refine Iq ?_;intro mz dm dK aH;have gK:([g]).length<=8:=Qm
   refine Zmy ?_;intro fT;rw[fT];obtain⟨a,ha⟩:∃a:ATree,a=.mk (w7.heap.size+1) (.slice (some ⟨w7.heap.size,0,none⟩) 1 1) 14 ⟨#[]⟩ 0 [x]:=⟨_,rfl⟩
   rw[<-ha]at hA;refine Zm3 ?_;intro jv;rw[jv];clear ha jv fT;refine Tu ?_;intro N3 A3 R3;obtain⟨jD,NE,NA,fP⟩:=gp (FQ.o.trans cI) aH (show∀y∈(ATree.mk nb (.slice (some ⟨sb,0,none⟩) 1 1) 12 ⟨#[]⟩ 0 [g]).blocks,y<wf.drew.heap.size from λy hy=>(N.o.new y hy).2) dr;refine vB ?_;intro i0 hi aC bj bJ;clear hK K hA bI cI fL ac dK aH I hX lZ dM eN kM aw hv fQ P7 dr;refine ub ?_;intro K hK
   refine step_append_lies _ Qt (.tmp 39) (.tmp 45) 26 Qt B 22 i0 _ 1 8 underlying26 hi aC bj bJ rfl Qg (.slice (some ⟨sb,0,none⟩) 1 1) ([g]).length (([g]).map ATree.ptr) Qt (N3.o.at'.rowOf.alloc _) ⟨dx.heap.size,0,none⟩ 1 1 [a.ptr] Qt rfl (Ya (cs:=#[a.ptr]) (t:=22) (fr:=(0,0)) (Yq dx _)) Qv Qg Qj Qe Qu (dx.heap.size+1) Qm ?_;intro m cap w4 aU aB bV ca
   refine Zwi ?_;intro m4;refine vf ?_;clear hK K;intro lX;refine VV ?_;clear aB aU bV ca;intro ct;have oW:=Yc eY.o;have pR:=lh oW.symm;have ac:=ct.o.1.at'.blkOf;simp only[ATree.b,ATree.v,ATree.kind,ATree.text,ATree.n]at ac;have e3:(w4.setCell ⟨nb,3,none⟩ (.slice (some ⟨m,0,none⟩) (([g]).length+1) cap)).cell? ⟨nb,3,none⟩=some (.slice (some ⟨m,0,none⟩) (([g]).length+1) cap):=by unfold World.cell?;rw[ac];rfl
   have n1:(((([g]).length+1:Nat):Int)==1)=false:=Qm
   clear oW ac;go_wp2;go_ret;rw[pR.o];refine⟨.mk nb (.slice (some ⟨m,0,none⟩) (([g]).length+1) cap) 12 ⟨#[]⟩ 0 ([g]++[a]),rfl,?_,ct.o.2.2,ct.o.2.1⟩;exact Wz
  .have z8:ad Zl us=false:=by simpa using hf
   have hq:=HQ.o;unfold S6 at hq;rw[Y3 hf]at hq;have ci:=lh hq;have HT:=yn _ rb us d Zl PQ.o.rd z8;unfold Zl at HT;have HT:=lh HT;clear hf z8 hq;go_wp2_with fail
   refine HT.o.mono ?_;refine Zsu ?_;intro wf kP N PQ FQ;refine XQ ?_;intro ac;have I:wf.cell? ⟨nb,3,none⟩=some (.slice (some ⟨sb,0,none⟩) 1 1):=Qk
   clear kP HT ac;have hq:=ci.o;rw[Y5 (show[t0].length=1 from rfl)]at hq;obtain rfl:=Yc hq;have HF:=lh (UF wf rb us d 3 PQ.o.rd);clear hq;exact UT
def Zl7(f:Nat)(xS:ay 73 (λrb=>#[vP rb,.bool false]) (.block false) f)
 (hD:∀k m,ay 76 (λrb=>#[vP rb,vI k,.bool m]) (.decl k m) f)
 (zS:∀s,ay 77 (λrb=>#[vP rb,vI 5,.string s]) (.func 5 s) f)
 (hA:ay 79 bO .around f)(hS:ay 42 bO .stmt f)
 (hV:ay 80 bO .value f)(hT:ay 81 bO .try_ f):ay 42 bO .stmt (f+1):=by
 intro w rb B d ts r hP hp;obtain⟨HP,tD,U,vK,HA,HS,HV,kR⟩:=ld hP xS hD zS hA hS hV hT;have aA:=hP.lt;have kA:=hp;rw[Z0]at kA;obtain⟨HQ,P0,F0⟩:=ds kA hP (RFr.refl w rb);refine D8 ?_;intro iT;clear hP hp xS hD zS hA hS hV hT kA;unfold bO;go_enter func42,ntmps42
 by_cases h:ad Ay ts=true
 .have hq:=HQ.o;rw[Y5 h]at hq;have I:=lh hq;have F:=SK w rb ts d Ay P0.o.rd;rw[h]at F;unfold Ay at F;have F:=lh F;clear h hq;go_wp2_with fail
  refine F.o.mono ?_;rintro e w2⟨rfl,g⟩;have F2:=lh (F0.o.trans (RFr.below (rb:=rb) g));have HC:=tD.o w2 rb B d _ r (P0.o.below g) I.o;simp only at HC;have HC:=lh HC;clear g F;exact Aa2
 have u:ad Ay ts=false:=QR
 have hq:=HQ.o;rw[Y3 h]at hq;have E9:=lh hq;have F:=SK w rb ts d Ay P0.o.rd;rw[u]at F;unfold Ay at F;have F:=lh F;clear h u hq;go_wp2_with fail
 refine F.o.mono ?_;rintro e Jz⟨rfl,g⟩;have Ac:=lh (P0.o.below g);have E':=lh (F0.o.trans (RFr.below (rb:=rb) g));clear g F P0 F0 HQ;by_cases h:ad Dz ts=true
 .have hq:=E9.o;rw[Y5 h]at hq;have I:=lh hq;have HT:=xi Jz rb ts d Dz Ac.o.rd h;unfold Dz at HT;have HT:=lh HT;clear h hq;go_wp2_with fail
  refine Tq ?_;intro w2 an ap;have P2:=lh (Ac.o.tail an ap);have F2:=lh (E'.o.trans ap);clear an ap HT;obtain⟨HR,HN,X⟩:=ds (Yc I.o).symm (wj w2 rb 16 ⟨#[]⟩ none 0 0) (Got.leaf (k:=16) (t:=⟨#[]⟩) (n:=0) HP.o.le F2.o);go_wp2_with fail
  refine HN.o.mono ?_;rintro e w3⟨rfl,jk⟩;have Y:kW w2 w3:=R7
  have AL:=lh Y;have ya:=lh jk;clear Y jk HN;go_wp2;go_ret;rw[HR.o];exact⟨_,rfl,by rw[ya.o];exact X.o,P2.o.rd.below AL.o,F2.o.trans (RFr.below AL.o)⟩
 have u:ad Dz ts=false:=QR
 have hq:=E9.o;rw[Y3 h]at hq;have Fa:=lh hq;have HT:=yn Jz rb ts d Dz Ac.o.rd u;unfold Dz at HT;have HT:=lh HT;clear h u hq;go_wp2_with fail
 refine HT.o.mono ?_;rintro e JA⟨rfl,g⟩;have Ad:=lh (Ac.o.below g);have Fb:=lh (E'.o.trans (RFr.below (rb:=rb) g));clear g HT Ac E' E9;by_cases h:ad Vk ts=true
 .have hq:=Fa.o;rw[Y5 h]at hq;have I:=lh hq;have HT:=xi JA rb ts d Vk Ad.o.rd h;unfold Vk at HT;have HT:=lh HT;clear h hq;go_wp2_with fail
  refine Tq ?_;intro w2 an ap;have P2:=lh (Ad.o.tail an ap);have F2:=lh (Fb.o.trans ap);clear an ap HT;rcases Zg I.o with⟨⟨c,p⟩,hv,rfl⟩|⟨t,vs,hv,fQ⟩
  .have HC:=U.o 2 false w2 rb B d _ _ P2.o hv;simp only at HC;exact UU
  have HC:=U.o 2 false w2 rb B d _ _ P2.o hv;exact YU
 have u:ad Vk ts=false:=QR
 have hq:=Fa.o;rw[Y3 h]at hq;have Fc:=lh hq;have HT:=yn JA rb ts d Vk Ad.o.rd u;unfold Vk at HT;have HT:=lh HT;clear h u hq;go_wp2_with fail
 refine HT.o.mono ?_;rintro e JB⟨rfl,g⟩;have Ae:=lh (Ad.o.below g);have Fd:=lh (Fb.o.trans (RFr.below (rb:=rb) g));clear g HT Ad Fb Fa;by_cases h:ad VB ts=true
 .have hq:=Fc.o;rw[Y5 h]at hq;have I:=lh hq;have HT:=xi JB rb ts d VB Ae.o.rd h;unfold VB at HT;have HT:=lh HT;clear h hq;go_wp2_with fail
  refine Tq ?_;intro w2 an ap;have P2:=lh (Ae.o.tail an ap);have F2:=lh (Fd.o.trans ap);clear an ap HT;rcases Zg I.o with⟨⟨c,p⟩,hv,rfl⟩|⟨t,vs,hv,fQ⟩
  .have HC:=U.o 3 false w2 rb B d _ _ P2.o hv;simp only at HC;exact UU
  have HC:=U.o 3 false w2 rb B d _ _ P2.o hv;exact YU
 have u:ad VB ts=false:=QR
 have hq:=Fc.o;rw[Y3 h]at hq;have Fe:=lh hq;have HT:=yn JB rb ts d VB Ae.o.rd u;unfold VB at HT;have HT:=lh HT;clear h u hq;go_wp2_with fail
 refine HT.o.mono ?_;rintro e JC⟨rfl,g⟩;have Af:=lh (Ae.o.below g);have Ff:=lh (Fd.o.trans (RFr.below (rb:=rb) g));clear g HT Ae Fd Fc;by_cases h:ad VA ts=true
 .have hq:=Fe.o;rw[Y5 h]at hq;have I:=lh hq;have HT:=xi JC rb ts d VA Af.o.rd h;unfold VA at HT;have HT:=lh HT;clear h hq;go_wp2_with fail
  refine Tq ?_;intro w2 an ap;have P2:=lh (Af.o.tail an ap);have F2:=lh (Ff.o.trans ap);clear an ap HT;rcases Zg I.o with⟨⟨c,p⟩,hv,rfl⟩|⟨t,vs,hv,fQ⟩
  .have HC:=U.o 4 true w2 rb B d _ _ P2.o hv;simp only at HC;exact UU
  have HC:=U.o 4 true w2 rb B d _ _ P2.o hv;exact YU
 have u:ad VA ts=false:=QR
 have hq:=Fe.o;rw[Y3 h]at hq;have Fg:=lh hq;have HT:=yn JC rb ts d VA Af.o.rd u;unfold VA at HT;have HT:=lh HT;clear h u hq;go_wp2_with fail
 refine HT.o.mono ?_;rintro e JD⟨rfl,g⟩;have Ag:=lh (Af.o.below g);have Fh:=lh (Ff.o.trans (RFr.below (rb:=rb) g));clear g HT Af Ff Fe;by_cases h:ad IJ ts=true
 .have hq:=Fg.o;rw[Y5 h]at hq;have I:=lh hq;have HT:=xi JD rb ts d IJ Ag.o.rd h;unfold IJ at HT;have HT:=lh HT;clear h hq;go_wp2_with fail
  refine Tq ?_;intro w2 an ap;have P2:=lh (Ag.o.tail an ap);have F2:=lh (Fh.o.trans ap);clear an ap HT;rcases XO I.o with⟨hk,h1⟩|⟨hk,rfl⟩
  .have HC:=lh (Vr w2 rb ts.tail d P2.o.rd hk);obtain⟨s,hs⟩:=zX ((al ts.tail).text)
   rw[<-hs]at HC h1;have eY:=lh h1;clear hk h1 hs;go_wp2_with fail
   refine HC.o.mono ?_;rintro e w4⟨rfl,eM,bg⟩;have bS:=vK.o s w4 rb B d _ r (P2.o.tail eM bg) eY.o;simp only at bS;have bS:=lh bS;have F4:=lh (F2.o.trans bg);clear eM bg HC;go_wp2_with fail
   refine bS.o.mono ?_;rcases r with⟨c,p⟩|⟨t,ts'⟩
   .rintro e wz⟨⟨b,rfl,h1,h2⟩,hF⟩;exact V5
   .rintro e wz⟨a,rfl,hG,hR,hF⟩;exact Acv
  .have HC:=lh (WU w2 rb ts.tail d P2.o.rd hk);exact Aag
 have u:ad IJ ts=false:=QR
 have hq:=Fg.o;rw[Y3 h]at hq;have Fi:=lh hq;have HT:=yn JD rb ts d IJ Ag.o.rd u;unfold IJ at HT;have HT:=lh HT;clear h u hq;go_wp2_with fail
 refine HT.o.mono ?_;rintro e JE⟨rfl,g⟩;have Ah:=lh (Ag.o.below g);have Fj:=lh (Fh.o.trans (RFr.below (rb:=rb) g));clear g HT Ag Fh Fg;by_cases h:ad B' ts=true
 .have hq:=Fi.o;rw[Y5 h]at hq;have I:=lh hq;have HT:=xi JE rb ts d B' Ah.o.rd h;unfold B' at HT;have HT:=lh HT;clear h hq;go_wp2_with fail
  refine Tq ?_;intro w2 an ap;have P2:=lh (Ah.o.tail an ap);have F2:=lh (Fj.o.trans ap);clear an ap HT;rcases Zg I.o with⟨⟨c,p⟩,hv,rfl⟩|⟨t,vs,hv,fQ⟩;·exact ZL
  have HC:=HA.o w2 rb B d _ _ P2.o hv;unfold bO at HC;refine Zjy ?_;intro HC fP eY;clear hv fQ;go_wp2_with fail
  refine Zri ?_;intro w3 x hX bI bh P3 F3 X3 xb g9 oX;rw[<-g9];clear hX bI bh HC g9;rcases Zg eY.o with⟨⟨c,p⟩,hv,rfl⟩|⟨ty,us,hv,oW⟩;·exact YS
  refine XJ ?_;intro HC km uS;clear hv oW;go_wp2_with fail
  refine YZ ?_;intro w4 y hY hR bg la lg nY ai;have aw:kW w4 ((w4.alloc (.cells #[vP xb,vP y.b] 22)).alloc (.cells #[vI 7,.string ⟨#[]⟩,vI 0,.slice (some ⟨w4.heap.size,0,none⟩) 2 2] 28)):=ai.alloc Qm _;have hA:=Got.two (k:=7) (t:=⟨#[]⟩) HP.o.le lg la (wA:=w3) (λz J=>(X3.o.new z J).2) F3.o.size hY;refine Zl4 ?_;intro an ap
  have HN:=lh (wj (w4.alloc (.cells #[vP xb,vP y.b] 22)) rb 7 ⟨#[]⟩ (some ⟨w4.heap.size,0,none⟩) 2 2);obtain⟨sb,aM⟩:=zX w4.heap.size
  rw[<-aM]at HN hA aw an ap;have cD:=lh aM;go_wp2_with fail
  rw[<-cD.o];refine YB ?_;intro wn jA bo ba;rw[ba];obtain⟨nb,dl⟩:=zX (sb+1)
  rw[<-dl]at hA ⊢;have hA:Got w B wn (.mk nb (.slice (some ⟨sb,0,none⟩) 2 2) 7 ⟨#[]⟩ 0 [x,y]) (.mk 7 ⟨#[]⟩ 0 [t,ty]):=Sb
  rw[<-jA]at an ap;obtain⟨N,FQ,PQ⟩:=ds hA ap ((P3.o.next (ts':=us) hR bg km.o).next an (RFr.below (rb:=rb) bo) (Y0 _));clear la nY lg hY hR bg ai aw bo hA an ap HN aM jA ba dl HC;by_cases he:ad Ub us=true
  .have hq:=uS.o;rw[Y5 he]at hq;have H2:=lh hq;have HT:=xi wn rb us d Ub PQ.o.rd he;unfold Ub at HT;have HT:=lh HT;clear he hq;go_wp2_with fail
   refine Zrh ?_;clear HT;intro wf N PQ FQ;refine XQ ?_;intro ac;have n3:wf.cell? ⟨nb,3,none⟩=some (.slice (some ⟨sb,0,none⟩) 2 2):=Qk
   clear ac;go_wp2_with fail
   refine Z7 [0,2,4,6,8,10,12,14,17,19,21] [11,12,13] (λW=>vC W nb 3 (.slice (some ⟨sb,0,none⟩) 2 2)) n3 λ_=>?_;refine dS ?_
   iterate 8
    refine dq ?_
   refine Zqi ?_;intro K hK P7;rcases Zg H2.o with⟨⟨c,p⟩,hv,rfl⟩|⟨t6,JF,hv,Ai⟩
   .refine(WY wf.drew rb B _ d _ _ P7.rd (by have:=P7.deep;omega) aA hv λhd h1 w4 hR hs=>HS.o w4 rb B (d+1) _ _ ⟨hR,hd,aA,by have:=P7.le;omega,P7.few⟩ h1).mono ?_;exact Zwf
   have Aj:=lh (Nat.le_of_lt (Leaves.within (Ts f .stmt (d+1) _) t6 JF hv));have Fk:=lh Ai;refine(WY wf.drew rb B _ d _ _ P7.rd (by have:=P7.deep;omega) aA hv λhd h1 w4 hR hs=>HS.o w4 rb B (d+1) _ _ ⟨hR,hd,aA,by have:=P7.le;omega,P7.few⟩ h1).mono ?_;rintro e dx⟨a,rfl,hA,bI,dM⟩;have O:RFr wf dx rb:=(RFr.refl wf rb).drew.trans dM;have fL:=N.o.rfr aA O;refine ui ?_;intro ac;have m3:dx.cell? ⟨nb,3,none⟩=some (.slice (some ⟨sb,0,none⟩) 2 2):=Qk
   refine Iq ?_;intro mz dm dK aH;have gK:([x,y]).length<=8:=Qm
   refine Tu ?_;intro N3 A3 R3;obtain⟨jD,NE,NA⟩:=ds (FQ.o.trans O) aH (show∀z∈(ATree.mk nb (.slice (some ⟨sb,0,none⟩) 2 2) 7 ⟨#[]⟩ 0 [x,y]).blocks,z<wf.drew.heap.size from λz J=>(N.o.new z J).2);refine vB ?_;intro i0 hi aC bj bJ;clear hK K hA bI O fL ac dK aH n3 dM hv Ai P7;refine ub ?_;intro K hK
   refine step_append_lies _ Qt (.tmp 65) (.tmp 70) 26 Qt B 22 i0 _ 1 8 underlying26 hi aC bj bJ rfl Qg (.slice (some ⟨sb,0,none⟩) 2 2) ([x,y]).length (([x,y]).map ATree.ptr) Qt (N3.o.at'.rowOf.alloc _) ⟨dx.heap.size,0,none⟩ 1 1 [a.ptr] Qt rfl (Ya (cs:=#[a.ptr]) (t:=22) (fr:=(0,0)) (Yq dx _)) Qv Qg Qj Qe Qu (dx.heap.size+1) Qm ?_;intro gg cap w4 aU aB bV ca
   have m4:vC w4 nb 3 (.slice (some ⟨sb,0,none⟩) 2 2):=(aB.cell_far ⟨nb,3,none⟩ Qi (λe=>NE.o e.symm)).trans ((Zb dm).trans m3);refine vf ?_;clear hK K;intro lX;refine VV ?_;clear aB aU bV ca;intro ct;have pR:=lh (Yc Fk.o).symm;go_wp2;go_ret;rw[pR.o];refine⟨.mk nb (.slice (some ⟨gg,0,none⟩) (([x,y]:List ATree).length+1) cap) 7 ⟨#[]⟩ 0 ([x,y]++[a]),rfl,?_,ct.o.2.2,ct.o.2.1⟩;exact Wz
  .have qf:ad Ub us=false:=by simpa using he
   have hq:=uS.o;rw[Y3 he]at hq;have pR:=lh (Yc hq).symm;have HT:=yn wn rb us d Ub PQ.o.rd qf;unfold Ub at HT;have HT:=lh HT;clear he qf hq;go_wp2_with fail
   refine HT.o.mono ?_;rintro e wf⟨rfl,kP⟩;obtain⟨N,R,FQ⟩:=ds (N.o.rfr aA (RFr.below (rb:=rb) kP)) (PQ.o.rd.below kP) (FQ.o.trans (RFr.below (rb:=rb) kP));clear kP HT;go_wp2;go_ret;rw[pR.o];exact⟨_,rfl,N.o,R.o,FQ.o⟩
 have u:ad B' ts=false:=QR
 have hq:=Fi.o;rw[Y3 h]at hq;have Fl:=lh hq;have HT:=yn JE rb ts d B' Ah.o.rd u;unfold B' at HT;have HT:=lh HT;clear h u hq;go_wp2_with fail
 refine HT.o.mono ?_;rintro e JG⟨rfl,g⟩;have Ak:=lh (Ah.o.below g);have Fm:=lh (Fj.o.trans (RFr.below (rb:=rb) g));clear g HT Ah Fj Fi;by_cases h:ad Vl ts=true
 .have hq:=Fl.o;rw[Y5 h]at hq;have I:=lh hq;have HT:=xi JG rb ts d Vl Ak.o.rd h;unfold Vl at HT;have HT:=lh HT;clear h hq;go_wp2_with fail
  refine Tq ?_;intro w2 an ap;have P2:=lh (Ak.o.tail an ap);have F2:=lh (Fm.o.trans ap);clear an ap HT;rcases Zg I.o with⟨⟨c,p⟩,hv,rfl⟩|⟨t,vs,hv,fQ⟩;·exact ZL
  have HC:=HA.o w2 rb B d _ _ P2.o hv;unfold bO at HC;refine Zjy ?_;intro HC fP eY;clear hv fQ;go_wp2_with fail
  refine Zri ?_;intro w3 x hX bI bh P3 F3 X3 xb g9 oX;rw[<-g9];clear hX bI bh HC g9;rcases Zg eY.o with⟨⟨c,p⟩,hv,rfl⟩|⟨ty,us,hv,oW⟩;·exact YS
  refine XJ ?_;intro HC km uS;clear hv oW;go_wp2_with fail
  refine YZ ?_;intro w4 y hY hR bg la lg nY ai;have aw:kW w4 ((w4.alloc (.cells #[vP xb,vP y.b] 22)).alloc (.cells #[vI 8,.string ⟨#[]⟩,vI 0,.slice (some ⟨w4.heap.size,0,none⟩) 2 2] 28)):=ai.alloc Qm _;have hA:=Got.two (k:=8) (t:=⟨#[]⟩) HP.o.le lg la (wA:=w3) (λz J=>(X3.o.new z J).2) F3.o.size hY;refine Zl4 ?_;intro an ap
  have HN:=lh (wj (w4.alloc (.cells #[vP xb,vP y.b] 22)) rb 8 ⟨#[]⟩ (some ⟨w4.heap.size,0,none⟩) 2 2);obtain⟨sb,aM⟩:=zX w4.heap.size
  rw[<-aM]at HN hA aw an ap;have cD:=lh aM;go_wp2_with fail
  rw[<-cD.o];refine YB ?_;intro wn jA bo ba;rw[ba];obtain⟨nb,dl⟩:=zX (sb+1)
  rw[<-dl]at hA ⊢;have hA:Got w B wn (.mk nb (.slice (some ⟨sb,0,none⟩) 2 2) 8 ⟨#[]⟩ 0 [x,y]) (.mk 8 ⟨#[]⟩ 0 [t,ty]):=Sb
  exact Abq
 have u:ad Vl ts=false:=QR
 have hq:=Fl.o;rw[Y3 h]at hq;have Fo:=lh hq;have HT:=yn JG rb ts d Vl Ak.o.rd u;unfold Vl at HT;have HT:=lh HT;clear h u hq;go_wp2_with fail
 refine HT.o.mono ?_;rintro e JH⟨rfl,g⟩;have Al:=lh (Ak.o.below g);have Fp:=lh (Fm.o.trans (RFr.below (rb:=rb) g));clear g HT Ak Fm Fl;by_cases h:ad Vy ts=true
 .have hq:=Fo.o;rw[Y5 h]at hq;have I:=lh hq;have HT:=xi JH rb ts d Vy Al.o.rd h;unfold Vy at HT;have HT:=lh HT;clear h hq;go_wp2_with fail
  refine Tq ?_;intro w2 an ap;have P2:=lh (Al.o.tail an ap);have F2:=lh (Fp.o.trans ap);clear an ap HT;rcases Zg I.o with⟨⟨c,p⟩,hv,rfl⟩|⟨t,vs,hv,fQ⟩;·exact ZL
  have HC:=HA.o w2 rb B d _ _ P2.o hv;unfold bO at HC;refine Zjy ?_;intro HC fP eY;clear hv fQ;go_wp2_with fail
  refine Zri ?_;intro w3 x hX bI bh P3 F3 X3 xb g9 oX;rw[<-g9];clear hX bI bh HC g9;rcases Zg eY.o with⟨⟨c,p⟩,hv,rfl⟩|⟨ty,us,hv,oW⟩;·exact YS
  refine XJ ?_;intro HC km uS;clear hv oW;go_wp2_with fail
  refine YZ ?_;intro w4 y hY hR bg la lg nY ai;have aw:kW w4 ((w4.alloc (.cells #[vP xb,vP y.b] 22)).alloc (.cells #[vI 9,.string ⟨#[]⟩,vI 0,.slice (some ⟨w4.heap.size,0,none⟩) 2 2] 28)):=ai.alloc Qm _;have hA:=Got.two (k:=9) (t:=⟨#[]⟩) HP.o.le lg la (wA:=w3) (λz J=>(X3.o.new z J).2) F3.o.size hY;refine Zl4 ?_;intro an ap
  have HN:=lh (wj (w4.alloc (.cells #[vP xb,vP y.b] 22)) rb 9 ⟨#[]⟩ (some ⟨w4.heap.size,0,none⟩) 2 2);obtain⟨sb,aM⟩:=zX w4.heap.size
  rw[<-aM]at HN hA aw an ap;have cD:=lh aM;go_wp2_with fail
  rw[<-cD.o];refine YB ?_;intro wn jA bo ba;rw[ba];obtain⟨nb,dl⟩:=zX (sb+1)
  rw[<-dl]at hA ⊢;have hA:Got w B wn (.mk nb (.slice (some ⟨sb,0,none⟩) 2 2) 9 ⟨#[]⟩ 0 [x,y]) (.mk 9 ⟨#[]⟩ 0 [t,ty]):=Sb
  exact Abq
 have u:ad Vy ts=false:=QR
 have hq:=Fo.o;rw[Y3 h]at hq;have Fq:=lh hq;have HT:=yn JH rb ts d Vy Al.o.rd u;unfold Vy at HT;have HT:=lh HT;clear h u hq;go_wp2_with fail
 refine HT.o.mono ?_;rintro e JI⟨rfl,g⟩;have Am:=lh (Al.o.below g);have Fs:=lh (Fp.o.trans (RFr.below (rb:=rb) g));clear g HT Al Fp Fo;by_cases h:ad Vs ts=true
 .have hq:=Fq.o;rw[Y5 h]at hq;have I:=lh hq;have HT:=xi JI rb ts d Vs Am.o.rd h;unfold Vs at HT;have HT:=lh HT;clear h hq;go_wp2_with fail
  refine Tq ?_;intro w2 an ap;have P2:=lh (Am.o.tail an ap);have F2:=lh (Fs.o.trans ap);clear an ap HT;have HN:=lh (wj w2 rb 10 ⟨#[]⟩ none 0 0);obtain⟨nb,dl⟩:=zX w2.heap.size
  have X:=Got.leaf (k:=10) (t:=⟨#[]⟩) (n:=0) HP.o.le F2.o;have Y:kW w2 (w2.alloc (.cells #[vI 10,.string ⟨#[]⟩,vI 0,.slice none 0 0] 28)):=(Y2 _ _).alloc (Y0 _) _;have P3:=P2.o.below Y;have F3:=F2.o.trans (RFr.below (rb:=rb) Y);rw[<-dl]at HN X;go_wp2_with fail
  refine HN.o.mono ?_;rintro e w3⟨rfl,jk⟩;rw[<-jk]at X P3 F3;obtain⟨N,PQ,FQ⟩:=ds X P3 F3;clear X P3 F3 Y jk HN dl;by_cases Z:ad Dz ts.tail=true
  .have hq:=I.o;rw[Y5 Z]at hq;have F:=SK w3 rb ts.tail d Dz PQ.o.rd;rw[Z]at F;unfold Dz at F;have F:=lh F;have eY:=lh hq;clear hq Z;go_wp2_with fail
   refine F.o.mono ?_;rintro e w4⟨rfl,eI⟩;have HE:=Zdh w w4 rb B d _ _ _ r (PQ.o.below eI) (N.o.rfr aA (RFr.below (rb:=rb) eI)) (FQ.o.trans (RFr.below eI)) eY.o;simp only[ATree.b]at HE;have HE:=lh HE;clear eI F;exact VP
  have An:ad Dz ts.tail=false:=by simpa using Z
  have hq:=I.o;rw[Y3 Z]at hq;have F:=SK w3 rb ts.tail d Dz PQ.o.rd;rw[An]at F;unfold Dz at F;have F:=lh F;have H2:=lh hq;clear hq Z An;go_wp2_with fail
  refine F.o.mono ?_;refine Zsu ?_;intro wf kP N PQ FQ;clear kP F;refine XQ ?_;intro ac;have n3:wf.cell? ⟨nb,3,none⟩=some (.slice none 0 0):=Qk
  clear ac;go_wp2_with fail
  refine Z7 [0,2,4,6,8,10,13,15,17] [9,10,11] (λW=>vC W nb 3 (.slice none 0 0)) n3 λ_=>?_;refine dS ?_
  iterate 6
   refine dq ?_
  refine Zqi ?_;intro K hK P7;rcases Zg H2.o with⟨⟨c,p⟩,hv,rfl⟩|⟨t6,JF,hv,Ai⟩
  .refine(HV.o wf.drew rb B d _ _ P7 hv).mono ?_;exact Zwf
  have Aj:=lh (T6 hv);have Fk:=lh Ai;refine(HV.o wf.drew rb B d _ _ P7 hv).mono ?_;rintro e dx⟨a,rfl,hA,bI,dM⟩;have O:RFr wf dx rb:=(RFr.refl wf rb).drew.trans dM;have fL:=N.o.rfr aA O;refine ui ?_;intro ac;have m3:dx.cell? ⟨nb,3,none⟩=some (.slice none 0 0):=Qk
  refine Iq ?_;intro mz dm dK aH;have gK:(([]:List ATree)).length<=8:=Qm
  refine Tu ?_;intro N3 A3 R3;obtain⟨jD,NE,NA⟩:=ds (FQ.o.trans O) aH (show∀z∈(ATree.mk nb (.slice none 0 0) 10 ⟨#[]⟩ 0 ([]:List ATree)).blocks,z<wf.drew.heap.size from λz J=>(N.o.new z J).2);refine vB ?_;intro i0 hi aC bj bJ;clear hK K hA bI O fL ac dK aH n3 dM hv Ai P7;refine ub ?_;intro K hK
  refine step_append_lies _ Qt (.tmp 113) (.tmp 116) 26 Qt B 22 i0 _ 1 8 underlying26 hi aC bj bJ rfl Qg (.slice none 0 0) (([]:List ATree)).length ((([]:List ATree)).map ATree.ptr) Qt (N3.o.at'.rowOf.alloc _) ⟨dx.heap.size,0,none⟩ 1 1 [a.ptr] Qt rfl (Ya (cs:=#[a.ptr]) (t:=22) (fr:=(0,0)) (Yq dx _)) Qv Qg Qj Qe Qu (dx.heap.size+1) Qm ?_
  intro gg cap w4 aU aB bV ca;refine XD ?_;intro m4;refine vf ?_;clear hK K;intro lX;refine VV ?_;clear aB aU bV ca;intro ct;have HE:=Zdh w _ rb B d _ _ _ r (HP.o.next ct.o.2.2 ct.o.2.1 (by have:=Aj.o;have:=Zz ts;omega)) ct.o.1 ct.o.2.1 Fk.o;simp only[ATree.b]at HE;have HE:=lh HE;clear ct;exact VP
 have u:ad Vs ts=false:=QR
 have hq:=Fq.o;rw[Y3 h]at hq;have Ft:=lh hq;have HT:=yn JI rb ts d Vs Am.o.rd u;unfold Vs at HT;have HT:=lh HT;clear h u hq;go_wp2_with fail
 refine HT.o.mono ?_;rintro e JJ⟨rfl,g⟩;have Ao:=lh (Am.o.below g);have Fu:=lh (Fs.o.trans (RFr.below (rb:=rb) g));clear g HT Am Fs Fq;by_cases h:ad Vo ts=true
 .have hq:=Ft.o;rw[Y5 h]at hq;have I:=lh hq;have HT:=xi JJ rb ts d Vo Ao.o.rd h;unfold Vo at HT;have HT:=lh HT;clear h hq;go_wp2_with fail
  refine Tq ?_;intro w2 an ap;have P2:=lh (Ao.o.tail an ap);have F2:=lh (Fu.o.trans ap);clear an ap HT;rcases Zg I.o with⟨⟨c,p⟩,hv,rfl⟩|⟨t,vs,hv,fQ⟩;·exact AbW
  have HC:=HV.o w2 rb B d _ _ P2.o hv;unfold bO at HC;refine Zjy ?_;intro HC fP eY;clear hv fQ;go_wp2_with fail
  refine Zvp ?_;intro w4 x hX hR bg la lg ai;have aw:kW w4 ((w4.alloc (.cells #[vP x.b] 22)).alloc (.cells #[vI 11,.string ⟨#[]⟩,vI 0,.slice (some ⟨w4.heap.size,0,none⟩) 1 1] 28)):=ai.alloc Qm _;have hA:=Got.one (k:=11) (t:=⟨#[]⟩) HP.o.le lg la;refine Zl4 ?_;intro an ap;have HN:=lh (wj (w4.alloc (.cells #[vP x.b] 22)) rb 11 ⟨#[]⟩ (some ⟨w4.heap.size,0,none⟩) 1 1);obtain⟨sb,aM⟩:=zX w4.heap.size
  rw[<-aM]at HN hA aw an ap;have cD:=lh aM;go_wp2_with fail
  rw[<-cD.o];refine Zzw ?_;intro wn jA bo ba;rw[ba];obtain⟨nb,dl⟩:=zX (sb+1)
  rw[<-dl]at hA ⊢;have hA:Got w B wn (.mk nb (.slice (some ⟨sb,0,none⟩) 1 1) 11 ⟨#[]⟩ 0 [x]) (.mk 11 ⟨#[]⟩ 0 [t]):=by rw[jA];exact hA
  exact AaX
 have u:ad Vo ts=false:=QR
 have hq:=Ft.o;rw[Y3 h]at hq;have vR:=lh hq;have HT:=yn JJ rb ts d Vo Ao.o.rd u;unfold Vo at HT;have HT:=lh HT;clear h u hq;go_wp2_with fail
 refine HT.o.mono ?_;rintro e Ap⟨rfl,g⟩;have qj:=lh (Ao.o.below g);have vS:=lh (Fu.o.trans (RFr.below (rb:=rb) g));clear g HT Ao Fu Ft;by_cases h:ad Vv ts=true
 .have hq:=vR.o;rw[Y5 h]at hq;have I:=lh hq;have HT:=xi Ap rb ts d Vv qj.o.rd h;unfold Vv at HT;have HT:=lh HT;clear h hq;go_wp2_with fail
  refine Tq ?_;intro w2 an ap;have P2:=lh (qj.o.tail an ap);have F2:=lh (vS.o.trans ap);clear an ap HT;have HC:=kR.o w2 rb B d _ r P2.o I.o;unfold bO at HC;have HC:=lh HC;exact Aa2
 have u:ad Vv ts=false:=QR
 have hq:=vR.o;rw[Y3 h]at hq;have Fv:=lh hq;have HT:=yn Ap rb ts d Vv qj.o.rd u;unfold Vv at HT;have HT:=lh HT;clear h u hq;go_wp2_with fail
 refine HT.o.mono ?_;rintro e Fw⟨rfl,g⟩;have Fx:=lh (qj.o.below g);have Fy:=lh (vS.o.trans (RFr.below (rb:=rb) g));clear g HT qj vS vR;obtain⟨w2,rfl⟩:∃w2:kV,w2=Fw:=⟨_,rfl⟩
 have P2:=Fx;have F2:=Fy;have I:=Fv;rcases Zg I.o with⟨⟨c,p⟩,hv,rfl⟩|⟨t,vs,hv,fQ⟩;·exact AbW
 have HC:=HV.o w2 rb B d _ _ P2.o hv;unfold bO at HC;refine Zjy ?_;intro HC fP eY;clear hv fQ;go_wp2_with fail
 refine Zvp ?_;intro w4 x hX hR bg la lg ai;have aw:kW w4 ((w4.alloc (.cells #[vP x.b] 22)).alloc (.cells #[vI 15,.string ⟨#[]⟩,vI 0,.slice (some ⟨w4.heap.size,0,none⟩) 1 1] 28)):=ai.alloc Qm _;have hA:=Got.one (k:=15) (t:=⟨#[]⟩) HP.o.le lg la;refine Zl4 ?_;intro an ap;have HN:=lh (wj (w4.alloc (.cells #[vP x.b] 22)) rb 15 ⟨#[]⟩ (some ⟨w4.heap.size,0,none⟩) 1 1);obtain⟨sb,aM⟩:=zX w4.heap.size
 rw[<-aM]at HN hA aw an ap;have cD:=lh aM;go_wp2_with fail
 rw[<-cD.o];refine Zzw ?_;intro wn jA bo ba;rw[ba];obtain⟨nb,dl⟩:=zX (sb+1)
 rw[<-dl]at hA ⊢;have hA:Got w B wn (.mk nb (.slice (some ⟨sb,0,none⟩) 1 1) 15 ⟨#[]⟩ 0 [x]) (.mk 15 ⟨#[]⟩ 0 [t]):=by rw[jA];exact hA
 exact AaX
structure AllSay(f:Nat):Prop where
 stmt:ay 42 bO .stmt f
 value:ay 80 bO .value f
 assign:ay 108 bO .assign f
 bin:∀lv,lv<=6->ay 129 (BN lv) (.bin lv) f
 unary:ay 138 bO .unary f
 postfix_:ay 151 bO .postfix_ f
 primary:ay 163 bO .primary f
 around:ay 79 bO .around f
 func:∀k s,ay 77 (λrb=>#[vP rb,vI k,.string s]) (.func k s) f
 object:ay 165 bO (.object []) f
 block:∀b,ay 73 (λrb=>#[vP rb,.bool b]) (.block b) f
 stmts:ay 13 (λrb=>#[vP rb,vI 6,.string Zr]) (.stmts 6 []) f
 try_:ay 81 bO .try_ f
 decl:∀k m,ay 76 (λrb=>#[vP rb,vI k,.bool m]) (.decl k m) f
def Tp{F:FuncId}{args:Nat->Array Value}{g:Job}:ay F args g 0:=by
 intro w rb B d ts r _ h;cases h
def Zur:∀f,AllSay f:=by
 intro f;induction f using Nat.strongRecOn with
 |_ f o=>
   cases f with
   |zero=>exact⟨Tp,Tp,Tp,λ_ _=>Tp,Tp,Tp,Tp,Tp,λ_ _=>Tp,Tp,λ_=>Tp,Tp,Tp,λ_ _=>Tp⟩
   |succ f=>
     have I:=o f (Nat.lt_succ_self f)
     refine⟨Zl7 f (I.block false) I.decl (I.func 5) I.around I.stmt I.value I.try_,Zk7 f I.assign,Zhf f (I.bin 0 Qe) I.value,λlv y=>?_,Ziq f I.unary I.postfix_,Zel f I.primary (λg p=>(o g Qe).value),Zey f I.around (I.func 37) I.object,Zgc f I.value,
      λk s=>Znd f k s (I.block true),Zfx (f+1) (λg p=>(o g p).value),λb=>Zk0 f b I.stmts,Zir (f+1) (λg p=>(o g p).stmt),Zqb f (I.block false),λk m=>Zlg f k m I.value⟩
     by_cases u:lv=6;·subst u;exact Zn4 f I.unary
     .exact Zo4 f lv Qe λg p=>(o g Qe).bin (lv+1) Qe
def Zq2(f:Nat):ay 13 (λrb=>#[vP rb,vI 1,.string ⟨#[]⟩]) (.stmts 1 []) f:=
 Zl8 f λg _=>(Zur g).stmt
def Zud(F:Addr){σ:Type}(Inv:σ->kV->Prop)(g:σ->ATree->Bool×σ)(B:Nat):∀(m:Nat) (a:ATree),a.many<=m->(∀s w,Inv s w->TreeAt w B a)->
 (∀x∈a.subs,∀s w,Inv s w->kC 15 #[x.ptr,.pointer (some F)] w λe w'=>e=.returned (.bool (g s x).1)/\Inv (g s x).2 w')->
 ∀s w,Inv s w->kC 14 #[a.ptr,.func (.func 15) #[] #[.pointer (some F)]] w λe w'=>e=.returned (.tuple #[])/\Inv (tU g a s) w':=by
 intro m;induction m with
 |zero=>intro a h;exfalso;cases a;simp[ATree.many]at h
 |succ m I=>
   intro a J O o s w hI;obtain⟨X,HT,Y,Z⟩:=gp I O o J;have HC:=o a (Z8f a) s w hI;rw[Z9g];unfold ATree.ptr at HC ⊢;obtain⟨ok,s1,U⟩:∃ok s1,g s a=(ok,s1):=⟨_,_,rfl⟩
   rw[U]at HC ⊢;have HC:=lh HC;clear I O o J hI U;cases ok;·exact Aa9
   .simp only[if_true];go_enter func14,ntmps14
    go_wp2_with fail
    refine Zwp ?_;intro w1 fX nu ac ae p cp hv;rw[hv]at ac;refine Zzk ?_;intro c3 aG eF HV n hn;rw[<-hn]at c3 aG;have HN:=lh hn;clear fX nu ac ae hv hn HC;go_wp2_with fail
    go_loopw [19] (λi wr=>∃k:Nat,k<=n/\i=(vI k)/\Hid (Inv (oB g (a.kids.take k) s1) wr)) (λi _=>n-(intOf i).toNat)
    case atStart=>exact⟨0,Yh _,rfl,lh (by simpa[oB]using eF.o)⟩
    case round=>
     obtain⟨k,hk,rfl,u⟩:=hrel;by_cases bY:k<n
     .obtain⟨x,hx⟩:∃x,a.kids[k]? =some x:=⟨_,Y6 QA⟩
      have eE:=HT.o _ _ u.o;have ae:=eE.rowOf;rcases Z4 ae with⟨_,h2⟩|⟨g0,gB,gr,k1,k2,k3⟩;·rw[<-HN.o]at h2;omega
      have hp:p=some ⟨g0,0,none⟩:=by
       exact Vb
      subst hp;refine SS ?_;intro cx;unfold ATree.ptr at cx;have aV:x∈a.kids:=Yd hx;have cT:=X.o x (by have:=Z78 aV;have:=Z.o;omega) (λs w h=>(HT.o s w h).kid aV) (λy hy=>Y.o y (Zd0 aV hy)) _ _ u.o;exact tr8
     .have aT:k=n:=by omega
      subst aT;go_wp2;go_end0
      refine⟨rfl,?_⟩;have:=u.o;rwa[Ye QS]at this
def Z61{P:Program}{f:FuncId}{g:Func}{c:Code}{args:Array Value}{u:FrameMode}{w:kV}{R:Ending->FrameMode->kV->Prop}
 (hf:P.funcs[f]?=some g)(hb:g.body=some c)(T:Array Value)(m:args++Array.replicate (g.ntmps-args.size) undef=T)
 (h:∀(c₀:Frame) (cs:List Frame),c₀.mode=u->c.wpS P (bodyPostS P g c₀ cs R) {tmps:=T,defers:=[]} (c₀::cs) w):CallsD P f args u w R:=
 callsD_of_wpS hf hb (by rw[m];exact h)
theorem VK(v:Value)(w:kV):(Instr.typeAssert (.iface 50 v) 20 50 true).run Tryz.prog w=.ok (.tuple #[v,.bool true]) w:=by kernel_rfl
def Zc0(p q:Addr)(w:kV) :
 CallsD Tryz.prog 12 #[.pointer (some p),.pointer (some q)] .returning w λe g w'=>e=.returned (.tuple #[])/\g=.returning/\w'=w:=by
 refine Z61 func12 rfl #[.pointer (some p),.pointer (some q),undef,undef,undef,undef,undef,undef,undef,undef,undef,undef,undef,undef,undef,undef,undef,undef] Qt λc₀ cs m=>?_;apply wpS_seq;apply wpS_region;simp[wpOpsS,go_sem,recoverD,m,Exit.thenS];refine wpS_of_wp ?_;go_wp2;cases c₀;simp_all[bodyPostS,results,results12]
def Z68(w:kV)(pb g:Nat)(x:Value)(w':kV):Prop:=
 w'.heap[pb]?=some (.cells #[.pointer none] 22 (0,0))/\w'.heap[g]?=some (.cells #[x] 32 (0,0))/\w'.os=w.os/\w'.tape=w.tape/\w'.output=w.output/\w.heap.size<=w'.heap.size/\∀k,k<w.heap.size->k≠pb->k≠g->w'.heap[k]?=w.heap[k]?
def Zfo{w w1:kV}{pb m:Nat}{x x0 u:Value}(hp:w.heap[pb]?=some (.cells #[x0] 22 (0,0)))(hq:w.heap[m]?=some (.cells #[u] 32 (0,0)))(p:pb≠m)(g:kW w w1) :
 Z68 w pb m x ((w1.setCell ⟨pb,0,none⟩ (.pointer none)).setCell ⟨m,0,none⟩ x):=by
 have y:pb<w.heap.size:=(Y1.1 hp).1;have F:m<w.heap.size:=(Y1.1 hq).1;refine⟨?_,?_,g.os,g.tape,g.output,by rw[Yf,Yf];exact g.size,λk hk G I=>?_⟩;·exact(Y8 _ _ _ _ p).trans (Zk (o:=0) _ ((g.block pb y).trans hp))
 .exact Zk (o:=0) _ ((Y8 _ _ _ _ (Ne.symm p)).trans ((g.block m F).trans hq))
 .exact(Y8 _ _ _ _ I).trans ((Y8 _ _ _ _ G).trans (g.block k hk))
def Z68.below{w w1 w2:kV}{pb m:Nat}{x:Value}(h:Z68 w pb m x w1)(g:kW w1 w2):Z68 w pb m x w2:=by
 obtain⟨o,p,y,F,h5,u,G⟩:=h;refine⟨(g.block pb (Y1.1 o).1).trans o,(g.block m (Y1.1 p).1).trans p,g.os.trans y,g.tape.trans F,g.output.trans h5,Y4 u g.size,λk hk a b=>(g.block k (Y7 hk u)).trans (G k hk a b)⟩
def Zfy(pb g:Nat)(b:Nat)(o:List PanicEntry)(w:kV)(x0 p:Value)(hp:w.heap[pb]?=some (.cells #[x0] 22 (0,0)))(hq:w.heap[g]?=some (.cells #[p] 32 (0,0)))(u:pb≠g) :
 CallsD Tryz.prog 12 #[vP pb,vP g] (.panicking ({v:=.iface 50 (.agg #[.iface 99 (vP b)]),recovered:=false}::o)) w λe F w'=>
  e=.returned (.tuple #[])/\F=.panicking ({v:=.iface 50 (.agg #[.iface 99 (vP b)]),recovered:=true}::o)/\Z68 w pb g (.iface 99 (vP b)) w':=by
 have I:pb<w.heap.size:=(Y1.1 hp).1;have J:g<w.heap.size:=(Y1.1 hq).1;have O:w.cell? ⟨pb,0,none⟩=some x0:=by simp[vC,World.cell?,hp]
 have U:w.cell? ⟨g,0,none⟩=some p:=by simp[vC,World.cell?,hq]
 have X:w.frozen? ⟨pb,0,none⟩=false:=by simp[World.frozen?,hp]
 have Y:w.frozen? ⟨g,0,none⟩=false:=by simp[World.frozen?,hq]
 have Z:=VK (.agg #[.iface 99 (vP b)]);refine Z61 func12 rfl #[vP pb,vP g,undef,undef,undef,undef,undef,undef,undef,undef,undef,undef,undef,undef,undef,undef,undef,undef] Qt λc₀ cs y=>?_;apply wpS_seq;apply wpS_region;simp[wpOpsS,go_sem,recoverD,y,Exit.thenS];refine wpS_of_wp ?_;clear y;go_wp2;go_region
 have m:=((Zfo (x:=.iface 99 (vP b)) hp hq u (Y2 _ w)).below ((Y2 _ _).alloc (Y0 _) (.cells #[.iface 99 (vP b)] 50))).below (Y2 _ _).drew;have m:=lh m;clear hp hq u I J O U X Y Z;show bodyPostS _ _ _ _ _ Exit.normal _ _ _;cases c₀;simp[bodyPostS,results,results12];exact m.o
