import Derived.Test.YtkebnpemgkjpkaaGreatDoorJ14
import Derived.Stop.Asserts
set_option maxRecDepth 100000
set_option maxHeartbeats 20000000
set_option linter.all false
namespace Go.Proofs.YtkebnpemgkjpkaaGreatDoor
open Go Go.RowKit Go.Proofs.Tryz Tryz
def Sw(F d:Nat)(l:List Tree)(ts:List Tok):PR:=
 if ak Ir ts then Zq (Z2 F (.block false) d ts.tail) λc ts=>ir (.mk 12 ByteArray.empty 0 (l++[.mk 14 ByteArray.empty 0 [c]])) ts
 else if l.length=1 then xn 3 ts else ir (.mk 12 ByteArray.empty 0 l) ts
def Zmt(F d:Nat)(b:Tree)(ts:List Tok):PR:=
 if ak V3 ts then lF vV ts.tail λts=>B6 ts λs ts=>lF s5 ts λts=>Zq (Z2 F (.block false) d ts) λc ts=>Sw F d [b,.mk 13 s 0 [c]] ts
 else Sw F d [b] ts
theorem Zkf(F d:Nat)(ts:List Tok):Z2 (F+1) .try_ d ts=Zq (Z2 F (.block false) d ts) λb ts=>Zmt F d b ts:=rfl
def Zpn(F:Nat)(hB:bH 96 (λrb=>#[vP rb,.bool false]) (.block false) F) :
 bH 104 cW .try_ (F+1):=by
 intro w rb B d ts r hP hp;rw[Zkf]at hp;obtain⟨HP,HB,H1⟩:=ds hP hB hp;have ay:=hP.lt;unfold cW;clear hP hp hB;rcases Zf H1.o with⟨⟨c,p⟩,hv,rfl⟩|⟨t0,us,hv,h2⟩
 .have u:=HB.o w rb B d _ _ HP.o hv;simp only at u;have u:=lh u;clear hv;go_enter func104,ntmps104
  go_wp2_with fail
  refine u.o.mono ?_;exact TC
 have u:=HB.o w rb B d _ _ HP.o hv;simp only at u;obtain⟨u,HL,sy⟩:=ds u (TL hv) h2;clear hv h2;go_enter func104,ntmps104
 go_wp2_with fail
 refine u.o.mono ?_;rintro e w1⟨g,rfl,zu,dz,cZ⟩;have ah:kW w1 (w1.alloc (.cells #[vP g.b] 22)):=(Y2 _ _).alloc (Y0 _) _;have aA:kW w1 ((w1.alloc (.cells #[vP g.b] 22)).alloc (.cells #[vI 12,.string ⟨#[]⟩,vI 0,.slice (some ⟨w1.heap.size,0,none⟩) 1 1] 41)):=ah.alloc PE _;have hA:=Got.one (k:=12) (t:=⟨#[]⟩) HP.o.le cZ zu;have am:=dz.below aA;have Y:=cZ.trans (RFr.below (rb:=rb) aA)
 have HN:=lh (Zw (w1.alloc (.cells #[vP g.b] 22)) rb 12 ⟨#[]⟩ (some ⟨w1.heap.size,0,none⟩) 1 1);obtain⟨sb,Z⟩:=zX w1.heap.size
 rw[<-Z]at HN hA aA am Y;go_wp2_with fail
 rw[<-Z];refine HN.o.mono ?_;rintro e w2⟨rfl,ci⟩;have aZ:(w1.alloc (.cells #[vP g.b] 22)).heap.size=sb+1:=by rw[Z];simp
 rw[aZ];obtain⟨nb,dl⟩:=zX (sb+1)
 rw[<-dl]at hA ⊢;have hA:Got w B w2 (.mk nb (.slice (some ⟨sb,0,none⟩) 1 1) 12 ⟨#[]⟩ 0 [g]) (.mk 12 ⟨#[]⟩ 0 [t0]):=by rw[ci];exact hA
 rw[<-ci]at am Y;obtain⟨N,FQ,PQ,cE⟩:=en hA Y (HP.o.next am Y HL.o) Z;clear zu dz cZ ah aA hA am Y HN Z ci aZ dl u;by_cases hc:ak V3 us=true
 ·have hq := sy.o;unfold Zmt at hq;rw [Y5 hc] at hq;have HQ1 := lh hq;have HT := xH _ rb us d V3 PQ.o.rd hc;unfold V3 at HT;have HT := lh HT;clear hc hq;go_wp2_with fail
  refine HT.o.mono ?_;rintro e w3⟨rfl,bG,bg⟩;obtain⟨N,PQ,FQ⟩:=ds (N.o.rfr ay bg) (PQ.o.tail bG bg) (FQ.o.trans bg);clear bG bg HT;rcases T8 HQ1.o with⟨hs,h2⟩|⟨hs,rfl⟩
  .have HT:=Mn _ rb us.tail d vV PQ.o.rd hs;unfold vV at HT;have HT:=lh HT;have ch:=lh h2;clear hs h2;go_wp2_with fail
   refine HT.o.mono ?_;rintro e w4⟨rfl,eK,O⟩;obtain⟨N,PQ,FQ⟩:=ds (N.o.rfr ay O) (PQ.o.tail eK O) (FQ.o.trans O);clear eK O HT;rcases Z3b ch.o with⟨hk,h1⟩|⟨hk,rfl⟩
   .have HT:=lh (Va _ rb us.tail.tail d PQ.o.rd hk);obtain⟨s,hs⟩:=zX ((c9 us.tail.tail).text)
    rw[<-hs]at HT h1;have nf:=lh h1;clear hk h1 hs;go_wp2_with fail
    refine HT.o.mono ?_;rintro e w5⟨rfl,ms,eN⟩;obtain⟨N,PQ,FQ⟩:=ds (N.o.rfr ay eN) (PQ.o.tail ms eN) (FQ.o.trans eN);clear ms eN HT;rcases T8 nf.o with⟨hs,h2⟩|⟨hs,rfl⟩
    .have HT:=Mn _ rb us.tail.tail.tail d s5 PQ.o.rd hs;unfold s5 at HT;have HT:=lh HT;have H2:=lh h2;clear hs h2;go_wp2_with fail
     refine HT.o.mono ?_;rintro e w6⟨rfl,jC,fB⟩;obtain⟨N,PQ,FQ⟩:=ds (N.o.rfr ay fB) (PQ.o.tail jC fB) (FQ.o.trans fB);have HL:=lh (show us.tail.tail.tail.tail.length<=ts.length by have:=HL.o;simp only[List.length_tail];omega);clear jC fB HT;refine Zg4 ?_;intro ac;have I:w6.cell? ⟨nb,3,none⟩=some (.slice (some ⟨sb,0,none⟩) 1 1):=PC
     clear ac;go_wp2_with fail
     refine Z7 [0,2,4,6,8,10,12,14,17,19,21,23,25] [13,14,15] (λW=>vC W nb 3 (.slice (some ⟨sb,0,none⟩) 1 1)) I λ_=>?_;refine dU ?_
     iterate 8
      refine fa ?_
     refine Ze (λK hK=>?_);go_simp
     have P7:Pre w6.drew rb B d _:=PQ.o.below (Y2 _ _).drew;rcases Zf H2.o with⟨⟨c,p⟩,hv,rfl⟩|⟨t,vs,hv,fP⟩
     .refine(HB.o w6.drew rb B d _ _ P7 hv).mono ?_;exact UA
     have dr:=TL hv;have eY:=lh fP;refine(HB.o w6.drew rb B d _ _ P7 hv).mono ?_;rintro e w7⟨x,rfl,hX,lY,dJ⟩;have eL:RFr w6 w7 rb:=(RFr.refl w6 rb).drew.trans dJ;have kJ:=N.o.rfr ay eL;refine Zw5 ?_;intro ac;have m3:w7.cell? ⟨nb,3,none⟩=some (.slice (some ⟨sb,0,none⟩) 1 1):=PC
     refine hK _ _ m3 ?_;clear hK K;refine Uz ?_;intro K hK ah;refine hK _ _ ((ah.cell (p:=⟨nb,3,none⟩) (Y1.1 ac).1).trans m3) ?_;clear hK K;refine Ze (λK hK=>?_);go_simp
     have hA:=Got.one (w0:=w6.drew) (w:=w7) (rb:=rb) (k:=13) (t:=s) (Y4 HP.o.le FQ.o.size) dJ hX;have aA:kW w7 ((w7.alloc (.cells #[vP x.b] 22)).alloc (.cells #[vI 13,.string s,vI 0,.slice (some ⟨w7.heap.size,0,none⟩) 1 1] 41)):=ah.alloc PE _;refine(Zw (w7.alloc (.cells #[vP x.b] 22)) rb 13 s (some ⟨w7.heap.size,0,none⟩) 1 1).mono ?_;rintro e dx⟨rfl,cY⟩
     have hA:Got w6.drew B dx (.mk (w7.heap.size+1) (.slice (some ⟨w7.heap.size,0,none⟩) 1 1) 13 s 0 [x]) (.mk 13 s 0 [t]):=RY
     rw[<-cY]at aA;refine Zuq ?_;intro fJ bG cH;clear ac m3 cY ah;refine ub ?_;intro ac;have m3:dx.cell? ⟨nb,3,none⟩=some (.slice (some ⟨sb,0,none⟩) 1 1):=PC
     refine I2 ?_;intro mz dm dH aG;have gK:([g]).length<=8:=PE
     refine Zom ?_;intro fS;rw[fS];obtain⟨a,ha⟩:∃a:ATree,a=.mk (w7.heap.size+1) (.slice (some ⟨w7.heap.size,0,none⟩) 1 1) 13 s 0 [x]:=⟨_,rfl⟩
     rw[<-ha]at hA;refine Zmg ?_;intro jo;rw[jo];clear ha jo fS;refine S' ?_;intro N3 A3 R3;obtain⟨jz,NE,NA,fO⟩:=en (FQ.o.trans cH) aG (show∀y∈(ATree.mk nb (.slice (some ⟨sb,0,none⟩) 1 1) 12 ⟨#[]⟩ 0 [g]).blocks,y<w6.drew.heap.size from λy hy=>(N.o.new y hy).2) dr;refine vf ?_;intro i0 hi aC bo bQ;clear hK K hA bG cH fJ ac dH aG I hX lY dJ eL kJ aA hv fP P7 dr;refine t7 ?_;intro K hK
     refine step_append_lies _ PM (.tmp 22) (.tmp 29) 39 PM B 22 i0 _ 1 8 underlying39 hi aC bo bQ rfl Py (.slice (some ⟨sb,0,none⟩) 1 1) ([g]).length (([g]).map ATree.ptr) PM (N3.o.at'.rowOf.alloc _) ⟨dx.heap.size,0,none⟩ 1 1 [a.ptr] PM rfl (Ya (cs:=#[a.ptr]) (t:=22) (fr:=(0,0)) (Yq dx _)) PO Py PA Px PN (dx.heap.size+1) PE ?_;intro m cap w4 aS aB bS bY
     refine Zyn ?_;intro m4;refine uV ?_;clear hK K;intro lX;refine Zst ?_;clear aB aS bS bY;intro ct;go_wp2_with fail
     have uJ:Got w B (w4.setCell ⟨nb,3,none⟩ (.slice (some ⟨m,0,none⟩) 2 cap)) (.mk nb (.slice (some ⟨m,0,none⟩) 2 cap) 12 ⟨#[]⟩ 0 [g,a]) (.mk 12 ⟨#[]⟩ 0 [t0,.mk 13 s 0 [t]]):=by
      exact VU
     have O:RFr w (w4.setCell ⟨nb,3,none⟩ (.slice (some ⟨m,0,none⟩) 2 cap)) rb:=ct.o.2.1;have eK:Rd (w4.setCell ⟨nb,3,none⟩ (.slice (some ⟨m,0,none⟩) 2 cap)) rb vs d:=ct.o.2.2;have Jd:vs.length<=ts.length:=by have:=fO.o;have:=HL.o;omega
     have EN:Pre (w4.setCell ⟨nb,3,none⟩ (.slice (some ⟨m,0,none⟩) 2 cap)) rb B d vs:=HP.o.next eK O Jd;obtain⟨w5,Cv⟩:=zX (w4.setCell ⟨nb,3,none⟩ (.slice (some ⟨m,0,none⟩) 2 cap))
     have OO:=lh Cv;rw[<-Cv]at uJ O EN;obtain⟨N,FQ,PQ,HQ⟩:=en uJ O EN (show Sw F d [t0,.mk 13 s 0 [t]] vs=some r from eY.o);clear uJ O eK Jd EN ct m4 lX NA NE A3 N3 R3 jz m3 mz dm gK;rw[<-Cv];clear Cv;obtain⟨c0,rfl⟩:∃c0:ATree,c0=a:=⟨_,rfl⟩
     obtain⟨tc,rfl⟩:∃tc:Tree,tc=t:=⟨_,rfl⟩
     obtain⟨J,rfl⟩:∃J:Nat,J=m:=⟨_,rfl⟩
     obtain⟨X,rfl⟩:∃c2:Nat,c2=cap:=⟨_,rfl⟩
     obtain⟨rA,rfl⟩:∃c2:List Tok,c2=vs:=⟨_,rfl⟩
     by_cases hf:ak Ir rA=true
     .have hq:=HQ.o;unfold Sw at hq;rw[Y5 hf]at hq;have H2:=lh hq;have HT:=xH _ rb rA d Ir PQ.o.rd hf;unfold Ir at HT;have HT:=lh HT;clear hf hq;go_wp2_with fail
      refine Ztr ?_;clear HT;intro wf N PQ FQ;refine Zg4 ?_;intro ac;have I:wf.cell? ⟨nb,3,none⟩=some (.slice (some ⟨J,0,none⟩) 2 X):=PC
      clear ac;go_wp2_with fail
      refine Z7 [0,2,4,6,8,10,12,15,17,19,21,23] [12,13,14] (λW=>vC W nb 3 (.slice (some ⟨J,0,none⟩) 2 X)) I λ_=>?_;refine dU ?_
      iterate 7
       refine fa ?_
      refine Zrq ?_;intro K hK P7;rcases Zf H2.o with⟨⟨c,p⟩,hv,rfl⟩|⟨t,vs,hv,fP⟩
      .refine(HB.o wf.drew rb B d _ _ P7 hv).mono ?_;exact UA
      refine Zy8 ?_;intro dr eY w7 x hX lY dJ eL kJ;refine Zw5 ?_;intro ac;have m3:w7.cell? ⟨nb,3,none⟩=some (.slice (some ⟨J,0,none⟩) 2 X):=PC
      refine hK _ _ m3 ?_;clear hK K;refine Uz ?_;intro K hK ah;refine hK _ _ ((ah.cell (p:=⟨nb,3,none⟩) (Y1.1 ac).1).trans m3) ?_;clear hK K;refine Zx5 ?_;intro K hK hA;refine AcC ?_;intro aA dx cY hA;rw[<-cY]at aA;have fJ:=kJ.rfr ay (RFr.below (rb:=rb) aA);have bG:=lY.below aA;have cH:RFr wf dx rb:=eL.trans (RFr.below aA);clear ac m3 cY ah;refine ub ?_;intro ac;have m3:dx.cell? ⟨nb,3,none⟩=some (.slice (some ⟨J,0,none⟩) 2 X):=PC
      refine I2 ?_;intro mz dm dH aG;have gK:([g,c0]).length<=8:=PE
      refine Zom ?_;intro fS;rw[fS];obtain⟨a,ha⟩:∃a:ATree,a=.mk (w7.heap.size+1) (.slice (some ⟨w7.heap.size,0,none⟩) 1 1) 14 ⟨#[]⟩ 0 [x]:=⟨_,rfl⟩
      rw[<-ha]at hA;refine Zmg ?_;intro jo;rw[jo];clear ha jo fS;refine S' ?_;intro N3 A3 R3;obtain⟨jz,NE,NA,fO⟩:=en (FQ.o.trans cH) aG (show∀y∈(ATree.mk nb (.slice (some ⟨J,0,none⟩) 2 X) 12 ⟨#[]⟩ 0 [g,c0]).blocks,y<wf.drew.heap.size from λy hy=>(N.o.new y hy).2) dr;refine vf ?_;intro i0 hi aC bo bQ;clear hK K hA bG cH fJ ac dH aG I hX lY dJ eL kJ aA hv fP P7 dr;refine t7 ?_;intro K hK
      refine step_append_lies _ PM (.tmp 39) (.tmp 45) 39 PM B 22 i0 _ 1 8 underlying39 hi aC bo bQ rfl Py (.slice (some ⟨J,0,none⟩) 2 X) ([g,c0]).length (([g,c0]).map ATree.ptr) PM (N3.o.at'.rowOf.alloc _) ⟨dx.heap.size,0,none⟩ 1 1 [a.ptr] PM rfl (Ya (cs:=#[a.ptr]) (t:=22) (fr:=(0,0)) (Yq dx _)) PO Py PA Px PN (dx.heap.size+1) PE ?_
      intro m cap w4 aS aB bS bY;have m4:vC w4 nb 3 (.slice (some ⟨J,0,none⟩) 2 X):=(aB.cell_far ⟨nb,3,none⟩ PB (λe=>NE.o e.symm)).trans ((Zc dm).trans m3);refine uV ?_;clear hK K;intro lX;refine V4 ?_;clear aB aS bS bY;intro ct;have oW:=Yc eY.o;have pT:=lh oW.symm;have ac:=ct.o.1.at'.blkOf;simp only[ATree.b,ATree.v,ATree.kind,ATree.text,ATree.n]at ac
      have e3:(w4.setCell ⟨nb,3,none⟩ (.slice (some ⟨m,0,none⟩) (([g,c0]).length+1) cap)).cell? ⟨nb,3,none⟩=some (.slice (some ⟨m,0,none⟩) (([g,c0]).length+1) cap):=by unfold World.cell?;rw[ac];rfl
      have n1:(((([g,c0]).length+1:Nat):Int)==1)=false:=PE
      clear oW ac;go_wp2;go_ret;rw[pT.o];refine⟨.mk nb (.slice (some ⟨m,0,none⟩) (([g,c0]).length+1) cap) 12 ⟨#[]⟩ 0 ([g,c0]++[a]),rfl,?_,ct.o.2.2,ct.o.2.1⟩;exact VU
     .have zJ:ak Ir rA=false:=by simpa using hf
      have hq:=HQ.o;unfold Sw at hq;rw[Y3 hf]at hq;have ch:=lh hq;have HT:=zi _ rb rA d Ir PQ.o.rd zJ;unfold Ir at HT;have HT:=lh HT;clear hf zJ hq;go_wp2_with fail
      refine HT.o.mono ?_;refine Zvs ?_;intro wf kM N PQ FQ;refine Zg4 ?_;intro ac;have I:wf.cell? ⟨nb,3,none⟩=some (.slice (some ⟨J,0,none⟩) 2 X):=PC
      clear kM HT ac;have hq:=ch.o;rw[Y3 PE]at hq;have pT:=lh (Yc hq).symm;clear hq;go_wp2;go_ret;rw[pT.o];exact⟨_,rfl,N.o,PQ.o.rd,FQ.o⟩
    .have HT:=Ty _ rb us.tail.tail.tail d s5 PQ.o.rd hs;unfold s5 at HT;have HT:=lh HT;clear hs;exact YG
   .have HT:=lh (X2 _ rb us.tail.tail d PQ.o.rd hk);clear hk;exact YG
  .have HT:=Ty _ rb us.tail d vV PQ.o.rd hs;unfold vV at HT;have HT:=lh HT;clear hs;exact YG
 .have mJ:ak V3 us=false:=by simpa using hc
  have hq:=sy.o;unfold Zmt at hq;rw[Y3 hc]at hq;have HQ:=lh hq;have HT:=zi _ rb us d V3 PQ.o.rd mJ;unfold V3 at HT;have HT:=lh HT;clear hc mJ hq;go_wp2_with fail
  refine HT.o.mono ?_;rintro e w3⟨rfl,U⟩;obtain⟨N,PQ,FQ⟩:=ds (N.o.rfr ay (RFr.below (rb:=rb) U)) (PQ.o.below U) (FQ.o.trans (RFr.below (rb:=rb) U));clear U HT;by_cases hf:ak Ir us=true
  .have hq:=HQ.o;unfold Sw at hq;rw[Y5 hf]at hq;have H2:=lh hq;have HT:=xH _ rb us d Ir PQ.o.rd hf;unfold Ir at HT;have HT:=lh HT;clear hf hq;go_wp2_with fail
   refine Ztr ?_;clear HT;intro wf N PQ FQ;refine Zg4 ?_;intro ac;have I:wf.cell? ⟨nb,3,none⟩=some (.slice (some ⟨sb,0,none⟩) 1 1):=PC
   clear ac;go_wp2_with fail
   refine Z7 [0,2,4,6,8,10,12,15,17,19,21,23] [12,13,14] (λW=>vC W nb 3 (.slice (some ⟨sb,0,none⟩) 1 1)) I λ_=>?_;refine dU ?_
   iterate 7
    refine fa ?_
   refine Zrq ?_;intro K hK P7;rcases Zf H2.o with⟨⟨c,p⟩,hv,rfl⟩|⟨t,vs,hv,fP⟩
   .refine(HB.o wf.drew rb B d _ _ P7 hv).mono ?_;exact UA
   refine Zy8 ?_;intro dr eY w7 x hX lY dJ eL kJ;refine Zw5 ?_;intro ac;have m3:w7.cell? ⟨nb,3,none⟩=some (.slice (some ⟨sb,0,none⟩) 1 1):=PC
   refine hK _ _ m3 ?_;clear hK K;refine Uz ?_;intro K hK ah;refine hK _ _ ((ah.cell (p:=⟨nb,3,none⟩) (Y1.1 ac).1).trans m3) ?_;clear hK K;refine Zx5 ?_;intro K hK hA;refine AcC ?_;intro aA dx cY hA;rw[<-cY]at aA;have fJ:=kJ.rfr ay (RFr.below (rb:=rb) aA);have bG:=lY.below aA;have cH:RFr wf dx rb:=eL.trans (RFr.below aA);clear ac m3 cY ah;refine ub ?_;intro ac;have m3:dx.cell? ⟨nb,3,none⟩=some (.slice (some ⟨sb,0,none⟩) 1 1):=PC
   refine I2 ?_;intro mz dm dH aG;have gK:([g]).length<=8:=PE
   refine Zom ?_;intro fS;rw[fS];obtain⟨a,ha⟩:∃a:ATree,a=.mk (w7.heap.size+1) (.slice (some ⟨w7.heap.size,0,none⟩) 1 1) 14 ⟨#[]⟩ 0 [x]:=⟨_,rfl⟩
   rw[<-ha]at hA;refine Zmg ?_;intro jo;rw[jo];clear ha jo fS;refine S' ?_;intro N3 A3 R3;obtain⟨jz,NE,NA,fO⟩:=en (FQ.o.trans cH) aG (show∀y∈(ATree.mk nb (.slice (some ⟨sb,0,none⟩) 1 1) 12 ⟨#[]⟩ 0 [g]).blocks,y<wf.drew.heap.size from λy hy=>(N.o.new y hy).2) dr;refine vf ?_;intro i0 hi aC bo bQ;clear hK K hA bG cH fJ ac dH aG I hX lY dJ eL kJ aA hv fP P7 dr;refine t7 ?_;intro K hK
   refine step_append_lies _ PM (.tmp 39) (.tmp 45) 39 PM B 22 i0 _ 1 8 underlying39 hi aC bo bQ rfl Py (.slice (some ⟨sb,0,none⟩) 1 1) ([g]).length (([g]).map ATree.ptr) PM (N3.o.at'.rowOf.alloc _) ⟨dx.heap.size,0,none⟩ 1 1 [a.ptr] PM rfl (Ya (cs:=#[a.ptr]) (t:=22) (fr:=(0,0)) (Yq dx _)) PO Py PA Px PN (dx.heap.size+1) PE ?_;intro m cap w4 aS aB bS bY
   refine Zyn ?_;intro m4;refine uV ?_;clear hK K;intro lX;refine V4 ?_;clear aB aS bS bY;intro ct;have oW:=Yc eY.o;have pT:=lh oW.symm;have ac:=ct.o.1.at'.blkOf;simp only[ATree.b,ATree.v,ATree.kind,ATree.text,ATree.n]at ac;have e3:(w4.setCell ⟨nb,3,none⟩ (.slice (some ⟨m,0,none⟩) (([g]).length+1) cap)).cell? ⟨nb,3,none⟩=some (.slice (some ⟨m,0,none⟩) (([g]).length+1) cap):=by unfold World.cell?;rw[ac];rfl
   have n1:(((([g]).length+1:Nat):Int)==1)=false:=PE
   clear oW ac;go_wp2;go_ret;rw[pT.o];refine⟨.mk nb (.slice (some ⟨m,0,none⟩) (([g]).length+1) cap) 12 ⟨#[]⟩ 0 ([g]++[a]),rfl,?_,ct.o.2.2,ct.o.2.1⟩;exact VU
  .have zJ:ak Ir us=false:=by simpa using hf
   have hq:=HQ.o;unfold Sw at hq;rw[Y3 hf]at hq;have ch:=lh hq;have HT:=zi _ rb us d Ir PQ.o.rd zJ;unfold Ir at HT;have HT:=lh HT;clear hf zJ hq;go_wp2_with fail
   refine HT.o.mono ?_;refine Zvs ?_;intro wf kM N PQ FQ;refine Zg4 ?_;intro ac;have I:wf.cell? ⟨nb,3,none⟩=some (.slice (some ⟨sb,0,none⟩) 1 1):=PC
   clear kM HT ac;have hq:=ch.o;rw[Y5 (show[t0].length=1 from rfl)]at hq;obtain rfl:=Yc hq;have HF:=lh (UW wf rb us d 3 PQ.o.rd);clear hq;exact Ug
def Zo3(f:Nat)(xB:bH 96 (λrb=>#[vP rb,.bool false]) (.block false) f)
 (hD:∀k m,bH 99 (λrb=>#[vP rb,vI k,.bool m]) (.decl k m) f)
 (zD:∀s,bH 100 (λrb=>#[vP rb,vI 5,.string s]) (.func 5 s) f)
 (hA:bH 102 cW .around f)(hS:bH 66 cW .stmt f)
 (hV:bH 103 cW .value f)(hT:bH 104 cW .try_ f):bH 66 cW .stmt (f+1):=by
 intro w rb B d ts r hP hp;obtain⟨HP,o8,U,vu,HA,HS,HV,jD⟩:=kw hP xB hD zD hA hS hV hT;have ay:=hP.lt;have ku:=hp;rw[Z2]at ku;obtain⟨HQ,P0,F0⟩:=ds ku hP (RFr.refl w rb);refine FG ?_;intro iO;clear hP hp xB hD zD hA hS hV hT ku;unfold cW;go_enter func66,ntmps66
 by_cases h:ak Ku ts=true
 .have hq:=HQ.o;rw[Y5 h]at hq;have I:=lh hq;have F:=Sl w rb ts d Ku P0.o.rd;rw[h]at F;unfold Ku at F;have F:=lh F;clear h hq;go_wp2_with fail
  refine F.o.mono ?_;rintro e w2⟨rfl,g⟩;have F2:=lh (F0.o.trans (RFr.below (rb:=rb) g));have HC:=o8.o w2 rb B d _ r (P0.o.below g) I.o;simp only at HC;have HC:=lh HC;clear g F;exact AbY
 have u:ak Ku ts=false:=Qk
 have hq:=HQ.o;rw[Y3 h]at hq;have EO:=lh hq;have F:=Sl w rb ts d Ku P0.o.rd;rw[u]at F;unfold Ku at F;have F:=lh F;clear h u hq;go_wp2_with fail
 refine F.o.mono ?_;rintro e Je⟨rfl,g⟩;have zK:=lh (P0.o.below g);have EP:=lh (F0.o.trans (RFr.below (rb:=rb) g));clear g F P0 F0 HQ;by_cases h:ak K5 ts=true
 .have hq:=EO.o;rw[Y5 h]at hq;have I:=lh hq;have HT:=xH Je rb ts d K5 zK.o.rd h;unfold K5 at HT;have HT:=lh HT;clear h hq;go_wp2_with fail
  refine Ta ?_;intro w2 am ap;have P2:=lh (zK.o.tail am ap);have F2:=lh (EP.o.trans ap);clear am ap HT;obtain⟨HR,HN,X⟩:=ds (Yc I.o).symm (Zw w2 rb 16 ⟨#[]⟩ none 0 0) (Got.leaf (k:=16) (t:=⟨#[]⟩) (n:=0) HP.o.le F2.o);go_wp2_with fail
  refine HN.o.mono ?_;rintro e w3⟨rfl,kq⟩;have Y:kW w2 w3:=Rp
  have AL:=lh Y;have xL:=lh kq;clear Y kq HN;go_wp2;go_ret;rw[HR.o];exact⟨_,rfl,by rw[xL.o];exact X.o,P2.o.rd.below AL.o,F2.o.trans (RFr.below AL.o)⟩
 have u:ak K5 ts=false:=Qk
 have hq:=EO.o;rw[Y3 h]at hq;have EQ:=lh hq;have HT:=zi Je rb ts d K5 zK.o.rd u;unfold K5 at HT;have HT:=lh HT;clear h u hq;go_wp2_with fail
 refine HT.o.mono ?_;rintro e Jf⟨rfl,g⟩;have zO:=lh (zK.o.below g);have ER:=lh (EP.o.trans (RFr.below (rb:=rb) g));clear g HT zK EP EO;by_cases h:ak XO ts=true
 .have hq:=EQ.o;rw[Y5 h]at hq;have I:=lh hq;have HT:=xH Jf rb ts d XO zO.o.rd h;unfold XO at HT;have HT:=lh HT;clear h hq;go_wp2_with fail
  refine Ta ?_;intro w2 am ap;have P2:=lh (zO.o.tail am ap);have F2:=lh (ER.o.trans ap);clear am ap HT;rcases Zf I.o with⟨⟨c,p⟩,hv,rfl⟩|⟨t,vs,hv,fP⟩
  .have HC:=U.o 2 false w2 rb B d _ _ P2.o hv;simp only at HC;exact Uq
  have HC:=U.o 2 false w2 rb B d _ _ P2.o hv;exact ZJ
 have u:ak XO ts=false:=Qk
 have hq:=EQ.o;rw[Y3 h]at hq;have ES:=lh hq;have HT:=zi Jf rb ts d XO zO.o.rd u;unfold XO at HT;have HT:=lh HT;clear h u hq;go_wp2_with fail
 refine HT.o.mono ?_;rintro e Jg⟨rfl,g⟩;have zP:=lh (zO.o.below g);have ET:=lh (ER.o.trans (RFr.below (rb:=rb) g));clear g HT zO ER EQ;by_cases h:ak WX ts=true
 .have hq:=ES.o;rw[Y5 h]at hq;have I:=lh hq;have HT:=xH Jg rb ts d WX zP.o.rd h;unfold WX at HT;have HT:=lh HT;clear h hq;go_wp2_with fail
  refine Ta ?_;intro w2 am ap;have P2:=lh (zP.o.tail am ap);have F2:=lh (ET.o.trans ap);clear am ap HT;rcases Zf I.o with⟨⟨c,p⟩,hv,rfl⟩|⟨t,vs,hv,fP⟩
  .have HC:=U.o 3 false w2 rb B d _ _ P2.o hv;simp only at HC;exact Uq
  have HC:=U.o 3 false w2 rb B d _ _ P2.o hv;exact ZJ
 have u:ak WX ts=false:=Qk
 have hq:=ES.o;rw[Y3 h]at hq;have EU:=lh hq;have HT:=zi Jg rb ts d WX zP.o.rd u;unfold WX at HT;have HT:=lh HT;clear h u hq;go_wp2_with fail
 refine HT.o.mono ?_;rintro e Jh⟨rfl,g⟩;have zQ:=lh (zP.o.below g);have EV:=lh (ET.o.trans (RFr.below (rb:=rb) g));clear g HT zP ET ES;by_cases h:ak Yz ts=true
 .have hq:=EU.o;rw[Y5 h]at hq;have I:=lh hq;have HT:=xH Jh rb ts d Yz zQ.o.rd h;unfold Yz at HT;have HT:=lh HT;clear h hq;go_wp2_with fail
  refine Ta ?_;intro w2 am ap;have P2:=lh (zQ.o.tail am ap);have F2:=lh (EV.o.trans ap);clear am ap HT;rcases Zf I.o with⟨⟨c,p⟩,hv,rfl⟩|⟨t,vs,hv,fP⟩
  .have HC:=U.o 4 true w2 rb B d _ _ P2.o hv;simp only at HC;exact Uq
  have HC:=U.o 4 true w2 rb B d _ _ P2.o hv;exact ZJ
 have u:ak Yz ts=false:=Qk
 have hq:=EU.o;rw[Y3 h]at hq;have EX:=lh hq;have HT:=zi Jh rb ts d Yz zQ.o.rd u;unfold Yz at HT;have HT:=lh HT;clear h u hq;go_wp2_with fail
 refine HT.o.mono ?_;rintro e Ji⟨rfl,g⟩;have zR:=lh (zQ.o.below g);have EY:=lh (EV.o.trans (RFr.below (rb:=rb) g));clear g HT zQ EV EU;by_cases h:ak SF ts=true
 .have hq:=EX.o;rw[Y5 h]at hq;have I:=lh hq;have HT:=xH Ji rb ts d SF zR.o.rd h;unfold SF at HT;have HT:=lh HT;clear h hq;go_wp2_with fail
  refine Ta ?_;intro w2 am ap;have P2:=lh (zR.o.tail am ap);have F2:=lh (EY.o.trans ap);clear am ap HT;rcases Z3b I.o with⟨hk,h1⟩|⟨hk,rfl⟩
  .have HC:=lh (Va w2 rb ts.tail d P2.o.rd hk);obtain⟨s,hs⟩:=zX ((c9 ts.tail).text)
   rw[<-hs]at HC h1;have eY:=lh h1;clear hk h1 hs;go_wp2_with fail
   refine HC.o.mono ?_;rintro e w4⟨rfl,eK,be⟩;have bP:=vu.o s w4 rb B d _ r (P2.o.tail eK be) eY.o;simp only at bP;have bP:=lh bP;have F4:=lh (F2.o.trans be);clear eK be HC;go_wp2_with fail
   refine bP.o.mono ?_;rcases r with⟨c,p⟩|⟨t,ts'⟩
   .rintro e wz⟨⟨b,rfl,h1,h2⟩,hF⟩;exact VN
   .rintro e wz⟨a,rfl,hG,hR,hF⟩;exact Abg
  .have HC:=lh (X2 w2 rb ts.tail d P2.o.rd hk);exact AbH
 have u:ak SF ts=false:=Qk
 have hq:=EX.o;rw[Y3 h]at hq;have EZ:=lh hq;have HT:=zi Ji rb ts d SF zR.o.rd u;unfold SF at HT;have HT:=lh HT;clear h u hq;go_wp2_with fail
 refine HT.o.mono ?_;rintro e Jj⟨rfl,g⟩;have zS:=lh (zR.o.below g);have E0:=lh (EY.o.trans (RFr.below (rb:=rb) g));clear g HT zR EY EX;by_cases h:ak L2 ts=true
 .have hq:=EZ.o;rw[Y5 h]at hq;have I:=lh hq;have HT:=xH Jj rb ts d L2 zS.o.rd h;unfold L2 at HT;have HT:=lh HT;clear h hq;go_wp2_with fail
  refine Ta ?_;intro w2 am ap;have P2:=lh (zS.o.tail am ap);have F2:=lh (E0.o.trans ap);clear am ap HT;rcases Zf I.o with⟨⟨c,p⟩,hv,rfl⟩|⟨t,vs,hv,fP⟩;·exact ZV
  have HC:=HA.o w2 rb B d _ _ P2.o hv;unfold cW at HC;refine Zks ?_;intro HC fO eY;clear hv fP;go_wp2_with fail
  refine Zvo ?_;intro w3 x hX bG bg P3 F3 X3 xb g9 uH;rw[<-g9];clear hX bG bg HC g9;rcases Zf eY.o with⟨⟨c,p⟩,hv,rfl⟩|⟨ty,us,hv,oW⟩;·exact Aah
  refine Z' ?_;intro HC ke uF;clear hv oW;go_wp2_with fail
  refine Aal ?_;intro w4 y hY hR be kT kU nX ah;have aA:kW w4 ((w4.alloc (.cells #[vP xb,vP y.b] 22)).alloc (.cells #[vI 7,.string ⟨#[]⟩,vI 0,.slice (some ⟨w4.heap.size,0,none⟩) 2 2] 41)):=ah.alloc PE _;have hA:=Got.two (k:=7) (t:=⟨#[]⟩) HP.o.le kU kT (wA:=w3) (λz J=>(X3.o.new z J).2) F3.o.size hY;refine Znf ?_;intro am ap
  have HN:=lh (Zw (w4.alloc (.cells #[vP xb,vP y.b] 22)) rb 7 ⟨#[]⟩ (some ⟨w4.heap.size,0,none⟩) 2 2);obtain⟨sb,aK⟩:=zX w4.heap.size
  rw[<-aK]at HN hA aA am ap;have cE:=lh aK;go_wp2_with fail
  rw[<-cE.o];refine YE ?_;intro wn jw bj aZ;rw[aZ];obtain⟨nb,dl⟩:=zX (sb+1)
  rw[<-dl]at hA ⊢;have hA:Got w B wn (.mk nb (.slice (some ⟨sb,0,none⟩) 2 2) 7 ⟨#[]⟩ 0 [x,y]) (.mk 7 ⟨#[]⟩ 0 [t,ty]):=Rw
  rw[<-jw]at am ap;obtain⟨N,FQ,PQ⟩:=ds hA ap ((P3.o.next (ts':=us) hR be ke.o).next am (RFr.below (rb:=rb) bj) (Y0 _));clear kT nX kU hY hR be ah aA bj hA am ap HN aK jw aZ dl HC;by_cases he:ak XS us=true
  .have hq:=uF.o;rw[Y5 he]at hq;have H2:=lh hq;have HT:=xH wn rb us d XS PQ.o.rd he;unfold XS at HT;have HT:=lh HT;clear he hq;go_wp2_with fail
   refine Ztr ?_;clear HT;intro wf N PQ FQ;refine Zg4 ?_;intro ac;have n3:wf.cell? ⟨nb,3,none⟩=some (.slice (some ⟨sb,0,none⟩) 2 2):=PC
   clear ac;go_wp2_with fail
   refine Z7 [0,2,4,6,8,10,12,14,17,19,21] [11,12,13] (λW=>vC W nb 3 (.slice (some ⟨sb,0,none⟩) 2 2)) n3 λ_=>?_;refine dU ?_
   iterate 8
    refine fa ?_
   refine Zrq ?_;intro K hK P7;rcases Zf H2.o with⟨⟨c,p⟩,hv,rfl⟩|⟨t6,Jk,hv,zU⟩
   .refine(Xp wf.drew rb B _ d _ _ P7.rd (by have:=P7.deep;omega) ay hv λhd h1 w4 hR hs=>HS.o w4 rb B (d+1) _ _ ⟨hR,hd,ay,by have:=P7.le;omega,P7.few⟩ h1).mono ?_;exact Zxf
   have zV:=lh (Nat.le_of_lt (Leaves.within (XK f .stmt (d+1) _) t6 Jk hv));have E1:=lh zU;refine(Xp wf.drew rb B _ d _ _ P7.rd (by have:=P7.deep;omega) ay hv λhd h1 w4 hR hs=>HS.o w4 rb B (d+1) _ _ ⟨hR,hd,ay,by have:=P7.le;omega,P7.few⟩ h1).mono ?_;rintro e dx⟨a,rfl,hA,bG,dJ⟩;have O:RFr wf dx rb:=(RFr.refl wf rb).drew.trans dJ;have fJ:=N.o.rfr ay O;refine ub ?_;intro ac;have m3:dx.cell? ⟨nb,3,none⟩=some (.slice (some ⟨sb,0,none⟩) 2 2):=PC
   refine I2 ?_;intro mz dm dH aG;have gK:([x,y]).length<=8:=PE
   refine S' ?_;intro N3 A3 R3;obtain⟨jz,NE,NA⟩:=ds (FQ.o.trans O) aG (show∀z∈(ATree.mk nb (.slice (some ⟨sb,0,none⟩) 2 2) 7 ⟨#[]⟩ 0 [x,y]).blocks,z<wf.drew.heap.size from λz J=>(N.o.new z J).2);refine vf ?_;intro i0 hi aC bo bQ;clear hK K hA bG O fJ ac dH aG n3 dJ hv zU P7;refine t7 ?_;intro K hK
   refine step_append_lies _ PM (.tmp 65) (.tmp 70) 39 PM B 22 i0 _ 1 8 underlying39 hi aC bo bQ rfl Py (.slice (some ⟨sb,0,none⟩) 2 2) ([x,y]).length (([x,y]).map ATree.ptr) PM (N3.o.at'.rowOf.alloc _) ⟨dx.heap.size,0,none⟩ 1 1 [a.ptr] PM rfl (Ya (cs:=#[a.ptr]) (t:=22) (fr:=(0,0)) (Yq dx _)) PO Py PA Px PN (dx.heap.size+1) PE ?_;intro gg cap w4 aS aB bS bY
   have m4:vC w4 nb 3 (.slice (some ⟨sb,0,none⟩) 2 2):=(aB.cell_far ⟨nb,3,none⟩ PB (λe=>NE.o e.symm)).trans ((Zc dm).trans m3);refine uV ?_;clear hK K;intro lX;refine V4 ?_;clear aB aS bS bY;intro ct;have pT:=lh (Yc E1.o).symm;go_wp2;go_ret;rw[pT.o];refine⟨.mk nb (.slice (some ⟨gg,0,none⟩) (([x,y]:List ATree).length+1) cap) 7 ⟨#[]⟩ 0 ([x,y]++[a]),rfl,?_,ct.o.2.2,ct.o.2.1⟩;exact VU
  .have qg:ak XS us=false:=by simpa using he
   have hq:=uF.o;rw[Y3 he]at hq;have pT:=lh (Yc hq).symm;have HT:=zi wn rb us d XS PQ.o.rd qg;unfold XS at HT;have HT:=lh HT;clear he qg hq;go_wp2_with fail
   refine HT.o.mono ?_;rintro e wf⟨rfl,kM⟩;obtain⟨N,R,FQ⟩:=ds (N.o.rfr ay (RFr.below (rb:=rb) kM)) (PQ.o.rd.below kM) (FQ.o.trans (RFr.below (rb:=rb) kM));clear kM HT;go_wp2;go_ret;rw[pT.o];exact⟨_,rfl,N.o,R.o,FQ.o⟩
 have u:ak L2 ts=false:=Qk
 have hq:=EZ.o;rw[Y3 h]at hq;have E4:=lh hq;have HT:=zi Jj rb ts d L2 zS.o.rd u;unfold L2 at HT;have HT:=lh HT;clear h u hq;go_wp2_with fail
 refine HT.o.mono ?_;rintro e Jl⟨rfl,g⟩;have zW:=lh (zS.o.below g);have E5:=lh (E0.o.trans (RFr.below (rb:=rb) g));clear g HT zS E0 EZ;by_cases h:ak XE ts=true
 .have hq:=E4.o;rw[Y5 h]at hq;have I:=lh hq;have HT:=xH Jl rb ts d XE zW.o.rd h;unfold XE at HT;have HT:=lh HT;clear h hq;go_wp2_with fail
  refine Ta ?_;intro w2 am ap;have P2:=lh (zW.o.tail am ap);have F2:=lh (E5.o.trans ap);clear am ap HT;rcases Zf I.o with⟨⟨c,p⟩,hv,rfl⟩|⟨t,vs,hv,fP⟩;·exact ZV
  have HC:=HA.o w2 rb B d _ _ P2.o hv;unfold cW at HC;refine Zks ?_;intro HC fO eY;clear hv fP;go_wp2_with fail
  refine Zvo ?_;intro w3 x hX bG bg P3 F3 X3 xb g9 uH;rw[<-g9];clear hX bG bg HC g9;rcases Zf eY.o with⟨⟨c,p⟩,hv,rfl⟩|⟨ty,us,hv,oW⟩;·exact Aah
  refine Z' ?_;intro HC ke uF;clear hv oW;go_wp2_with fail
  refine Aal ?_;intro w4 y hY hR be kT kU nX ah;have aA:kW w4 ((w4.alloc (.cells #[vP xb,vP y.b] 22)).alloc (.cells #[vI 8,.string ⟨#[]⟩,vI 0,.slice (some ⟨w4.heap.size,0,none⟩) 2 2] 41)):=ah.alloc PE _;have hA:=Got.two (k:=8) (t:=⟨#[]⟩) HP.o.le kU kT (wA:=w3) (λz J=>(X3.o.new z J).2) F3.o.size hY;refine Znf ?_;intro am ap
  have HN:=lh (Zw (w4.alloc (.cells #[vP xb,vP y.b] 22)) rb 8 ⟨#[]⟩ (some ⟨w4.heap.size,0,none⟩) 2 2);obtain⟨sb,aK⟩:=zX w4.heap.size
  rw[<-aK]at HN hA aA am ap;have cE:=lh aK;go_wp2_with fail
  rw[<-cE.o];refine YE ?_;intro wn jw bj aZ;rw[aZ];obtain⟨nb,dl⟩:=zX (sb+1)
  rw[<-dl]at hA ⊢;have hA:Got w B wn (.mk nb (.slice (some ⟨sb,0,none⟩) 2 2) 8 ⟨#[]⟩ 0 [x,y]) (.mk 8 ⟨#[]⟩ 0 [t,ty]):=Rw
  exact AbQ
 have u:ak XE ts=false:=Qk
 have hq:=E4.o;rw[Y3 h]at hq;have E6:=lh hq;have HT:=zi Jl rb ts d XE zW.o.rd u;unfold XE at HT;have HT:=lh HT;clear h u hq;go_wp2_with fail
 refine HT.o.mono ?_;rintro e Jm⟨rfl,g⟩;have zY:=lh (zW.o.below g);have E7:=lh (E5.o.trans (RFr.below (rb:=rb) g));clear g HT zW E5 E4;by_cases h:ak X0 ts=true
 .have hq:=E6.o;rw[Y5 h]at hq;have I:=lh hq;have HT:=xH Jm rb ts d X0 zY.o.rd h;unfold X0 at HT;have HT:=lh HT;clear h hq;go_wp2_with fail
  refine Ta ?_;intro w2 am ap;have P2:=lh (zY.o.tail am ap);have F2:=lh (E7.o.trans ap);clear am ap HT;rcases Zf I.o with⟨⟨c,p⟩,hv,rfl⟩|⟨t,vs,hv,fP⟩;·exact ZV
  have HC:=HA.o w2 rb B d _ _ P2.o hv;unfold cW at HC;refine Zks ?_;intro HC fO eY;clear hv fP;go_wp2_with fail
  refine Zvo ?_;intro w3 x hX bG bg P3 F3 X3 xb g9 uH;rw[<-g9];clear hX bG bg HC g9;rcases Zf eY.o with⟨⟨c,p⟩,hv,rfl⟩|⟨ty,us,hv,oW⟩;·exact Aah
  refine Z' ?_;intro HC ke uF;clear hv oW;go_wp2_with fail
  refine Aal ?_;intro w4 y hY hR be kT kU nX ah;have aA:kW w4 ((w4.alloc (.cells #[vP xb,vP y.b] 22)).alloc (.cells #[vI 9,.string ⟨#[]⟩,vI 0,.slice (some ⟨w4.heap.size,0,none⟩) 2 2] 41)):=ah.alloc PE _;have hA:=Got.two (k:=9) (t:=⟨#[]⟩) HP.o.le kU kT (wA:=w3) (λz J=>(X3.o.new z J).2) F3.o.size hY;refine Znf ?_;intro am ap
  have HN:=lh (Zw (w4.alloc (.cells #[vP xb,vP y.b] 22)) rb 9 ⟨#[]⟩ (some ⟨w4.heap.size,0,none⟩) 2 2);obtain⟨sb,aK⟩:=zX w4.heap.size
  rw[<-aK]at HN hA aA am ap;have cE:=lh aK;go_wp2_with fail
  rw[<-cE.o];refine YE ?_;intro wn jw bj aZ;rw[aZ];obtain⟨nb,dl⟩:=zX (sb+1)
  rw[<-dl]at hA ⊢;have hA:Got w B wn (.mk nb (.slice (some ⟨sb,0,none⟩) 2 2) 9 ⟨#[]⟩ 0 [x,y]) (.mk 9 ⟨#[]⟩ 0 [t,ty]):=Rw
  exact AbQ
 have u:ak X0 ts=false:=Qk
 have hq:=E6.o;rw[Y3 h]at hq;have E8:=lh hq;have HT:=zi Jm rb ts d X0 zY.o.rd u;unfold X0 at HT;have HT:=lh HT;clear h u hq;go_wp2_with fail
 refine HT.o.mono ?_;rintro e Jn⟨rfl,g⟩;have zZ:=lh (zY.o.below g);have E9:=lh (E7.o.trans (RFr.below (rb:=rb) g));clear g HT zY E7 E6;by_cases h:ak YA ts=true
 .have hq:=E8.o;rw[Y5 h]at hq;have I:=lh hq;have HT:=xH Jn rb ts d YA zZ.o.rd h;unfold YA at HT;have HT:=lh HT;clear h hq;go_wp2_with fail
  refine Ta ?_;intro w2 am ap;have P2:=lh (zZ.o.tail am ap);have F2:=lh (E9.o.trans ap);clear am ap HT;have HN:=lh (Zw w2 rb 10 ⟨#[]⟩ none 0 0);obtain⟨nb,dl⟩:=zX w2.heap.size
  have X:=Got.leaf (k:=10) (t:=⟨#[]⟩) (n:=0) HP.o.le F2.o;have Y:kW w2 (w2.alloc (.cells #[vI 10,.string ⟨#[]⟩,vI 0,.slice none 0 0] 41)):=(Y2 _ _).alloc (Y0 _) _;have P3:=P2.o.below Y;have F3:=F2.o.trans (RFr.below (rb:=rb) Y);rw[<-dl]at HN X;go_wp2_with fail
  refine HN.o.mono ?_;rintro e w3⟨rfl,kq⟩;rw[<-kq]at X P3 F3;obtain⟨N,PQ,FQ⟩:=ds X P3 F3;clear X P3 F3 Y kq HN dl;by_cases Z:ak K5 ts.tail=true
  .have hq:=I.o;rw[Y5 Z]at hq;have F:=Sl w3 rb ts.tail d K5 PQ.o.rd;rw[Z]at F;unfold K5 at F;have F:=lh F;have eY:=lh hq;clear hq Z;go_wp2_with fail
   refine F.o.mono ?_;rintro e w4⟨rfl,eF⟩;have HE:=Zdr w w4 rb B d _ _ _ r (PQ.o.below eF) (N.o.rfr ay (RFr.below (rb:=rb) eF)) (FQ.o.trans (RFr.below eF)) eY.o;simp only[ATree.b]at HE;have HE:=lh HE;clear eF F;exact Wd
  have z7:ak K5 ts.tail=false:=by simpa using Z
  have hq:=I.o;rw[Y3 Z]at hq;have F:=Sl w3 rb ts.tail d K5 PQ.o.rd;rw[z7]at F;unfold K5 at F;have F:=lh F;have H2:=lh hq;clear hq Z z7;go_wp2_with fail
  refine F.o.mono ?_;refine Zvs ?_;intro wf kM N PQ FQ;clear kM F;refine Zg4 ?_;intro ac;have n3:wf.cell? ⟨nb,3,none⟩=some (.slice none 0 0):=PC
  clear ac;go_wp2_with fail
  refine Z7 [0,2,4,6,8,10,13,15,17] [9,10,11] (λW=>vC W nb 3 (.slice none 0 0)) n3 λ_=>?_;refine dU ?_
  iterate 6
   refine fa ?_
  refine Zrq ?_;intro K hK P7;rcases Zf H2.o with⟨⟨c,p⟩,hv,rfl⟩|⟨t6,Jk,hv,zU⟩
  .refine(HV.o wf.drew rb B d _ _ P7 hv).mono ?_;exact Zxf
  have zV:=lh (TL hv);have E1:=lh zU;refine(HV.o wf.drew rb B d _ _ P7 hv).mono ?_;rintro e dx⟨a,rfl,hA,bG,dJ⟩;have O:RFr wf dx rb:=(RFr.refl wf rb).drew.trans dJ;have fJ:=N.o.rfr ay O;refine ub ?_;intro ac;have m3:dx.cell? ⟨nb,3,none⟩=some (.slice none 0 0):=PC
  refine I2 ?_;intro mz dm dH aG;have gK:(([]:List ATree)).length<=8:=PE
  refine S' ?_;intro N3 A3 R3;obtain⟨jz,NE,NA⟩:=ds (FQ.o.trans O) aG (show∀z∈(ATree.mk nb (.slice none 0 0) 10 ⟨#[]⟩ 0 ([]:List ATree)).blocks,z<wf.drew.heap.size from λz J=>(N.o.new z J).2);refine vf ?_;intro i0 hi aC bo bQ;clear hK K hA bG O fJ ac dH aG n3 dJ hv zU P7;refine t7 ?_;intro K hK
  refine step_append_lies _ PM (.tmp 113) (.tmp 116) 39 PM B 22 i0 _ 1 8 underlying39 hi aC bo bQ rfl Py (.slice none 0 0) (([]:List ATree)).length ((([]:List ATree)).map ATree.ptr) PM (N3.o.at'.rowOf.alloc _) ⟨dx.heap.size,0,none⟩ 1 1 [a.ptr] PM rfl (Ya (cs:=#[a.ptr]) (t:=22) (fr:=(0,0)) (Yq dx _)) PO Py PA Px PN (dx.heap.size+1) PE ?_
  intro gg cap w4 aS aB bS bY;refine Zyg ?_;intro m4;refine uV ?_;clear hK K;intro lX;refine V4 ?_;clear aB aS bS bY;intro ct;have HE:=Zdr w _ rb B d _ _ _ r (HP.o.next ct.o.2.2 ct.o.2.1 (by have:=zV.o;have:=Zv ts;omega)) ct.o.1 ct.o.2.1 E1.o;simp only[ATree.b]at HE;have HE:=lh HE;clear ct;exact Wd
 have u:ak YA ts=false:=Qk
 have hq:=E8.o;rw[Y3 h]at hq;have E':=lh hq;have HT:=zi Jn rb ts d YA zZ.o.rd u;unfold YA at HT;have HT:=lh HT;clear h u hq;go_wp2_with fail
 refine HT.o.mono ?_;rintro e Jo⟨rfl,g⟩;have z8:=lh (zZ.o.below g);have Fa:=lh (E9.o.trans (RFr.below (rb:=rb) g));clear g HT zZ E9 E8;by_cases h:ak X5 ts=true
 .have hq:=E'.o;rw[Y5 h]at hq;have I:=lh hq;have HT:=xH Jo rb ts d X5 z8.o.rd h;unfold X5 at HT;have HT:=lh HT;clear h hq;go_wp2_with fail
  refine Ta ?_;intro w2 am ap;have P2:=lh (z8.o.tail am ap);have F2:=lh (Fa.o.trans ap);clear am ap HT;rcases Zf I.o with⟨⟨c,p⟩,hv,rfl⟩|⟨t,vs,hv,fP⟩;·exact AbB
  have HC:=HV.o w2 rb B d _ _ P2.o hv;unfold cW at HC;refine Zks ?_;intro HC fO eY;clear hv fP;go_wp2_with fail
  refine Zz9 ?_;intro w4 x hX hR be kT kU ah;have aA:kW w4 ((w4.alloc (.cells #[vP x.b] 22)).alloc (.cells #[vI 11,.string ⟨#[]⟩,vI 0,.slice (some ⟨w4.heap.size,0,none⟩) 1 1] 41)):=ah.alloc PE _;have hA:=Got.one (k:=11) (t:=⟨#[]⟩) HP.o.le kU kT;refine Znf ?_;intro am ap;have HN:=lh (Zw (w4.alloc (.cells #[vP x.b] 22)) rb 11 ⟨#[]⟩ (some ⟨w4.heap.size,0,none⟩) 1 1);obtain⟨sb,aK⟩:=zX w4.heap.size
  rw[<-aK]at HN hA aA am ap;have cE:=lh aK;go_wp2_with fail
  rw[<-cE.o];refine Zxe ?_;intro wn jw bj aZ;rw[aZ];obtain⟨nb,dl⟩:=zX (sb+1)
  rw[<-dl]at hA ⊢;have hA:Got w B wn (.mk nb (.slice (some ⟨sb,0,none⟩) 1 1) 11 ⟨#[]⟩ 0 [x]) (.mk 11 ⟨#[]⟩ 0 [t]):=by rw[jw];exact hA
  exact Aau
 have u:ak X5 ts=false:=Qk
 have hq:=E'.o;rw[Y3 h]at hq;have vB:=lh hq;have HT:=zi Jo rb ts d X5 z8.o.rd u;unfold X5 at HT;have HT:=lh HT;clear h u hq;go_wp2_with fail
 refine HT.o.mono ?_;rintro e Ac⟨rfl,g⟩;have qj:=lh (z8.o.below g);have vD:=lh (Fa.o.trans (RFr.below (rb:=rb) g));clear g HT z8 Fa E';by_cases h:ak Xe ts=true
 .have hq:=vB.o;rw[Y5 h]at hq;have I:=lh hq;have HT:=xH Ac rb ts d Xe qj.o.rd h;unfold Xe at HT;have HT:=lh HT;clear h hq;go_wp2_with fail
  refine Ta ?_;intro w2 am ap;have P2:=lh (qj.o.tail am ap);have F2:=lh (vD.o.trans ap);clear am ap HT;have HC:=jD.o w2 rb B d _ r P2.o I.o;unfold cW at HC;have HC:=lh HC;exact AbY
 have u:ak Xe ts=false:=Qk
 have hq:=vB.o;rw[Y3 h]at hq;have Fb:=lh hq;have HT:=zi Ac rb ts d Xe qj.o.rd u;unfold Xe at HT;have HT:=lh HT;clear h u hq;go_wp2_with fail
 refine HT.o.mono ?_;rintro e Fc⟨rfl,g⟩;have Fd:=lh (qj.o.below g);have Fe:=lh (vD.o.trans (RFr.below (rb:=rb) g));clear g HT qj vD vB;obtain⟨w2,rfl⟩:∃w2:kV,w2=Fc:=⟨_,rfl⟩
 have P2:=Fd;have F2:=Fe;have I:=Fb;rcases Zf I.o with⟨⟨c,p⟩,hv,rfl⟩|⟨t,vs,hv,fP⟩;·exact AbB
 have HC:=HV.o w2 rb B d _ _ P2.o hv;unfold cW at HC;refine Zks ?_;intro HC fO eY;clear hv fP;go_wp2_with fail
 refine Zz9 ?_;intro w4 x hX hR be kT kU ah;have aA:kW w4 ((w4.alloc (.cells #[vP x.b] 22)).alloc (.cells #[vI 15,.string ⟨#[]⟩,vI 0,.slice (some ⟨w4.heap.size,0,none⟩) 1 1] 41)):=ah.alloc PE _;have hA:=Got.one (k:=15) (t:=⟨#[]⟩) HP.o.le kU kT;refine Znf ?_;intro am ap;have HN:=lh (Zw (w4.alloc (.cells #[vP x.b] 22)) rb 15 ⟨#[]⟩ (some ⟨w4.heap.size,0,none⟩) 1 1);obtain⟨sb,aK⟩:=zX w4.heap.size
 rw[<-aK]at HN hA aA am ap;have cE:=lh aK;go_wp2_with fail
 rw[<-cE.o];refine Zxe ?_;intro wn jw bj aZ;rw[aZ];obtain⟨nb,dl⟩:=zX (sb+1)
 rw[<-dl]at hA ⊢;have hA:Got w B wn (.mk nb (.slice (some ⟨sb,0,none⟩) 1 1) 15 ⟨#[]⟩ 0 [x]) (.mk 15 ⟨#[]⟩ 0 [t]):=by rw[jw];exact hA
 exact Aau
structure AllSay(f:Nat):Prop where
 stmt:bH 66 cW .stmt f
 value:bH 103 cW .value f
 assign:bH 129 cW .assign f
 bin:∀lv,lv<=6->bH 139 (Eg lv) (.bin lv) f
 unary:bH 151 cW .unary f
 postfix_:bH 164 cW .postfix_ f
 primary:bH 166 cW .primary f
 around:bH 102 cW .around f
 func:∀k s,bH 100 (λrb=>#[vP rb,vI k,.string s]) (.func k s) f
 object:bH 168 cW (.object []) f
 block:∀b,bH 96 (λrb=>#[vP rb,.bool b]) (.block b) f
 stmts:bH 29 (λrb=>#[vP rb,vI 6,.string Zn]) (.stmts 6 []) f
 try_:bH 104 cW .try_ f
 decl:∀k m,bH 99 (λrb=>#[vP rb,vI k,.bool m]) (.decl k m) f
def S7{F:FuncId}{args:Nat->Array Value}{g:Job}:bH F args g 0:=by
 intro w rb B d ts r _ h;cases h
def Zt5:∀f,AllSay f:=by
 intro f;induction f using Nat.strongRecOn with
 |_ f p=>
   cases f with
   |zero=>exact⟨S7,S7,S7,λ_ _=>S7,S7,S7,S7,S7,λ_ _=>S7,S7,λ_=>S7,S7,S7,λ_ _=>S7⟩
   |succ f=>
     have I:=p f (Nat.lt_succ_self f)
     refine⟨Zo3 f (I.block false) I.decl (I.func 5) I.around I.stmt I.value I.try_,Zjc f I.assign,Zhl f (I.bin 0 Px) I.value,λlv F=>?_,Zjt f I.unary I.postfix_,Zft f I.primary (λg u=>(p g Px).value),Zfm f I.around (I.func 37) I.object,Zgp f I.value,
      λk s=>Zp1 f k s (I.block true),Zg5 (f+1) (λg u=>(p g u).value),λb=>Zkz f b I.stmts,Zlb (f+1) (λg u=>(p g u).stmt),Zpn f (I.block false),λk m=>Zmy f k m I.value⟩
     by_cases y:lv=6;·subst y;exact Zp7 f I.unary
     .exact Zqz f lv Px λg u=>(p g Px).bin (lv+1) Px
def Zr7(f:Nat):bH 29 (λrb=>#[vP rb,vI 1,.string ⟨#[]⟩]) (.stmts 1 []) f:=
 Zoy f λg _=>(Zt5 g).stmt
def Zv8(I:Addr){σ:Type}(Inv:σ->kV->Prop)(g:σ->ATree->Bool×σ)(B:Nat):∀(m:Nat) (a:ATree),a.many<=m->(∀s w,Inv s w->TreeAt w B a)->
 (∀x∈a.subs,∀s w,Inv s w->kC 30 #[x.ptr,.pointer (some I)] w λe w'=>e=.returned (.bool (g s x).1)/\Inv (g s x).2 w')->
 ∀s w,Inv s w->kC 11 #[a.ptr,.func (.func 30) #[] #[.pointer (some I)]] w λe w'=>e=.returned (.tuple #[])/\Inv (sp g a s) w':=by
 intro m;induction m with
 |zero=>intro a h;exfalso;cases a;simp[ATree.many]at h
 |succ m J=>
   intro a hm O u s w hI;obtain⟨X,HT,Y,Z⟩:=en J O u hm;have HC:=u a (Z8n a) s w hI;rw[Z8o];unfold ATree.ptr at HC ⊢;obtain⟨ok,s1,U⟩:∃ok s1,g s a=(ok,s1):=⟨_,_,rfl⟩
   rw[U]at HC ⊢;have HC:=lh HC;clear J O u hm hI U;cases ok;·exact Aaw
   .simp only[if_true];go_enter func11,ntmps11
    go_wp2_with fail
    refine Zz3 ?_;intro w1 fW nn ac ae p cp hv;rw[hv]at ac;refine Xg ?_;intro c3 aE eC HV n hn;rw[<-hn]at c3 aE;have HN:=lh hn;clear fW nn ac ae hv hn HC;go_wp2_with fail
    go_loopw [19] (λi wr=>∃k:Nat,k<=n/\i=(vI k)/\Hid (Inv (pV g (a.kids.take k) s1) wr)) (λi _=>n-(intOf i).toNat)
    case atStart=>exact⟨0,Yh _,rfl,lh (by simpa[pV]using eC.o)⟩
    case round=>
     obtain⟨k,hk,rfl,F⟩:=hrel;by_cases bX:k<n
     .obtain⟨x,hx⟩:∃x,a.kids[k]? =some x:=⟨_,Y6 PU⟩
      have eB:=HT.o _ _ F.o;have ae:=eB.rowOf;rcases Z4 ae with⟨_,h2⟩|⟨g0,gA,gm,k1,k2,k3⟩;·rw[<-HN.o]at h2;omega
      have hp:p=some ⟨g0,0,none⟩:=by
       exact Uu
      subst hp;refine SE ?_;intro cx;unfold ATree.ptr at cx;have aT:x∈a.kids:=Yd hx;have cQ:=X.o x (by have:=XR aT;have:=Z.o;omega) (λs w h=>(HT.o s w h).kid aT) (λy hy=>Y.o y (Zd9 aT hy)) _ _ F.o;exact tr8
     .have aR:k=n:=by omega
      subst aR;go_wp2;go_end0
      refine⟨rfl,?_⟩;have:=F.o;rwa[Ye Qm]at this
def Z64{P:Program}{f:FuncId}{g:Func}{c:Code}{args:Array Value}{u:FrameMode}{w:kV}{R:Ending->FrameMode->kV->Prop}
 (hf:P.funcs[f]?=some g)(hb:g.body=some c)(T:Array Value)(m:args++Array.replicate (g.ntmps-args.size) undef=T)
 (h:∀(c₀:Frame) (cs:List Frame),c₀.mode=u->c.wpS P (bodyPostS P g c₀ cs R) {tmps:=T,defers:=[]} (c₀::cs) w):CallsD P f args u w R:=
 callsD_of_wpS hf hb (by rw[m];exact h)
theorem VL(v:Value)(w:kV):(Instr.typeAssert (.iface 82 v) 20 82 true).run Tryz.prog w=.ok (.tuple #[v,.bool true]) w:=by kernel_rfl
def Zc9(p q:Addr)(w:kV) :
 CallsD Tryz.prog 28 #[.pointer (some p),.pointer (some q)] .returning w λe g w'=>e=.returned (.tuple #[])/\g=.returning/\w'=w:=by
 refine Z64 func28 rfl #[.pointer (some p),.pointer (some q),undef,undef,undef,undef,undef,undef,undef,undef,undef,undef,undef,undef,undef,undef,undef,undef] PM λc₀ cs m=>?_;apply wpS_seq;apply wpS_region;simp[wpOpsS,go_sem,recoverD,m,Exit.thenS];refine wpS_of_wp ?_;go_wp2;cases c₀;simp_all[bodyPostS,results,results28]
def Z6f(w:kV)(pb g:Nat)(x:Value)(w':kV):Prop:=
 w'.heap[pb]?=some (.cells #[.pointer none] 22 (0,0))/\w'.heap[g]?=some (.cells #[x] 32 (0,0))/\w'.os=w.os/\w'.tape=w.tape/\w'.output=w.output/\w.heap.size<=w'.heap.size/\∀k,k<w.heap.size->k≠pb->k≠g->w'.heap[k]?=w.heap[k]?
def Zf7{w w1:kV}{pb m:Nat}{x x0 u:Value}(hp:w.heap[pb]?=some (.cells #[x0] 22 (0,0)))(hq:w.heap[m]?=some (.cells #[u] 32 (0,0)))(p:pb≠m)(g:kW w w1) :
 Z6f w pb m x ((w1.setCell ⟨pb,0,none⟩ (.pointer none)).setCell ⟨m,0,none⟩ x):=by
 have y:pb<w.heap.size:=(Y1.1 hp).1;have F:m<w.heap.size:=(Y1.1 hq).1;refine⟨?_,?_,g.os,g.tape,g.output,by rw[Yf,Yf];exact g.size,λk hk h1 G=>?_⟩;·exact(Y8 _ _ _ _ p).trans (Zj (o:=0) _ ((g.block pb y).trans hp))
 .exact Zj (o:=0) _ ((Y8 _ _ _ _ (Ne.symm p)).trans ((g.block m F).trans hq))
 .exact(Y8 _ _ _ _ G).trans ((Y8 _ _ _ _ h1).trans (g.block k hk))
def Z6f.below{w w1 w2:kV}{pb m:Nat}{x:Value}(h:Z6f w pb m x w1)(g:kW w1 w2):Z6f w pb m x w2:=by
 obtain⟨h1,p,y,F,h5,u,G⟩:=h;refine⟨(g.block pb (Y1.1 h1).1).trans h1,(g.block m (Y1.1 p).1).trans p,g.os.trans y,g.tape.trans F,g.output.trans h5,Y4 u g.size,λk hk a b=>(g.block k (Y7 hk u)).trans (G k hk a b)⟩
def Zgx(pb g:Nat)(b:Nat)(p:List PanicEntry)(w:kV)(x0 u:Value)(hp:w.heap[pb]?=some (.cells #[x0] 22 (0,0)))(hq:w.heap[g]?=some (.cells #[u] 32 (0,0)))(y:pb≠g) :
 CallsD Tryz.prog 28 #[vP pb,vP g] (.panicking ({v:=.iface 82 (.agg #[.iface 140 (vP b)]),recovered:=false}::p)) w λe I w'=>
  e=.returned (.tuple #[])/\I=.panicking ({v:=.iface 82 (.agg #[.iface 140 (vP b)]),recovered:=true}::p)/\Z6f w pb g (.iface 140 (vP b)) w':=by
 have J:pb<w.heap.size:=(Y1.1 hp).1;have O:g<w.heap.size:=(Y1.1 hq).1;have U:w.cell? ⟨pb,0,none⟩=some x0:=by simp[vC,World.cell?,hp]
 have X:w.cell? ⟨g,0,none⟩=some u:=by simp[vC,World.cell?,hq]
 have Y:w.frozen? ⟨pb,0,none⟩=false:=by simp[World.frozen?,hp]
 have Z:w.frozen? ⟨g,0,none⟩=false:=by simp[World.frozen?,hq]
 have L7:=VL (.agg #[.iface 140 (vP b)]);refine Z64 func28 rfl #[vP pb,vP g,undef,undef,undef,undef,undef,undef,undef,undef,undef,undef,undef,undef,undef,undef,undef,undef] PM λc₀ cs F=>?_;apply wpS_seq;apply wpS_region;simp[wpOpsS,go_sem,recoverD,F,Exit.thenS];refine wpS_of_wp ?_;clear F;go_wp2;go_region
 have m:=((Zf7 (x:=.iface 140 (vP b)) hp hq y (Y2 _ w)).below ((Y2 _ _).alloc (Y0 _) (.cells #[.iface 140 (vP b)] 82))).below (Y2 _ _).drew;have m:=lh m;clear hp hq y J O U X Y Z L7;show bodyPostS _ _ _ _ _ Exit.normal _ _ _;cases c₀;simp[bodyPostS,results,results28];exact m.o
