import Derived.Test.YtkebnpemgkjpkaaGreatDoorJ13
set_option maxRecDepth 100000
set_option maxHeartbeats 20000000
set_option linter.all false
namespace Go.Proofs.YtkebnpemgkjpkaaGreatDoor
open Go Go.RowKit Go.Proofs.Tryz Tryz
def nextO(g d:Nat)(m:List Tree)(us:List Tok):PR:=if m.length=8 then xn 4 us else B6 us λs ts=>lF Xh ts λts=>Zq (Z2 g .value d ts) λv ts=>Z2 g (.object (m++[.mk 39 s 0 [v]])) d ts
def Zg5 (F:Nat) (hV:∀ g,g < F→bH 103 cW .value g) :
 bH 168 cW (.object []) F:=by
 intro w rb B d ts r U hp;obtain⟨HP,HV,u,Z⟩:=en U hV hp (Zw w rb 38 ⟨#[]⟩ none 0 0);obtain⟨nb,dl⟩:=zX w.heap.size
 have X:=Got.leaf (k:=38) (t:=⟨#[]⟩) (n:=0) U.le (RFr.refl w rb);have cP:kW w (w.alloc (.cells #[vI 38,.string ⟨#[]⟩,vI 0,.slice none 0 0] 41)):=(Y2 _ _).alloc (Y0 _) _;have R0:=U.rd.below cP;have F0:RFr w (w.alloc (.cells #[vI 38,.string ⟨#[]⟩,vI 0,.slice none 0 0] 41)) rb:=RFr.below cP;rw[<-dl]at X Z;unfold cW;clear U hp hV cP;go_enter func168,ntmps168
 go_wp2_with fail
 refine Z.o.mono ?_;rintro e w2⟨rfl,ci⟩;rw[<-ci]at X R0 F0;have hst:∃(g:Nat) (aj:List Tree) (us:List Tok) (v:Value) (kids:List ATree),g<=F/\Z2 g (.object aj) d us=some r/\Got w B w2 (.mk nb v 38 ⟨#[]⟩ 0 kids) (.mk 38 ⟨#[]⟩ 0 aj)/\Rd w2 rb us d/\RFr w w2 rb/\aj.length<=8/\us.length<=ts.length:=
  ⟨F,[],ts,_,[],Y0 _,u.o,X,R0,F0,by simp,Y0 _⟩
 have ST:=lh hst;have th:=lh dl;clear hst ci X R0 F0 Z dl u;go_wp2_with fail
 go_loopw [] (λwr=>∃(g:Nat) (aj:List Tree) (us:List Tok) (v:Value) (kids:List ATree),g<=F/\Z2 g (.object aj) d us=some r/\Got w B wr (.mk nb v 38 ⟨#[]⟩ 0 kids) (.mk 38 ⟨#[]⟩ 0 aj)/\Rd wr rb us d/\RFr w wr rb/\aj.length<=8/\us.length<=ts.length) (λwr=>leftOf wr rb)
 case atStart=>exact ST.o
 case round=>
  obtain⟨g,aj,us,v,kids,hg,hq,hG,I,hF,hl,hu⟩:=hrel;obtain⟨G,R,FF,RL⟩:=en hG I hF I.left;cases g with
  |zero=>cases hq
  |succ g=>
  rw[Z2]at hq;have m:=Sl wr rb us d Zn I;have ay:=HP.o.lt;by_cases hb:ak Zn us=true
  .rw[hb]at m;rw[Y5 hb]at hq;have hr:=Yc hq;have tA:=lh hr.symm;have m:=lh m;have HI:=lh hb;unfold Zn at m;clear hG I hF hq hr hb ST;go_wp2_with fail
   refine m.o.mono ?_;rintro e w3⟨rfl,hB3⟩;have F3:=FF.o.trans (RFr.below (rb:=rb) hB3);have G3:=G.o.rfr ay (RFr.below (rb:=rb) hB3);have R3:=R.o.below hB3;have HC:=Mn w3 rb us d Zn R3 HI.o;unfold Zn at HC;obtain⟨HC,F3,G3⟩:=ds HC F3 G3;clear hB3 R3 FF G R m;go_wp2_with fail
   refine HC.o.mono ?_;rintro e w4⟨rfl,eK,be⟩;obtain⟨R4,F4,G4⟩:=ds eK (F3.o.trans be) (G3.o.rfr ay be);clear eK be HC F3 G3;go_wp2;go_ret;rw[tA.o];exact⟨_,rfl,G4.o,R4.o,F4.o⟩
  ·have du : ak Zn us = false := by simpa using hb
   rw[du]at m;rw[Y3 hb]at hq;have m:=lh m;have HQ:=lh hq;unfold Zn at m;refine Zsw ?_;intro aX fm;clear hG I hF hq hb du ST aX;go_wp2_with fail
   refine m.o.mono ?_;rintro e w3⟨rfl,hB3⟩;refine Zu3 ?_;intro F3 G3 R3 P3;obtain⟨p,cp,rfl⟩:∃p cp,v=.slice p kids.length cp:=by
    exact Zyx
   refine Zze ?_;intro ac n3 F3 G3 P3 HU HL;clear hB3 R3 FF G R m ac hu hl;by_cases Y:aj.length=0
   ·have a0 : decide (0 < kids.length) = false := by have := fm.o; simp; exact List.eq_nil_of_length_eq_zero Px
    have J:nextO g d aj us=some r:=Q5
    have PQ:=lh (show Pre w3 rb B d us/\us.length<=ts.length from⟨P3.o,HU.o⟩);have GQ:=G3;have FQ:=F3;obtain⟨PL,O,H0⟩:=ds (Y0 us.length) J Y;clear HQ J Y;by_cases h8:aj.length=8
    .have n8:((kids.length:Int)==8)=true:=by have :=fm.o;simp;omega
     have hr:r=.error (4,(c9 us).at'):=by
      have h:=O.o;unfold nextO at h;exact Zwg
     subst hr;have HF:=lh (UW w3 rb us d 4 PQ.o.1.rd);clear h8;exact Ug
    .have n8:((kids.length:Int)==8)=false:=by have :=fm.o;simp;omega
     have gP:=O.o;unfold nextO at gP;rw[Y3 h8]at gP;have H8:=lh h8;clear h8;rcases Z3b gP with⟨hk,h1⟩|⟨hk,rfl⟩
     .have HC:=lh (Va w3 rb us d PQ.o.1.rd hk);obtain⟨s,hs⟩:=zX ((c9 us).text)
      rw[<-hs]at HC h1;have u:=lh h1;have kt:=lh (Zav hk);clear gP hk h1 hs;go_wp2_with fail
      refine X4 ?_;clear HC;intro w5 P5 F5 G5;rcases T8 u.o with⟨hs,h2⟩|⟨hs,rfl⟩
      .have HC:=Mn w5 rb _ d Xh P5.o.rd hs;unfold Xh at HC;have HC:=lh HC;have H2:=lh h2;clear hs h2;go_wp2_with fail
       refine Xk ?_;intro w6 jC fB P6 F6 G6 ac;clear n3;have n3:w6.cell? ⟨nb,3,none⟩=some (.slice p kids.length cp):=PC
       obtain⟨P6,F6,G6⟩:=ds P6 F6 G6;clear jC fB ac HC P5 F5 G5;go_wp2_with fail
       refine Z7 [0,2,4,6,8,10,12,14,17,19,21,23,25] [13,14,15] (λW=>vC W nb 3 (.slice p kids.length cp)) n3 λ_=>?_;refine dU ?_
       iterate 8
        refine fa ?_
       refine Ze (λK hK=>?_);go_simp
       have P7:Pre w6.drew rb B d _:=P6.o.below (Y2 _ _).drew;rcases Zf H2.o with⟨⟨c,p⟩,hv,rfl⟩|⟨t,vs,hv,fP⟩;·exact Zyc
       .have dr:=TL hv;refine Zxo ?_;intro eY w7 x hX lY dJ eL kJ ac m3;clear hK K;refine Uz ?_;intro K hK ah;refine hK _ _ ((ah.cell (p:=⟨nb,3,none⟩) (Y1.1 ac).1).trans m3) ?_;clear hK K;refine Zzj ?_;intro K hK hA;refine Aci ?_;intro aA dx cY hA;rw[<-cY]at aA;refine Zuq ?_;intro fJ bG cH;clear ac m3 cY ah;refine ub ?_;intro ac;refine Zq6 ?_;intro m3;refine I2 ?_;intro mz dm dH aG;have gK:kids.length<=8:=by have :=fm.o;have :=HL.o;omega
        refine Zom ?_;intro fS;rw[fS];obtain⟨a,ha⟩:∃a:ATree,a=.mk (w7.heap.size+1) (.slice (some ⟨w7.heap.size,0,none⟩) 1 1) 39 s 0 [x]:=⟨_,rfl⟩
        rw[<-ha]at hA;refine Zmg ?_;intro jo;rw[jo];clear ha jo fS;refine S' ?_;intro N3 A3 R3;refine Zzw ?_;intro jz NE NA fO;refine vf ?_;intro i0 hi aC bo bQ;clear hK K hA bG cH fJ ac dH aG n3 hX lY dJ eL kJ aA hv fP dr P7;refine t7 ?_;intro K hK;refine Aay ?_;intro gg cap w4 aS aB bS bY;refine Tz ?_;intro m4;refine uV ?_;clear hK K;intro lX;refine Zst ?_;clear aB aS bS bY;intro ct;go_wp2;go_roundw
        case rel=>
         refine⟨g,aj++[.mk 39 s 0 [t]],vs,.slice (some ⟨gg,0,none⟩) (kids.length+1) cap,kids++[a],by omega,eY.o,?_,ct.o.2.2,ct.o.2.1,by have:=HL.o;have:=H8.o;simp;omega,by have:=fO.o;have:=PQ.o.2;have:=Zv us;have:=Zv (us).tail;omega⟩;exact Vy
        case measure=>
         rw[ct.o.2.2.left,RL.o];have e:(us).tail.length=(us).length-1:=List.length_tail;have:=fO.o;have:=kt.o;have:=PL.o;have:=Zv (us).tail;omega
      .exact AcM
     .have HC:=lh (X2 w3 rb us d PQ.o.1.rd hk);exact AaX
   ·have a0 : decide (0 < kids.length) = true := by have := fm.o; simp; omega
    have cS:=HQ.o;rw[Y5 Px]at cS;have H0:=lh Y;clear Y;by_cases hc:ak x4 us=true
    ·have J : nextO g d aj us.tail = some r := by rw [lF, Y5 hc] at cS; exact cS
     have HC:=Mn w3 rb us d x4 P3.o.rd hc;unfold x4 at HC;have HC:=lh HC;have O:=lh J;clear cS hc HQ J;go_wp2_with fail
     refine X6 ?_;intro iQ eK be PQ GQ FQ PL ac;clear n3;refine Zuz ?_;intro n3;clear eK be HC ac F3 G3 P3;by_cases h8:aj.length=8
     .have n8:((kids.length:Int)==8)=true:=by have :=fm.o;simp;omega
      have hr:r=.error (4,(c9 us.tail).at'):=by
       have h:=O.o;unfold nextO at h;exact Zwg
      subst hr;have HF:=lh (UW iQ rb us.tail d 4 PQ.o.1.rd);clear h8;exact Ug
     .have n8:((kids.length:Int)==8)=false:=by have :=fm.o;simp;omega
      have gP:=O.o;unfold nextO at gP;rw[Y3 h8]at gP;have H8:=lh h8;clear h8;rcases Z3b gP with⟨hk,h1⟩|⟨hk,rfl⟩
      .have HC:=lh (Va iQ rb us.tail d PQ.o.1.rd hk);obtain⟨s,hs⟩:=zX ((c9 us.tail).text)
       rw[<-hs]at HC h1;have u:=lh h1;have kt:=lh (Zav hk);clear gP hk h1 hs;go_wp2_with fail
       refine X4 ?_;clear HC;intro w5 P5 F5 G5;rcases T8 u.o with⟨hs,h2⟩|⟨hs,rfl⟩
       .have HC:=Mn w5 rb _ d Xh P5.o.rd hs;unfold Xh at HC;have HC:=lh HC;have H2:=lh h2;clear hs h2;go_wp2_with fail
        refine Xk ?_;intro w6 jC fB P6 F6 G6 ac;clear n3;have n3:w6.cell? ⟨nb,3,none⟩=some (.slice p kids.length cp):=PC
        obtain⟨P6,F6,G6⟩:=ds P6 F6 G6;clear jC fB ac HC P5 F5 G5;go_wp2_with fail
        refine Z7 [0,2,4,6,8,10,12,14,17,19,21,23,25] [13,14,15] (λW=>vC W nb 3 (.slice p kids.length cp)) n3 λ_=>?_;refine dU ?_
        iterate 8
         refine fa ?_
        refine Ze (λK hK=>?_);go_simp
        have P7:Pre w6.drew rb B d _:=P6.o.below (Y2 _ _).drew;rcases Zf H2.o with⟨⟨c,p⟩,hv,rfl⟩|⟨t,vs,hv,fP⟩;·exact Zyc
        .have dr:=TL hv;refine Zxo ?_;intro eY w7 x hX lY dJ eL kJ ac m3;clear hK K;refine Uz ?_;intro K hK ah;refine hK _ _ ((ah.cell (p:=⟨nb,3,none⟩) (Y1.1 ac).1).trans m3) ?_;clear hK K;refine Zzj ?_;intro K hK hA;refine Aci ?_;intro aA dx cY hA;rw[<-cY]at aA;refine Zuq ?_;intro fJ bG cH;clear ac m3 cY ah;refine ub ?_;intro ac;refine Zq6 ?_;intro m3;refine I2 ?_;intro mz dm dH aG;have gK:kids.length<=8:=by have :=fm.o;have :=HL.o;omega
         refine Zom ?_;intro fS;rw[fS];obtain⟨a,ha⟩:∃a:ATree,a=.mk (w7.heap.size+1) (.slice (some ⟨w7.heap.size,0,none⟩) 1 1) 39 s 0 [x]:=⟨_,rfl⟩
         rw[<-ha]at hA;refine Zmg ?_;intro jo;rw[jo];clear ha jo fS;refine S' ?_;intro N3 A3 R3;refine Zzw ?_;intro jz NE NA fO;refine vf ?_;intro i0 hi aC bo bQ;clear hK K hA bG cH fJ ac dH aG n3 hX lY dJ eL kJ aA hv fP dr P7;refine t7 ?_;intro K hK;refine Aay ?_;intro gg cap w4 aS aB bS bY;refine Tz ?_;intro m4;refine uV ?_;clear hK K;intro lX;refine Zst ?_;clear aB aS bS bY;intro ct;go_wp2;go_roundw
         case rel=>
          refine⟨g,aj++[.mk 39 s 0 [t]],vs,.slice (some ⟨gg,0,none⟩) (kids.length+1) cap,kids++[a],by omega,eY.o,?_,ct.o.2.2,ct.o.2.1,by have:=HL.o;have:=H8.o;simp;omega,by have:=fO.o;have:=PQ.o.2;have:=Zv us.tail;have:=Zv (us.tail).tail;omega⟩;exact Vy
         case measure=>
          rw[ct.o.2.2.left,RL.o];have e:(us.tail).tail.length=(us.tail).length-1:=List.length_tail;have:=fO.o;have:=kt.o;have:=PL.o;have:=Zv (us.tail).tail;omega
       .exact AcM
      .have HC:=lh (X2 iQ rb us.tail d PQ.o.1.rd hk);exact AaX
    .have mJ:ak x4 us=false:=by simpa using hc
     have hr:r=.error (3,(c9 us).at'):=by
      exact Zyd
     subst hr;have HC:=Ty w3 rb us d x4 P3.o.rd mJ;unfold x4 at HC;have HC:=lh HC;clear cS hc mJ HQ;exact XW
def Z9h{p:PR}{k m:Tree->List Tok->PR}:Zq (Zq p k) m=Zq p λt ts=>Zq (k t ts) m:=by
 rcases p with _|e|⟨t,ts⟩<;>rfl
def Zhv{s:kB}{ts:List Tok}{k:List Tok->PR}{m:Tree->List Tok->PR}:Zq (lF s ts k) m=lF s ts λts=>Zq (k ts) m:=by
 unfold lF;by_cases h:ak s ts=true;·rw[Y5 h,Y5 h]
 .rw[Y3 h,Y3 h];rfl
def WY(g G d:Nat)(m:List Tree)(us:List Tok):PR:=if 8<m.length then xn 4 us else Zq (Zq (Z2 g .value d us) λv ts=>Z2 g (.args (m++[v])) d ts) λn ts=>Z2 G (.postLoop n) d ts
def Zmr{g G d:Nat}{m:List Tree}{us:List Tok}(h:ak s5 us=false) :
 Zq (Z2 (g+1) (.args m) d us) (λn ts=>Z2 G (.postLoop n) d ts)=(if 1<m.length then lF x4 us else λk=>k us) λus=>WY g G d m us:=by
 have p:∀us,Zq (if 8<m.length then xn 4 us else Zq (Z2 g .value d us) λv ts=>Z2 g (.args (m++[v])) d ts) (λn ts=>Z2 G (.postLoop n) d ts)=WY g G d m us:=by
  intro us;unfold WY;by_cases h:8<m.length;·rw[Y5 h,Y5 h];rfl
  .rw[Y3 h,Y3 h]
 rw[Z2,Y3 (by rw[h];simp)];by_cases h1:1<m.length
 .simp only[if_pos h1];rw[Zhv];simp only[p]
 .simp only[if_neg h1];exact p us
def Zft(F:Nat)(I6:bH 166 cW .primary F)(hV:∀g,g<F->bH 103 cW .value g) :
 bH 164 cW .postfix_ (F+1):=by
 intro w rb B d ts r hP hp;have hw:Zq (Z2 F .primary d ts) (λx ts=>Z2 F (.postLoop x) d ts)=some r:=hp;obtain⟨HP,HV,H1,Cq⟩:=en hP hV hw I6;have ay:=hP.lt;clear hP hp hV I6 hw;rcases Zf H1.o with⟨⟨c,p⟩,m,rfl⟩|⟨t,Cl,m,h2⟩
 .have HC:=Cq.o w rb B d _ _ HP.o m;unfold cW at HC ⊢;have HC:=lh HC;clear m;go_enter func164,ntmps164
  go_wp2_with fail
  refine HC.o.mono ?_;exact TC
 have HC:=Cq.o w rb B d _ _ HP.o m;have rx:=TL m;unfold cW at HC ⊢;have HC:=lh HC;have U:=lh h2;clear m h2;go_enter func164,ntmps164
 go_wp2_with fail
 refine HC.o.mono ?_;rintro e w1⟨a0,rfl,zu,dz,cZ⟩;have ST:Hid (∃(G:Nat) (us:List Tok) (a:ATree) (t:Tree),G<=F/\vP a0.b=(vP a.b)/\Z2 G (.postLoop t) d us=some r/\Got w B w1 a t/\Rd w1 rb us d/\RFr w w1 rb/\us.length<=ts.length):=
  lh ⟨F,Cl,a0,t,Y0 _,rfl,U.o,zu,dz,cZ,rx⟩
 clear zu dz cZ rx HC U;go_wp2_with fail
 go_loopw [3] (λv3 wr=>∃(G:Nat) (us:List Tok) (a:ATree) (t:Tree),G<=F/\v3=(vP a.b)/\Z2 G (.postLoop t) d us=some r/\Got w B wr a t/\Rd wr rb us d/\RFr w wr rb/\us.length<=ts.length) (λ_ wr=>leftOf wr rb)
 case atStart=>exact ST.o
 case round=>
  obtain⟨G,us,a,t,OL,rfl,hq,hG,I,hF,J⟩:=hrel;obtain⟨wo,rfl⟩:∃wo:kV,wo=wr:=⟨_,rfl⟩
  obtain⟨ab,bN⟩:=zX a.b
  have sw:=lh bN;rw[<-bN];obtain⟨G1,F1,I7⟩:=ds hG hF I.left;have P1:Pre wo rb B d us:=⟨I,HP.o.deep,ay,Y4 HP.o.le hF.size,Y4 J HP.o.few⟩
  have P1:=lh P1;have HU:=lh J;clear hG hF I J ST bN;cases G with
  |zero=>cases hq
  |succ G=>
  rw[Z2]at hq;by_cases hd:ak YP us=true
  .rw[Y5 hd]at hq;have HT:=xH wo rb us d YP P1.o.rd hd;unfold YP at HT;have HT:=lh HT;have kt:=lh (Zm hd);have u:=lh hq;clear hq hd;go_wp2_with fail
   refine Ta ?_;intro w2 am ap;obtain⟨P2,F2,G2⟩:=ds (P1.o.tail am ap) (F1.o.trans ap) (G1.o.rfr ay ap);clear am ap HT;rcases Z3b u.o with⟨hk,h1⟩|⟨hk,rfl⟩
   .have HC:=lh (Va w2 rb us.tail d P2.o.rd hk);obtain⟨s,hs⟩:=zX ((c9 us.tail).text)
    rw[<-hs]at HC h1;have H3:=lh h1;clear hk h1 hs;go_wp2_with fail
    refine HC.o.mono ?_;refine Zyv ?_;intro w3 bG bg F3 G3 ah;have Y:kW w3 ((w3.alloc (.cells #[vP ab] 22)).alloc (.cells #[vI 36,.string s,vI 0,.slice (some ⟨w3.heap.size,0,none⟩) 1 1] 41)):=ah.alloc PE _;have hA:=Got.one (k:=36) (t:=s) HP.o.le F3 G3;obtain⟨HA,R4,F4⟩:=ds hA (bG.below Y) (F3.trans (RFr.below (rb:=rb) Y));clear bG bg F3 G3 ah Y hA HC;go_wp2_with fail
    refine(Zw _ rb 36 s _ 1 1).mono ?_;rintro e w7⟨rfl,rfl⟩;go_wp2;go_roundw
    case rel=>
     refine⟨G,us.tail.tail,.mk (w3.heap.size+1) (.slice (some ⟨w3.heap.size,0,none⟩) 1 1) 36 s 0 [a],.mk 36 s 0 [t],by omega,by simp[ATree.b],H3.o,?_,R4.o,F4.o,by have:=HU.o;have:=Zv us;have:=Zv us.tail;omega⟩;rw[sw.o];exact HA.o
    case measure=>
     rw[R4.o.left,I7.o];have:=kt.o;have:=Zv us.tail;omega
   .have HC:=lh (X2 w2 rb us.tail d P2.o.rd hk);exact AbH
  ·have rV : ak YP us = false := by simpa using hd
   rw[Y3 hd]at hq;have HT:=zi wo rb us d YP P1.o.rd rV;unfold YP at HT;have HT:=lh HT;have u:=lh hq;clear hq hd rV;go_wp2_with fail
   refine HT.o.mono ?_;rintro e w2⟨rfl,ar⟩;obtain⟨P2,F2,G2⟩:=ds (P1.o.below ar) (F1.o.trans (RFr.below (rb:=rb) ar)) (G1.o.rfr ay (RFr.below (rb:=rb) ar));clear ar HT;by_cases hl:ak vV us=true
   ·have hq := u.o;rw [Y5 hl] at hq;have ch := lh hq;have HT := xH w2 rb us d vV P2.o.rd hl;unfold vV at HT;have HT := lh HT;have kt := lh (Zm hl);clear hq hl u;go_wp2_with fail
    refine HT.o.mono ?_;refine Zyv ?_;intro w3 bG bg F3 G3 ah;have Y:kW w3 ((w3.alloc (.cells #[vP ab] 22)).alloc (.cells #[vI 35,.string ⟨#[]⟩,vI 0,.slice (some ⟨w3.heap.size,0,none⟩) 1 1] 41)):=ah.alloc PE _;have hA:=Got.one (k:=35) (t:=⟨#[]⟩) HP.o.le F3 G3;have eK:=bG.below Y;have X:=F3.trans (RFr.below (rb:=rb) Y);have HN:=lh (Zw (w3.alloc (.cells #[vP ab] 22)) rb 35 ⟨#[]⟩ (some ⟨w3.heap.size,0,none⟩) 1 1);clear bG bg F3 G3 ah HT;go_wp2_with fail
    refine HN.o.mono ?_;rintro e w4⟨rfl,fV⟩;have zw:(w3.alloc (.cells #[vP ab] 22)).heap.size=w3.heap.size+1:=PE
    rw[zw];obtain⟨nb,dl⟩:=zX (w3.heap.size+1)
    rw[<-dl];have I8:Got w B w4 (.mk nb (.slice (some ⟨w3.heap.size,0,none⟩) 1 1) 35 ⟨#[]⟩ 0 [a]) (.mk 35 ⟨#[]⟩ 0 [t]):=by rw[fV,dl,sw.o];exact hA
    rw[<-fV]at eK X;obtain⟨zx,sx⟩:=zX us.tail
    have ST:Hid (∃(g:Nat) (aj:List Tree) (vs:List Tok) (v:Value) (kids:List ATree),g<=G/\Zq (Z2 g (.args aj) d vs) (λn ts=>Z2 G (.postLoop n) d ts)=some r/\Got w B w4 (.mk nb v 35 ⟨#[]⟩ 0 kids) (.mk 35 ⟨#[]⟩ 0 aj)/\Rd w4 rb vs d/\RFr w w4 rb/\1<=aj.length/\aj.length<=9/\vs.length<=zx.length):=
     lh ⟨G,[t],zx,_,[a],Y0 _,by rw[sx];exact ch.o,I8,by rw[sx];exact eK,X,by simp,by simp,Y0 _⟩
    have zy:=lh sx;clear fV zw dl hA I8 eK X Y ch HN sx;go_wp2_with fail
    go_loopw [] (λwr=>∃(g:Nat) (aj:List Tree) (vs:List Tok) (v:Value) (kids:List ATree),g<=G/\Zq (Z2 g (.args aj) d vs) (λn ts=>Z2 G (.postLoop n) d ts)=some r/\Got w B wr (.mk nb v 35 ⟨#[]⟩ 0 kids) (.mk 35 ⟨#[]⟩ 0 aj)/\Rd wr rb vs d/\RFr w wr rb/\1<=aj.length/\aj.length<=9/\vs.length<=zx.length) (λwr=>leftOf wr rb)
    case atStart=>exact ST.o
    case round=>
     obtain⟨g,aj,vs,v,kids,OM,hq,hG,I,hF,kj,hl,J⟩:=hrel;obtain⟨GG,Dt,FF,RL⟩:=en hG I hF I.left;cases g with
     |zero=>cases hq
     |succ g=>
     have HB:=Sl wr rb vs d s5 I;have zz:vs.length<=ts.length:=by have e1:=zy.o;have e2:=HU.o;have e3:=Zv us;rw[e1]at J;omega
     by_cases hb:ak s5 vs=true
     .rw[hb]at HB;rw[Z2,Y5 hb]at hq;have hq:Z2 G (.postLoop (.mk 35 ByteArray.empty 0 aj)) d vs.tail=some r:=hq;have u:=lh hq;have HB:=lh HB;have HI:=lh hb;unfold s5 at HB;have Cr:=lh J;have I9:=lh zz;clear hG I hF hq hb ST J zz;go_wp2_with fail
      refine WG ?_;intro w5 eM F5 G5 R5;have HC:=Mn w5 rb vs d s5 R5 HI.o;unfold s5 at HC;obtain⟨HC,F5,G5⟩:=ds HC F5 G5;clear eM R5 FF GG Dt HB;go_wp2_with fail
      refine HC.o.mono ?_;rintro e w6⟨rfl,jC,fB⟩;obtain⟨R6,F6,G6⟩:=ds jC (F5.o.trans fB) (G5.o.rfr ay fB);clear jC fB HC F5 G5;go_wp2;go_roundw
      case rel=>exact⟨G,vs.tail,_,_,by omega,rfl,u.o,G6.o,R6.o,F6.o,by have:=I9.o;have:=Zv vs;omega⟩
      case measure=>
       rw[R6.o.left,I7.o];have e1:=zy.o;have h2:=Cr.o;rw[e1]at h2;have:=kt.o;have:=Zv vs;omega
     .have du:ak s5 vs=false:=by simpa using hb
      rw[du]at HB;rw[Zmr du]at hq;have HB:=lh HB;have u:=lh hq;unfold s5 at HB;refine Zsw ?_;intro aX fm;clear hG I hF hq hb du ST aX;go_wp2_with fail
      refine WG ?_;intro w5 eM F5 G5 R5;have Z:Pre w5 rb B d vs:=⟨R5,HP.o.deep,ay,Y4 HP.o.le F5.size,Y4 zz HP.o.few⟩
      obtain⟨p,cp,rfl⟩:∃p cp,v=.slice p kids.length cp:=by
       rcases Z4 G5.at'.rowOf with⟨h1,h2⟩|⟨g0,gA,h1,_⟩;·exact Aa9
       .exact⟨_,_,h1⟩
      have ac:=G5.at'.blkOf;simp only[ATree.b,ATree.v,ATree.kind,ATree.text,ATree.n]at ac;have n3:w5.cell? ⟨nb,3,none⟩=some (.slice p kids.length cp):=PC
      obtain⟨F5,G5,Z,HL,jS,Cr,I9⟩:=gw F5 G5 Z hl kj J zz;clear eM R5 FF GG Dt HB ac hl kj J zz;by_cases h0:1<aj.length
      .have a0:decide (1<(kids.length:Int))=true:=by have :=fm.o;simp;omega
       have cS:=u.o;rw[Y5 h0]at cS;have H0:=lh h0;clear h0;by_cases hc:ak x4 vs=true
       .have fM:WY g G d aj vs.tail=some r:=by rw[lF,Y5 hc]at cS;exact cS
        have HC:=Mn w5 rb vs d x4 Z.o.rd hc;unfold x4 at HC;have HC:=lh HC;have ch:=lh fM;clear cS hc u fM;go_wp2_with fail
        refine HC.o.mono ?_;rintro e iQ⟨rfl,eK,X⟩;have PQ:=lh (show Pre iQ rb B d vs.tail/\vs.tail.length<=zx.length from⟨Z.o.tail eK X,by have:=Cr.o;rw[List.length_tail];omega⟩);have GQ:=lh (G5.o.rfr ay X);have FQ:=lh (F5.o.trans X);have PL:=lh (show vs.tail.length<=vs.length by rw[List.length_tail];omega);have ac:=GQ.o.at'.blkOf;simp only[ATree.b,ATree.v,ATree.kind,ATree.text,ATree.n]at ac;clear n3;refine Zuz ?_;intro n3;clear eK X HC ac F5 G5 Z;by_cases h8:8<aj.length
        .have n8:decide (8<(kids.length:Int))=true:=by have :=fm.o;simp;omega
         have hr:r=.error (4,(c9 vs.tail).at'):=by
          exact AcU
         subst hr;have HF:=lh (UW iQ rb vs.tail d 4 PQ.o.1.rd);clear h8;exact Ug
        .have n8:decide (8<(kids.length:Int))=false:=by have :=fm.o;simp;omega
         have O:=ch.o;unfold WY at O;rw[Y3 h8]at O;have H8:=lh h8;have U:=lh O;clear h8 O;go_wp2_with fail
         refine Z7 [0,2,4,6,8,10,13,15,17] [9,10,11] (λW=>vC W nb 3 (.slice p kids.length cp)) n3 λ_=>?_;refine dU ?_
         iterate 6
          refine fa ?_
         refine Ze (λK hK=>?_);go_simp
         have P7:Pre iQ.drew rb B d _:=PQ.o.1.below (Y2 _ _).drew;rw[Z9h]at U;rcases Zf U.o with⟨⟨c,p⟩,m,rfl⟩|⟨t,vs,m,fP⟩
         .refine(HV.o g Px iQ.drew rb B d _ _ P7 m).mono ?_;exact UA
         .have dr:=XK _ _ _ _ _ _ m;have eY:=lh fP;refine(HV.o g Px iQ.drew rb B d _ _ P7 m).mono ?_;rintro e w3⟨a,rfl,hA,bG,bg⟩;have cH:RFr iQ w3 rb:=(RFr.refl iQ rb).drew.trans bg;have fJ:=GQ.o.rfr ay cH;refine ub ?_;intro ac;have m3:w3.cell? ⟨nb,3,none⟩=some (.slice p kids.length cp):=by simp[vC,World.cell?,ac]
          refine Uo ?_;intro mz dm;refine VX ?_;intro dH;have aG:=dH.1.1;have gK:kids.length<=9:=Qu
          refine S' ?_;intro N3 A3 R3;obtain⟨F3,NE,NA,fO⟩:=en (FQ.o.trans cH) aG (show∀y∈(ATree.mk nb (.slice p kids.length cp) 35 ⟨#[]⟩ 0 kids).blocks,y<iQ.drew.heap.size from λy hy=>(GQ.o.new y hy).2) dr;refine vf ?_;intro i0 hi aC bo bQ;clear hK K hA bG cH fJ ac dH aG n3 bg m fP P7 dr;refine t7 ?_;intro K hK;refine Acf ?_;intro gg cap w4 aS aB bS bY;refine Tz ?_;intro m4;refine uV ?_;clear hK K;intro lX
          have an:=Got.push ay HP.o.le N3.o (wA:=iQ.drew) NA.o A3.o F3.o R3.o ((Y2 _ _).alloc (Y0 _) _) aB aS (bS.imp id λh=>by omega) bY;exact tr6
       .have mJ:ak x4 vs=false:=by simpa using hc
        have hr:r=.error (3,(c9 vs).at'):=by
         exact Zyd
        subst hr;have HC:=Ty w5 rb vs d x4 Z.o.rd mJ;unfold x4 at HC;have HC:=lh HC;clear cS hc mJ u;exact Acy
      .have a0:decide (1<(kids.length:Int))=false:=by have :=fm.o;simp;omega
       have fM:WY g G d aj vs=some r:=by have h:=u.o;rw[Y3 h0]at h;exact h
       have PQ:=lh (show Pre w5 rb B d vs/\vs.length<=zx.length from⟨Z.o,Cr.o⟩);have GQ:=G5;have FQ:=F5;obtain⟨PL,ch,H0⟩:=ds (Y0 vs.length) fM h0;clear u fM h0;by_cases h8:8<aj.length
       .have n8:decide (8<(kids.length:Int))=true:=by have :=fm.o;simp;omega
        have hr:r=.error (4,(c9 vs).at'):=by
         exact AcU
        subst hr;have HF:=lh (UW w5 rb vs d 4 PQ.o.1.rd);clear h8;exact Ug
       .have n8:decide (8<(kids.length:Int))=false:=by have :=fm.o;simp;omega
        have O:=ch.o;unfold WY at O;rw[Y3 h8]at O;have H8:=lh h8;have U:=lh O;clear h8 O;go_wp2_with fail
        refine Z7 [0,2,4,6,8,10,13,15,17] [9,10,11] (λW=>vC W nb 3 (.slice p kids.length cp)) n3 λ_=>?_;refine dU ?_
        iterate 6
         refine fa ?_
        refine Ze (λK hK=>?_);go_simp
        have P7:Pre w5.drew rb B d _:=PQ.o.1.below (Y2 _ _).drew;rw[Z9h]at U;rcases Zf U.o with⟨⟨c,p⟩,m,rfl⟩|⟨t,vs,m,fP⟩
        .refine(HV.o g Px w5.drew rb B d _ _ P7 m).mono ?_;exact UA
        .have dr:=XK _ _ _ _ _ _ m;have eY:=lh fP;refine(HV.o g Px w5.drew rb B d _ _ P7 m).mono ?_;rintro e w3⟨a,rfl,hA,bG,bg⟩;have cH:RFr w5 w3 rb:=(RFr.refl w5 rb).drew.trans bg;have fJ:=GQ.o.rfr ay cH;refine ub ?_;intro ac;have m3:w3.cell? ⟨nb,3,none⟩=some (.slice p kids.length cp):=by simp[vC,World.cell?,ac]
         refine Uo ?_;intro mz dm;refine VX ?_;intro dH;have aG:=dH.1.1;have gK:kids.length<=9:=Qu
         refine S' ?_;intro N3 A3 R3;obtain⟨F3,NE,NA,fO⟩:=en (FQ.o.trans cH) aG (show∀y∈(ATree.mk nb (.slice p kids.length cp) 35 ⟨#[]⟩ 0 kids).blocks,y<w5.drew.heap.size from λy hy=>(GQ.o.new y hy).2) dr;refine vf ?_;intro i0 hi aC bo bQ;clear hK K hA bG cH fJ ac dH aG n3 bg m fP P7 dr;refine t7 ?_;intro K hK;refine Acf ?_;intro gg cap w4 aS aB bS bY;refine Tz ?_;intro m4;refine uV ?_;clear hK K;intro lX
         have an:=Got.push ay HP.o.le N3.o (wA:=w5.drew) NA.o A3.o F3.o R3.o ((Y2 _ _).alloc (Y0 _) _) aB aS (bS.imp id λh=>by omega) bY;exact tr6
   .have Cs:ak vV us=false:=by simpa using hl
    have hq:=u.o;rw[Y3 hl]at hq;have hr:=Yc hq;have tA:=lh hr.symm;have HT:=zi w2 rb us d vV P2.o.rd Cs;unfold vV at HT;have HT:=lh HT;clear hq hl Cs hr u;go_wp2_with fail
    refine HT.o.mono ?_;rintro e w3⟨rfl,hB3⟩;have R3:=lh (P2.o.rd.below hB3);refine Zjm ?_;intro F3;have G3:=lh (G2.o.rfr ay (RFr.below (rb:=rb) hB3));clear hB3 HT;go_wp2;go_ret;rw[tA.o,sw.o];exact⟨a,rfl,G3.o,R3.o,F3.o⟩
open Go.Maps
def TT:List (kB×Int):=[(TP,19),(Un,20),(Vg,21),(Vw,22)]
def Ve:DataW Unit:=UQ TT
theorem Zmo:Ve=.map [(.string Un.data.toList,.lit (.int .i64 20)),(.string Vg.data.toList,.lit (.int .i64 21)),(.string TP.data.toList,.lit (.int .i64 19)),(.string Vw.data.toList,.lit (.int .i64 22))]:=by kernel_rfl
def Zp3{g:Lit}(h:Maps.has Ve g=true):∃x∈TT,g=.string x.1.data.toList:=by
 rw[Zmo]at h;obtain⟨p,hp,hk⟩:=List.any_eq_true.1 h;have e:=WideAt.sameKey_eq hk;simp only[List.mem_cons,List.not_mem_nil,or_false]at hp;rcases hp with rfl|rfl|rfl|rfl;·exact⟨(Un,20),by simp[TT],e.symm⟩
 .exact⟨(Vg,21),by simp[TT],e.symm⟩
 .exact⟨(TP,19),by simp[TT],e.symm⟩
 .exact⟨(Vw,22),by simp[TT],e.symm⟩
def Zin{x:kB×Int}(h:x∈TT):Maps.has Ve (.string x.1.data.toList)=true/\Ve.atKey (.string x.1.data.toList) (.lit (.int .i64 0))=.lit (.int .i64 x.2):=by
 simp only[TT,List.mem_cons,List.not_mem_nil,or_false]at h;rcases h with rfl|rfl|rfl|rfl<;>exact⟨by kernel_rfl,by kernel_rfl⟩
def Zmh{s:kB}{ts:List Tok}(h:ak s ts=true):(c9 ts).text=s:=by
 simp only[ak,Bool.and_eq_true,Zg,decide_eq_true_eq]at h;exact h.2
def Z95{s s':kB}{ts:List Tok}(h:ak s ts=true)(hn:s≠s'):ak s' ts=false:=by
 have:=Zmh h;simp only[ak,this];have:Zg s s'=false:=by simp[Zg,hn]
 simp[this]
def Zod{x:kB×Int}{ts:List Tok}(h:x∈TT)(hx:ak x.1 ts=true):Sq ts=x.2/\x.2≠0:=by
 simp only[TT,List.mem_cons,List.not_mem_nil,or_false]at h;rcases h with rfl|rfl|rfl|rfl;·exact⟨by unfold Sq;rw[Y5 hx],by decide⟩
 .exact⟨by unfold Sq;rw[Z95 hx (s':=TP) Py];simp only at hx;simp[hx],by decide⟩
 .exact⟨by unfold Sq;rw[Z95 hx (s':=TP) Py,Z95 hx (s':=Un) Py];simp only at hx;simp[hx],by decide⟩
 .exact⟨by unfold Sq;rw[Z95 hx (s':=TP) Py,Z95 hx (s':=Un) Py,Z95 hx (s':=Vg) Py];simp only at hx;simp[hx],by decide⟩
def Zk1{ts:List Tok}(h:∀x∈TT,ak x.1 ts=false):Sq ts=0:=by
 have h1:=h (TP,19) Sd;have g:=h (Un,20) Sd;have m:=h (Vg,21) Sd;have p:=h (Vw,22) Sd;simp only at h1 g m p;simp[Sq,h1,g,m,p]
def keyOf_string_inv{P:Program}{k:TypeId}(hk:P.underlying k=some .string){g:Value}{m:Lit}(h:keyOf P k g=some m):∃x:kB,g=.string x/\m=.string x.data.toList:=by
 unfold keyOf at h;rw[hk]at h;simp only at h;unfold mapKey at h;rw[hk]at h;cases g<;>simp at h
 obtain⟨_,rfl⟩:=h;exact⟨_,rfl,rfl⟩
def Zfm(f:Nat)(hA:bH 102 cW .around f)
 (zD:∀s,bH 100 (λrb=>#[vP rb,vI 37,.string s]) (.func 37 s) f)
 (hO:bH 168 cW (.object []) f):bH 166 cW .primary (f+1):=by
 intro w rb B d ts r hP hp;obtain⟨HA,vu,HO,HP⟩:=en hA zD hO hP;obtain⟨tb,off,cap,h⟩:=hP.rd;have c0:=h.c0;have z0:=h.fz 0;refine Zqv ?_;intro t0 t1 t2 t3;have Iv:=h.pos;have hm:=h.most;have dA:=h.le;unfold maxLen at hm;have HH:=lh h;obtain⟨n,hn⟩:=zX ts.length
 rw[<-hn]at c0 Iv dA;have F:=lh hn;have vw:=h.lt;have yr:=h.rlt;have ay:=hP.lt;simp only[Nat.add_zero]at t0;have HQ:=lh hp;obtain⟨Y,bD⟩:=zX ((c9 ts).kind)
 rw[<-bD]at t0;have kO:=lh bD;obtain⟨w1,dD⟩:=zX (w.alloc (.cells #[vI Y,.string (c9 ts).text,vI (c9 ts).n,vI (c9 ts).at'] 139))
 have aO:kW w w1:=Ql
 obtain⟨P1,B1,F1,mB⟩:=en (hP.below aO) aO (RFr.below (rb:=rb) aO) dD;clear hP hp h hn bD hA zD hO aO dD;unfold cW;by_cases k1:Y=1
 .subst k1;have hq:=HQ.o;rw[Z2,Y5 kO.o.symm]at hq;have hr:=Yc hq;have HR:=lh hr.symm;have HC:=lh (Va w1 rb ts d P1.o.rd kO.o.symm);clear hq hr;go_enter func166,ntmps166
  go_wp2_with fail
  rw[<-mB.o];refine HC.o.mono ?_;rintro e w2⟨rfl,am,ap⟩;have F2:=lh (F1.o.trans ap);have R2:=lh am;obtain⟨s,hs⟩:=zX ((c9 ts).text)
  rw[<-hs];obtain⟨HS,F,G3⟩:=ds hs (Zw w2 rb 23 s none 0 0) (Got.leaf (k:=23) (t:=s) (n:=0) HP.o.le F2.o);clear am ap HC hs;go_wp2_with fail
  refine F.o.mono ?_;rintro e m⟨rfl,kq⟩;have cP:kW w2 m:=Rp
  have AL:=lh cP;have xL:=lh kq;clear cP kq F;go_wp2;go_ret;rw[HR.o,<-HS.o];exact⟨_,rfl,by rw[xL.o];exact G3.o,R2.o.below AL.o,F2.o.trans (RFr.below AL.o)⟩
 have n1:(Y==1)=false:=by simpa using k1
 have K1:=lh k1;clear k1;by_cases k3:Y=3
 .subst k3;have hq:=HQ.o;rw[Z2,Y3 Rh,Y5 kO.o.symm]at hq;have hr:=Yc hq;have HR:=lh hr.symm;have Z:(c9 ts).kind≠6:=by rw[<-kO.o];decide
  have h2:=HH.o.two Z;rw[<-F.o]at h2;have g:=lh (HH.o.tail Z);clear hq hr Z;go_enter func166,ntmps166
  go_wp2_with fail
  refine(Zw _ rb 17 ⟨#[]⟩ none 0 0).mono ?_;rintro e m⟨rfl,rfl⟩;go_wp2;go_ret;have U:=g.o;rw[<-F.o]at U;refine YO ?_;intro hb;refine Xu ?_;intro F2 aA;rw[HR.o];refine⟨_,?pt,Got.leaf (k:=17) (t:=⟨#[]⟩) (n:=(c9 ts).n) HP.o.le (F2 _),⟨tb,off+4,cap-1,(U.below (hb _)).below (aA _ _)⟩,(F2 _).trans (RFr.below (aA _ _))⟩;case pt=>simp[ATree.b]
 have n3:(Y==3)=false:=by simpa using k3
 have K3:=lh k3;clear k3;by_cases k4:Y=4
 .subst k4;have hq:=HQ.o;rw[Z2,Y3 Rh,Y3 (by rw[<-kO.o];exact K3.o),Y5 kO.o.symm]at hq;have hr:=Yc hq;have HR:=lh hr.symm;have Z:(c9 ts).kind≠6:=by rw[<-kO.o];decide
  have h2:=HH.o.two Z;rw[<-F.o]at h2;have g:=lh (HH.o.tail Z);clear hq hr Z;go_enter func166,ntmps166
  go_wp2_with fail
  refine(Zw _ rb 18 (c9 ts).text none 0 0).mono ?_;rintro e m⟨rfl,rfl⟩;go_wp2;go_ret;have U:=g.o;rw[<-F.o]at U;refine YO ?_;intro hb;refine Xu ?_;intro F2 aA;rw[HR.o];refine⟨_,?pt,Got.leaf (k:=18) (t:=(c9 ts).text) (n:=0) HP.o.le (F2 _),⟨tb,off+4,cap-1,(U.below (hb _)).below (aA _ _)⟩,(F2 _).trans (RFr.below (aA _ _))⟩;case pt=>simp[ATree.b]
 have n4:(Y==4)=false:=by simpa using k4
 have K4:=lh k4;clear k4;have ku:=HQ.o;rw[Z2,Y3 Rh,Y3 (by rw[<-kO.o];exact K3.o),Y3 (by rw[<-kO.o];exact K4.o)]at ku;have sy:=lh ku;clear ku;have kY:=@run_makeMap Tryz.prog;have h0:=World.ownsMap_made (H:=Unit) w1 Tryz.prog 9 (plainElem Tryz.prog 3);have cu:kW w1 (w1.alloc (.map #[] 0)):=(Y2 _ _).alloc (Y0 _) _;have jF:=lh cu;rw[mB.o,World.size_alloc]at h0;clear cu;go_enter func166,ntmps166
 go_wp2_with (first|(refine Zp _ rfl _ _ _ 237 rfl 9 3 dS underlying237 _ _ 0 _ rfl h0 PA _ _ _ rfl rfl (Yo Yj Py) _ [] (plainElem_int Yk Py) ?_;intro v1 h1 g1)|(refine Zp _ rfl _ _ _ 237 rfl 9 3 dS underlying237 _ _ 1 _ rfl h1 PA _ _ _ rfl rfl (Yo Yj Py) _ [] (plainElem_int Yk Py) ?_;intro v2 h2 g2)|(refine Zp _ rfl _ _ _ 237 rfl 9 3 dS underlying237 _ _ 2 _ rfl h2 PA _ _ _ rfl rfl (Yo Yj Py) _ [] (plainElem_int Yk Py) ?_;intro v3 h3 g3)|(refine Zp _ rfl _ _ _ 237 rfl 9 3 dS underlying237 _ _ 3 _ rfl h3 PA _ _ _ rfl rfl (Yo Yj Py) _ [] (plainElem_int Yk Py) ?_;intro v4 U g4)|(at_range;refine wpList_range_own _ rfl _ 237 rfl 9 3 dS underlying237 _ _ _ _ rfl U ?_;intro v5 zE I' Ct))
 obtain⟨mb,jg⟩:=zX (w.heap.size+1)
 have bo:w1.heap.size=mb:=by rw[mB.o,jg];simp
 obtain⟨it,jr⟩:=zX v4.heap.size
 have EF:=T7 jF.o (by rw[<-mB.o]at g1;exact g1) Px jF.o.size;have B2:=T7 EF g2 Px EF.size;have B3:=T7 B2 g3 Px B2.size;have B4:=T7 B3 g4 Px B3.size;have B5:kW w1 v5:=B4.grown I' B4.size (λj hj=>by cases hj);have zF:w1.heap.size<=it:=by rw[jr];exact B4.size
 have vz:v5.ranges Tryz.prog 9 (plainElem Tryz.prog 3) mb it 4 Ve (Maps.has Ve) (Maps.size Ve):=by rw[jg,jr];exact zE
 have EG:=lh vz;have B5:=lh B5;rw[<-jg,<-jr];obtain⟨EH,ON,Cu,EI⟩:=en jg jr bo zF;clear zE I' Ct h0 h1 h2 h3 U g1 g2 g3 g4 EF B2 B3 B4 vz jg jr bo zF jF kY
 go_loopw [] (λwr=>∃(left:Lit->Bool) (EJ:Nat),wr.ranges Tryz.prog 9 (plainElem Tryz.prog 3) mb it 4 Ve left EJ/\Hid (∀kl,left kl=true->Maps.has Ve kl=true)/\
  Hid (∀s:kB,Maps.has Ve (.string s.data.toList)=true->left (.string s.data.toList)=false->ak s ts=false)/\Hid (kW w1 wr)) (λwr=>wr.rangeLeft mb it)
 case atStart=>exact⟨_,_,EG.o,lh (λ_ h=>h),lh (λs h1 h2=>by rw[h1]at h2;cases h2),B5⟩
 case round=>
  obtain⟨left,EJ,vz,Ja,yi,BW⟩:=hrel;go_wp2_with (at_next;refine wpList_next_ranges _ rfl _ rfl 9 dS _ (λx:kB=>Value.string x) (λc:Int=>Value.int .i64 c) (λkey kl h=>by obtain⟨x,h,_⟩:=keyOf_string_inv Yj h;exact⟨x,h⟩) (λv y h=>by obtain⟨c,h,_⟩:=plainElem_int_inv Yk h;exact⟨c,h⟩) mb it 4 _ left EJ rfl vz ?_ ?_)
  .intro _ om;have lD:Sq ts=0:=Zk1 λx hx=>yi.o x.1 (Zin hx).1 (om _);have hq:=sy.o;rw[Y3 (λh=>h lD)]at hq;have HQ1:=lh hq;have P5:=lh (P1.o.below BW.o);have F5:=lh (F1.o.trans (RFr.below (rb:=rb) BW.o));clear om lD hq vz;by_cases h1:ak vV ts=true
   .have hq:=HQ1.o;rw[Y5 h1]at hq;have u:=Sl wr rb ts d vV P5.o.rd;rw[h1]at u;unfold vV at u;have u:=lh u;have ch:=lh hq;clear h1 hq;go_wp2_with fail
    refine u.o.mono ?_;rintro e w2⟨rfl,ar⟩;have HC:=HA.o w2 rb B d ts r (P5.o.below ar) ch.o;unfold cW at HC;have HC:=lh HC;have F2:=lh (F5.o.trans (RFr.below (rb:=rb) ar));clear ar u;go_wp2_with fail
    refine HC.o.mono ?_;rcases r with⟨c,p⟩|⟨t,ts'⟩
    .rintro e m⟨⟨b,rfl,h1,h2⟩,hF⟩;exact Aa8
    .rintro e m⟨a,rfl,hG,hR,hF⟩;exact ZE
   have B8:ak vV ts=false:=by simpa using h1
   have hq:=HQ1.o;rw[Y3 h1]at hq;have ch:=lh hq;have u:=Sl wr rb ts d vV P5.o.rd;rw[B8]at u;unfold vV at u;have u:=lh u;clear h1 B8 hq;go_wp2_with fail
   refine u.o.mono ?_;rintro e w2⟨rfl,ar⟩;have I:=lh (P5.o.below ar);have F2:=lh (F5.o.trans (RFr.below (rb:=rb) ar));clear ar u;by_cases h2:ak SF ts=true
   .have hq:=ch.o;rw[Y5 h2]at hq;have g:=xH w2 rb ts d SF I.o.rd h2;unfold SF at g;have g:=lh g;have nf:=lh hq;clear h2 hq;go_wp2_with fail
    refine g.o.mono ?_;rintro e m⟨rfl,bG,bg⟩;have X:=lh (I.o.tail bG bg);have F3:=lh (F2.o.trans bg);obtain⟨Hn,yt,iX,J⟩:=bG;have q0:=J.c0;have q1:=J.hd (j:=0) (x:=(vI (c9 ts.tail).kind)) rfl;rw[Nat.add_zero]at q1;have q2:=J.pos;obtain⟨n2,cG⟩:=zX ts.tail.length
    rw[<-cG]at q0 q2;clear J bg g cG;by_cases hk:(c9 ts.tail).kind=1
    .have e1:((c9 ts.tail).kind==1)=true:=by simpa using hk
     have hq:=nf.o;rw[Y5 hk]at hq;have HC:=lh (Va m rb ts.tail d X.o.rd hk);obtain⟨s,hs⟩:=zX ((c9 ts.tail).text)
     rw[<-hs]at HC hq;have eY:=lh hq;clear hk hq hs;go_wp2_with fail
     refine HC.o.mono ?_;rintro e O⟨rfl,eK,be⟩;have bP:=vu.o s O rb B d _ r (X.o.tail eK be) eY.o;simp only at bP;have bP:=lh bP;have F4:=lh (F3.o.trans be);clear eK be HC;go_wp2_with fail
     refine bP.o.mono ?_;rcases r with⟨c,p⟩|⟨t,ts'⟩
     .rintro e m⟨⟨b,rfl,h1,h2⟩,hF⟩;exact VN
     .rintro e m⟨a,rfl,hG,hR,hF⟩;exact Abg
    .have e1:((c9 ts.tail).kind==1)=false:=by simpa using hk
     have hq:=nf.o;rw[Y3 hk]at hq;have bP:=vu.o ByteArray.empty m rb B d _ r X.o hq;simp only at bP;have bP:kC 100 #[vP rb,vI 37,.string ⟨#[]⟩] m (mc m rb B d r):=bP;have bP:=lh bP;clear hk hq;go_wp2_with fail
     refine bP.o.mono ?_;rcases r with⟨c,p⟩|⟨t,ts'⟩
     .rintro e O⟨⟨b,rfl,h1,h2⟩,hF⟩;exact⟨rfl,mc.pre F3.o (r:=.error (c,p)) ⟨⟨b,rfl,h1,h2⟩,hF⟩⟩
     .rintro e O⟨a,rfl,hG,hR,hF⟩;obtain⟨HG,HR,HF⟩:=ds (hG.pre F3.o) hR (F3.o.trans hF);clear hG hR hF bP;exact VV
   have uT:ak SF ts=false:=RU
   have hq:=ch.o;rw[Y3 h2]at hq;have nf:=lh hq;have g:=zi w2 rb ts d SF I.o.rd uT;unfold SF at g;have g:=lh g;clear h2 uT hq;go_wp2_with fail
   refine g.o.mono ?_;rintro e m⟨rfl,hB3⟩;have X:=lh (I.o.below hB3);refine Zjm ?_;intro F3;clear hB3 g;by_cases h3:ak Ku ts=true
   .have hq:=nf.o;rw[Y5 h3]at hq;have g:=xH m rb ts d Ku X.o.rd h3;unfold Ku at g;have g:=lh g;have eY:=lh hq;clear h3 hq;go_wp2_with fail
    refine g.o.mono ?_;rintro e O⟨rfl,eK,be⟩;have HC:=HO.o O rb B d _ r (X.o.tail eK be) eY.o;unfold cW at HC;have HC:=lh HC;have F4:=lh (F3.o.trans be);clear eK be g;go_wp2_with fail
    refine HC.o.mono ?_;rcases r with⟨c,p⟩|⟨t,ts'⟩
    .rintro e w5⟨⟨b,rfl,h1,h2⟩,hF⟩;exact VN
    .rintro e w5⟨a,rfl,hG,hR,hF⟩;obtain⟨HG,HR,HF⟩:=ds (hG.pre F4.o) hR (F4.o.trans hF);clear hG hR hF HC;exact VV
   have tt:ak Ku ts=false:=RV
   have hq:=nf.o;rw[Y3 h3]at hq;obtain rfl:=Yc hq;have g:=zi m rb ts d Ku X.o.rd tt;unfold Ku at g;have g:=lh g;clear h3 tt hq;go_wp2_with fail
   refine g.o.mono ?_;rintro e O⟨rfl,eF⟩;have HF:=lh (UW O rb ts d 3 (X.o.rd.below eF));have F4:=lh (F3.o.trans (RFr.below (rb:=rb) eF));clear eF g;go_wp2_with fail
   refine HF.o.mono ?_;rintro e w5⟨⟨b,rfl,h1,h2⟩,hB⟩;exact⟨rfl,mc.err F4.o ⟨b,rfl,h1,h2⟩ hB⟩
  .intro x c kl y ys w2 EK oq Jb pL gM zG zH i' cf vA;have aA:kW w1 w2:=T7 BW.o i' EI.o BW.o.size;have B2:=lh aA;obtain⟨x',e,rfl⟩:=keyOf_string_inv Yj oq;obtain rfl:x=x':=by cases e;rfl
   obtain⟨z,hz,Jc⟩:=Zp3 (Ja.o _ Jb);have sA:x=z.1:=by
    have:x.data.toList=z.1.data.toList:=by simpa using Jc
    exact Z4b (by rw[Lib.toList_data,Lib.toList_data];exact this)
   obtain⟨c',e1,e2,_⟩:=plainElem_int_inv Yk pL;obtain rfl:c=c':=by cases e1;rfl
   have Ef:c=z.2:=by
    have h1:=gM (.lit (.int .i64 0));simp only[Prod.mk.injEq]at e2;rw[sA,(Zin hz).2,e2.1]at h1;simpa using h1.symm
   obtain⟨HZ,L5,L6,EL,EG,kG⟩:=gq hz sA Ef zG vz zH;have I:=P1.o.below aA;clear e Jc sA e1 e2 Ef hz aA zG vz Jb pL gM oq zH i' cf;by_cases hs:ak x ts=true
   .have J:=Zod HZ.o (ts:=ts) (by rw[<-L5.o];exact hs);have hq:=sy.o;rw[Y5 (by rw[J.1];exact J.2),J.1]at hq;have hr:=Yc hq;have HR:=lh hr.symm;have g:=lh (xH w2 rb ts d x I.rd hs);clear hs J hq hr I;go_wp2_with fail
    refine g.o.mono ?_;rintro e m⟨rfl,bG,bg⟩;obtain⟨R3,F3,F⟩:=ds bG ((F1.o.trans (RFr.below (rb:=rb) B2.o)).trans bg) (Zw m rb c ⟨#[]⟩ none 0 0);have G3:=lh (Got.leaf (k:=c) (t:=⟨#[]⟩) (n:=0) HP.o.le F3.o);clear bG bg g;go_wp2_with fail
    refine F.o.mono ?_;rintro e O⟨rfl,fV⟩;have cP:kW m O:=by rw[fV];exact(Y2 _ _).alloc (Y0 _) _
    have AL:=lh cP;have EM:=lh fV;clear cP fV F;go_wp2;go_ret;rw[HR.o,<-L6.o];exact⟨_,rfl,by rw[EM.o];exact G3.o,R3.o.below AL.o,F3.o.trans (RFr.below AL.o)⟩
   .have dK:ak x ts=false:=by simpa using hs
    have g:=lh (zi w2 rb ts d x I.rd dK);have HS:=lh dK;clear hs dK I;go_wp2_with fail
    refine g.o.mono ?_;rintro e m⟨rfl,hB3⟩;have B3:=lh hB3;have lI:w2.grownBy m none:=⟨hB3.os,hB3.tape,hB3.output,hB3.size,λi hi _=>hB3.block i hi⟩
    have zI:=lh (EL.o.kept lI PE PE);clear hB3 lI;go_wp2;go_roundw
    case rel=>
     refine⟨_,EK,zI.o,lh (λkl aX=>Ja.o kl (by simp only[Bool.and_eq_true]at aX;exact aX.1)),lh (λs h1 h2=>?_),lh (B2.o.trans (B3.o.mono B2.o.size))⟩;by_cases hl:left (.string s.data.toList)=true
     .rw[hl]at h2;simp only[Bool.true_and,Bool.not_eq_false']at h2;have e:=WideAt.sameKey_eq h2;have:s=x:=Z4b (by rw[Lib.toList_data,Lib.toList_data];simpa using e);rw[this];exact HS.o
     .exact yi.o s h1 (by simpa using hl)
    case measure=>rw[zI.o.left_eq,EG.o.left_eq];exact kG.o
