import Derived.Test.YtkjdnecemhilpaaGreatDoorJ14
set_option maxRecDepth 100000
set_option maxHeartbeats 20000000
set_option linter.all false
namespace Go.Proofs.YtkjdnecemhilpaaGreatDoor
open Go Go.RowKit Go.Proofs.Tryz Tryz
def nextO(g d:Nat)(m:List Tree)(us:List Tok):PR:=if m.length=8 then r' 4 us else tK us λs ts=>iE Xj ts λts=>Zn (Z0 g .value d ts) λv ts=>Z0 g (.object (m++[.mk 39 s 0 [v]])) d ts
def Zfx (F:Nat) (hV:∀ g,g < F→ay 80 bO .value g) :
 ay 165 bO (.object []) F:=by
 intro w rb B d ts r U hp;obtain⟨HP,HV,u,Z⟩:=gp U hV hp (wj w rb 38 ⟨#[]⟩ none 0 0);obtain⟨nb,dl⟩:=zX w.heap.size
 have X:=Got.leaf (k:=38) (t:=⟨#[]⟩) (n:=0) U.le (RFr.refl w rb);have cR:kW w (w.alloc (.cells #[vI 38,.string ⟨#[]⟩,vI 0,.slice none 0 0] 28)):=(Y2 _ _).alloc (Y0 _) _;have R0:=U.rd.below cR;have F0:RFr w (w.alloc (.cells #[vI 38,.string ⟨#[]⟩,vI 0,.slice none 0 0] 28)) rb:=RFr.below cR;rw[<-dl]at X Z;unfold bO;clear U hp hV cR;go_enter func165,ntmps165
 go_wp2_with fail
 refine Z.o.mono ?_;rintro e w2⟨rfl,cj⟩;rw[<-cj]at X R0 F0;have hst:∃(g:Nat) (aj:List Tree) (us:List Tok) (v:Value) (kids:List ATree),g<=F/\Z0 g (.object aj) d us=some r/\Got w B w2 (.mk nb v 38 ⟨#[]⟩ 0 kids) (.mk 38 ⟨#[]⟩ 0 aj)/\Rd w2 rb us d/\RFr w w2 rb/\aj.length<=8/\us.length<=ts.length:=
  ⟨F,[],ts,_,[],Y0 _,u.o,X,R0,F0,by simp,Y0 _⟩
 have ST:=lh hst;have tt:=lh dl;clear hst cj X R0 F0 Z dl u;go_wp2_with fail
 go_loopw [] (λwr=>∃(g:Nat) (aj:List Tree) (us:List Tok) (v:Value) (kids:List ATree),g<=F/\Z0 g (.object aj) d us=some r/\Got w B wr (.mk nb v 38 ⟨#[]⟩ 0 kids) (.mk 38 ⟨#[]⟩ 0 aj)/\Rd wr rb us d/\RFr w wr rb/\aj.length<=8/\us.length<=ts.length) (λwr=>leftOf wr rb)
 case atStart=>exact ST.o
 case round=>
  obtain⟨g,aj,us,v,kids,hg,hq,hG,I,hF,hl,hu⟩:=hrel;obtain⟨G,R,FF,RL⟩:=gp hG I hF I.left;cases g with
  |zero=>cases hq
  |succ g=>
  rw[Z0]at hq;have m:=SK wr rb us d Zr I;have aA:=HP.o.lt;by_cases hb:ad Zr us=true
  .rw[hb]at m;rw[Y5 hb]at hq;have hr:=Yc hq;have tF:=lh hr.symm;have m:=lh m;have HI:=lh hb;unfold Zr at m;clear hG I hF hq hr hb ST;go_wp2_with fail
   refine m.o.mono ?_;rintro e w3⟨rfl,hB3⟩;have F3:=FF.o.trans (RFr.below (rb:=rb) hB3);have G3:=G.o.rfr aA (RFr.below (rb:=rb) hB3);have R3:=R.o.below hB3;have HC:=MN w3 rb us d Zr R3 HI.o;unfold Zr at HC;obtain⟨HC,F3,G3⟩:=ds HC F3 G3;clear hB3 R3 FF G R m;go_wp2_with fail
   refine HC.o.mono ?_;rintro e w4⟨rfl,eM,bg⟩;obtain⟨R4,F4,G4⟩:=ds eM (F3.o.trans bg) (G3.o.rfr aA bg);clear eM bg HC F3 G3;go_wp2;go_ret;rw[tF.o];exact⟨_,rfl,G4.o,R4.o,F4.o⟩
  ·have du : ad Zr us = false := by simpa using hb
   rw[du]at m;rw[Y3 hb]at hq;have m:=lh m;have HQ:=lh hq;unfold Zr at m;refine Zrj ?_;intro aY ft;clear hG I hF hq hb du ST aY;go_wp2_with fail
   refine m.o.mono ?_;rintro e w3⟨rfl,hB3⟩;refine Zsg ?_;intro F3 G3 R3 P3;obtain⟨p,cp,rfl⟩:∃p cp,v=.slice p kids.length cp:=by
    exact Zvu
   refine Zy2 ?_;intro ac n3 F3 G3 P3 HU HL;clear hB3 R3 FF G R m ac hu hl;by_cases Y:aj.length=0
   ·have a0 : decide (0 < kids.length) = false := by have := ft.o; simp; exact List.eq_nil_of_length_eq_zero Qe
    have J:nextO g d aj us=some r:=RB
    have PQ:=lh (show Pre w3 rb B d us/\us.length<=ts.length from⟨P3.o,HU.o⟩);have GQ:=G3;have FQ:=F3;obtain⟨PL,O,H0⟩:=ds (Y0 us.length) J Y;clear HQ J Y;by_cases h8:aj.length=8
    .have n8:((kids.length:Int)==8)=true:=by have :=ft.o;simp;omega
     have hr:r=.error (4,(al us).at'):=by
      have h:=O.o;unfold nextO at h;exact Zs0
     subst hr;have HF:=lh (UF w3 rb us d 4 PQ.o.1.rd);clear h8;exact UT
    .have n8:((kids.length:Int)==8)=false:=by have :=ft.o;simp;omega
     have gO:=O.o;unfold nextO at gO;rw[Y3 h8]at gO;have H8:=lh h8;clear h8;rcases XO gO with⟨hk,h1⟩|⟨hk,rfl⟩
     .have HC:=lh (Vr w3 rb us d PQ.o.1.rd hk);obtain⟨s,hs⟩:=zX ((al us).text)
      rw[<-hs]at HC h1;have u:=lh h1;have kw:=lh (Z9i hk);clear gO hk h1 hs;go_wp2_with fail
      refine Zzb ?_;clear HC;intro w5 P5 F5 G5;rcases Un u.o with⟨hs,h2⟩|⟨hs,rfl⟩
      .have HC:=MN w5 rb _ d Xj P5.o.rd hs;unfold Xj at HC;have HC:=lh HC;have H2:=lh h2;clear hs h2;go_wp2_with fail
       refine Zzq ?_;intro w6 jH fF P6 F6 G6 ac;clear n3;have n3:w6.cell? ⟨nb,3,none⟩=some (.slice p kids.length cp):=Qk
       obtain⟨P6,F6,G6⟩:=ds P6 F6 G6;clear jH fF ac HC P5 F5 G5;go_wp2_with fail
       refine Z7 [0,2,4,6,8,10,12,14,17,19,21,23,25] [13,14,15] (λW=>vC W nb 3 (.slice p kids.length cp)) n3 λ_=>?_;refine dS ?_
       iterate 8
        refine dq ?_
       refine Ze (λK hK=>?_);go_simp
       have P7:Pre w6.drew rb B d _:=P6.o.below (Y2 _ _).drew;rcases Zg H2.o with⟨⟨c,p⟩,hv,rfl⟩|⟨t,vs,hv,fQ⟩;·exact Zxf
       .have dr:=T6 hv;refine Zvo ?_;intro eY w7 x hX lZ dM eN kM ac m3;clear hK K;refine U4 ?_;intro K hK ai;refine hK _ _ ((ai.cell (p:=⟨nb,3,none⟩) (Y1.1 ac).1).trans m3) ?_;clear hK K;refine Xt ?_;intro K hK hA;refine Aan ?_;intro aw dx da hA;rw[<-da]at aw;refine Zsq ?_;intro fL bI cI;clear ac m3 da ai;refine ui ?_;intro ac;refine Zon ?_;intro m3;refine Iq ?_;intro mz dm dK aH;have gK:kids.length<=8:=by have :=ft.o;have :=HL.o;omega
        refine Zmy ?_;intro fT;rw[fT];obtain⟨a,ha⟩:∃a:ATree,a=.mk (w7.heap.size+1) (.slice (some ⟨w7.heap.size,0,none⟩) 1 1) 39 s 0 [x]:=⟨_,rfl⟩
        rw[<-ha]at hA;refine Zm3 ?_;intro jv;rw[jv];clear ha jv fT;refine Tu ?_;intro N3 A3 R3;refine Zyy ?_;intro jD NE NA fP;refine vB ?_;intro i0 hi aC bj bJ;clear hK K hA bI cI fL ac dK aH n3 hX lZ dM eN kM aw hv fQ dr P7;refine ub ?_;intro K hK;refine Acx ?_;intro gg cap w4 aU aB bV ca;refine T4 ?_;intro m4;refine vf ?_;clear hK K;intro lX;refine Zr9 ?_;clear aB aU bV ca;intro ct;go_wp2;go_roundw
        case rel=>
         refine⟨g,aj++[.mk 39 s 0 [t]],vs,.slice (some ⟨gg,0,none⟩) (kids.length+1) cap,kids++[a],by omega,eY.o,?_,ct.o.2.2,ct.o.2.1,by have:=HL.o;have:=H8.o;simp;omega,by have:=fP.o;have:=PQ.o.2;have:=Zz us;have:=Zz (us).tail;omega⟩;exact V7
        case measure=>
         rw[ct.o.2.2.left,RL.o];have e:(us).tail.length=(us).length-1:=List.length_tail;have:=fP.o;have:=kw.o;have:=PL.o;have:=Zz (us).tail;omega
      .exact Acu
     .have HC:=lh (WU w3 rb us d PQ.o.1.rd hk);exact Aa8
   ·have a0 : decide (0 < kids.length) = true := by have := ft.o; simp; omega
    have cU:=HQ.o;rw[Y5 Qe]at cU;have H0:=lh Y;clear Y;by_cases hc:ad tV us=true
    ·have J : nextO g d aj us.tail = some r := by rw [iE, Y5 hc] at cU; exact cU
     have HC:=MN w3 rb us d tV P3.o.rd hc;unfold tV at HC;have HC:=lh HC;have O:=lh J;clear cU hc HQ J;go_wp2_with fail
     refine Zvm ?_;intro iV eM bg PQ GQ FQ PL ac;clear n3;refine Zrk ?_;intro n3;clear eM bg HC ac F3 G3 P3;by_cases h8:aj.length=8
     .have n8:((kids.length:Int)==8)=true:=by have :=ft.o;simp;omega
      have hr:r=.error (4,(al us.tail).at'):=by
       have h:=O.o;unfold nextO at h;exact Zs0
      subst hr;have HF:=lh (UF iV rb us.tail d 4 PQ.o.1.rd);clear h8;exact UT
     .have n8:((kids.length:Int)==8)=false:=by have :=ft.o;simp;omega
      have gO:=O.o;unfold nextO at gO;rw[Y3 h8]at gO;have H8:=lh h8;clear h8;rcases XO gO with⟨hk,h1⟩|⟨hk,rfl⟩
      .have HC:=lh (Vr iV rb us.tail d PQ.o.1.rd hk);obtain⟨s,hs⟩:=zX ((al us.tail).text)
       rw[<-hs]at HC h1;have u:=lh h1;have kw:=lh (Z9i hk);clear gO hk h1 hs;go_wp2_with fail
       refine Zzb ?_;clear HC;intro w5 P5 F5 G5;rcases Un u.o with⟨hs,h2⟩|⟨hs,rfl⟩
       .have HC:=MN w5 rb _ d Xj P5.o.rd hs;unfold Xj at HC;have HC:=lh HC;have H2:=lh h2;clear hs h2;go_wp2_with fail
        refine Zzq ?_;intro w6 jH fF P6 F6 G6 ac;clear n3;have n3:w6.cell? ⟨nb,3,none⟩=some (.slice p kids.length cp):=Qk
        obtain⟨P6,F6,G6⟩:=ds P6 F6 G6;clear jH fF ac HC P5 F5 G5;go_wp2_with fail
        refine Z7 [0,2,4,6,8,10,12,14,17,19,21,23,25] [13,14,15] (λW=>vC W nb 3 (.slice p kids.length cp)) n3 λ_=>?_;refine dS ?_
        iterate 8
         refine dq ?_
        refine Ze (λK hK=>?_);go_simp
        have P7:Pre w6.drew rb B d _:=P6.o.below (Y2 _ _).drew;rcases Zg H2.o with⟨⟨c,p⟩,hv,rfl⟩|⟨t,vs,hv,fQ⟩;·exact Zxf
        .have dr:=T6 hv;refine Zvo ?_;intro eY w7 x hX lZ dM eN kM ac m3;clear hK K;refine U4 ?_;intro K hK ai;refine hK _ _ ((ai.cell (p:=⟨nb,3,none⟩) (Y1.1 ac).1).trans m3) ?_;clear hK K;refine Xt ?_;intro K hK hA;refine Aan ?_;intro aw dx da hA;rw[<-da]at aw;refine Zsq ?_;intro fL bI cI;clear ac m3 da ai;refine ui ?_;intro ac;refine Zon ?_;intro m3;refine Iq ?_;intro mz dm dK aH;have gK:kids.length<=8:=by have :=ft.o;have :=HL.o;omega
         refine Zmy ?_;intro fT;rw[fT];obtain⟨a,ha⟩:∃a:ATree,a=.mk (w7.heap.size+1) (.slice (some ⟨w7.heap.size,0,none⟩) 1 1) 39 s 0 [x]:=⟨_,rfl⟩
         rw[<-ha]at hA;refine Zm3 ?_;intro jv;rw[jv];clear ha jv fT;refine Tu ?_;intro N3 A3 R3;refine Zyy ?_;intro jD NE NA fP;refine vB ?_;intro i0 hi aC bj bJ;clear hK K hA bI cI fL ac dK aH n3 hX lZ dM eN kM aw hv fQ dr P7;refine ub ?_;intro K hK;refine Acx ?_;intro gg cap w4 aU aB bV ca;refine T4 ?_;intro m4;refine vf ?_;clear hK K;intro lX;refine Zr9 ?_;clear aB aU bV ca;intro ct;go_wp2;go_roundw
         case rel=>
          refine⟨g,aj++[.mk 39 s 0 [t]],vs,.slice (some ⟨gg,0,none⟩) (kids.length+1) cap,kids++[a],by omega,eY.o,?_,ct.o.2.2,ct.o.2.1,by have:=HL.o;have:=H8.o;simp;omega,by have:=fP.o;have:=PQ.o.2;have:=Zz us.tail;have:=Zz (us.tail).tail;omega⟩;exact V7
         case measure=>
          rw[ct.o.2.2.left,RL.o];have e:(us.tail).tail.length=(us.tail).length-1:=List.length_tail;have:=fP.o;have:=kw.o;have:=PL.o;have:=Zz (us.tail).tail;omega
       .exact Acu
      .have HC:=lh (WU iV rb us.tail d PQ.o.1.rd hk);exact Aa8
    .have mM:ad tV us=false:=by simpa using hc
     have hr:r=.error (3,(al us).at'):=by
      exact Zx3
     subst hr;have HC:=Tz w3 rb us d tV P3.o.rd mM;unfold tV at HC;have HC:=lh HC;clear cU hc mM HQ;exact Zw2
def Z98{p:PR}{k m:Tree->List Tok->PR}:Zn (Zn p k) m=Zn p λt ts=>Zn (k t ts) m:=by
 rcases p with _|e|⟨t,ts⟩<;>rfl
def Zgg{s:kB}{ts:List Tok}{k:List Tok->PR}{m:Tree->List Tok->PR}:Zn (iE s ts k) m=iE s ts λts=>Zn (k ts) m:=by
 unfold iE;by_cases h:ad s ts=true;·rw[Y5 h,Y5 h]
 .rw[Y3 h,Y3 h];rfl
def XE(g G d:Nat)(m:List Tree)(us:List Tok):PR:=if 8<m.length then r' 4 us else Zn (Zn (Z0 g .value d us) λv ts=>Z0 g (.args (m++[v])) d ts) λn ts=>Z0 G (.postLoop n) d ts
def Zm6{g G d:Nat}{m:List Tree}{us:List Tok}(h:ad tQ us=false) :
 Zn (Z0 (g+1) (.args m) d us) (λn ts=>Z0 G (.postLoop n) d ts)=(if 1<m.length then iE tV us else λk=>k us) λus=>XE g G d m us:=by
 have o:∀us,Zn (if 8<m.length then r' 4 us else Zn (Z0 g .value d us) λv ts=>Z0 g (.args (m++[v])) d ts) (λn ts=>Z0 G (.postLoop n) d ts)=XE g G d m us:=by
  intro us;unfold XE;by_cases h:8<m.length;·rw[Y5 h,Y5 h];rfl
  .rw[Y3 h,Y3 h]
 rw[Z0,Y3 (by rw[h];simp)];by_cases p:1<m.length
 .simp only[if_pos p];rw[Zgg];simp only[o]
 .simp only[if_neg p];exact o us
def Zel(F:Nat)(Jo:ay 163 bO .primary F)(hV:∀g,g<F->ay 80 bO .value g) :
 ay 151 bO .postfix_ (F+1):=by
 intro w rb B d ts r hP hp;have hw:Zn (Z0 F .primary d ts) (λx ts=>Z0 F (.postLoop x) d ts)=some r:=hp;obtain⟨HP,HV,H1,CJ⟩:=gp hP hV hw Jo;have aA:=hP.lt;clear hP hp hV Jo hw;rcases Zg H1.o with⟨⟨c,p⟩,m,rfl⟩|⟨t,CE,m,h2⟩
 .have HC:=CJ.o w rb B d _ _ HP.o m;unfold bO at HC ⊢;have HC:=lh HC;clear m;go_enter func151,ntmps151
  go_wp2_with fail
  refine HC.o.mono ?_;exact TP
 have HC:=CJ.o w rb B d _ _ HP.o m;have pe:=T6 m;unfold bO at HC ⊢;have HC:=lh HC;have U:=lh h2;clear m h2;go_enter func151,ntmps151
 go_wp2_with fail
 refine HC.o.mono ?_;rintro e w1⟨a0,rfl,zK,dB,dc⟩;have ST:Hid (∃(G:Nat) (us:List Tok) (a:ATree) (t:Tree),G<=F/\vP a0.b=(vP a.b)/\Z0 G (.postLoop t) d us=some r/\Got w B w1 a t/\Rd w1 rb us d/\RFr w w1 rb/\us.length<=ts.length):=
  lh ⟨F,CE,a0,t,Y0 _,rfl,U.o,zK,dB,dc,pe⟩
 clear zK dB dc pe HC U;go_wp2_with fail
 go_loopw [3] (λv3 wr=>∃(G:Nat) (us:List Tok) (a:ATree) (t:Tree),G<=F/\v3=(vP a.b)/\Z0 G (.postLoop t) d us=some r/\Got w B wr a t/\Rd wr rb us d/\RFr w wr rb/\us.length<=ts.length) (λ_ wr=>leftOf wr rb)
 case atStart=>exact ST.o
 case round=>
  obtain⟨G,us,a,t,Pd,rfl,hq,hG,I,hF,J⟩:=hrel;obtain⟨wo,rfl⟩:∃wo:kV,wo=wr:=⟨_,rfl⟩
  obtain⟨ab,bT⟩:=zX a.b
  have sx:=lh bT;rw[<-bT];obtain⟨G1,F1,Jp⟩:=ds hG hF I.left;have P1:Pre wo rb B d us:=⟨I,HP.o.deep,aA,Y4 HP.o.le hF.size,Y4 J HP.o.few⟩
  have P1:=lh P1;have HU:=lh J;clear hG hF I J ST bT;cases G with
  |zero=>cases hq
  |succ G=>
  rw[Z0]at hq;by_cases hd:ad Yz us=true
  .rw[Y5 hd]at hq;have HT:=xi wo rb us d Yz P1.o.rd hd;unfold Yz at HT;have HT:=lh HT;have kw:=lh (Zo hd);have u:=lh hq;clear hq hd;go_wp2_with fail
   refine Tq ?_;intro w2 an ap;obtain⟨P2,F2,G2⟩:=ds (P1.o.tail an ap) (F1.o.trans ap) (G1.o.rfr aA ap);clear an ap HT;rcases XO u.o with⟨hk,h1⟩|⟨hk,rfl⟩
   .have HC:=lh (Vr w2 rb us.tail d P2.o.rd hk);obtain⟨s,hs⟩:=zX ((al us.tail).text)
    rw[<-hs]at HC h1;have H3:=lh h1;clear hk h1 hs;go_wp2_with fail
    refine HC.o.mono ?_;refine Zz4 ?_;intro w3 bI bh F3 G3 ai;have Y:kW w3 ((w3.alloc (.cells #[vP ab] 22)).alloc (.cells #[vI 36,.string s,vI 0,.slice (some ⟨w3.heap.size,0,none⟩) 1 1] 28)):=ai.alloc Qm _;have hA:=Got.one (k:=36) (t:=s) HP.o.le F3 G3;obtain⟨HA,R4,F4⟩:=ds hA (bI.below Y) (F3.trans (RFr.below (rb:=rb) Y));clear bI bh F3 G3 ai Y hA HC;go_wp2_with fail
    refine(wj _ rb 36 s _ 1 1).mono ?_;rintro e w7⟨rfl,rfl⟩;go_wp2;go_roundw
    case rel=>
     refine⟨G,us.tail.tail,.mk (w3.heap.size+1) (.slice (some ⟨w3.heap.size,0,none⟩) 1 1) 36 s 0 [a],.mk 36 s 0 [t],by omega,by simp[ATree.b],H3.o,?_,R4.o,F4.o,by have:=HU.o;have:=Zz us;have:=Zz us.tail;omega⟩;rw[sx.o];exact HA.o
    case measure=>
     rw[R4.o.left,Jp.o];have:=kw.o;have:=Zz us.tail;omega
   .have HC:=lh (WU w2 rb us.tail d P2.o.rd hk);exact Aag
  ·have rV : ad Yz us = false := by simpa using hd
   rw[Y3 hd]at hq;have HT:=yn wo rb us d Yz P1.o.rd rV;unfold Yz at HT;have HT:=lh HT;have u:=lh hq;clear hq hd rV;go_wp2_with fail
   refine HT.o.mono ?_;rintro e w2⟨rfl,ar⟩;obtain⟨P2,F2,G2⟩:=ds (P1.o.below ar) (F1.o.trans (RFr.below (rb:=rb) ar)) (G1.o.rfr aA (RFr.below (rb:=rb) ar));clear ar HT;by_cases hl:ad tO us=true
   ·have hq := u.o;rw [Y5 hl] at hq;have ci := lh hq;have HT := xi w2 rb us d tO P2.o.rd hl;unfold tO at HT;have HT := lh HT;have kw := lh (Zo hl);clear hq hl u;go_wp2_with fail
    refine HT.o.mono ?_;refine Zz4 ?_;intro w3 bI bh F3 G3 ai;have Y:kW w3 ((w3.alloc (.cells #[vP ab] 22)).alloc (.cells #[vI 35,.string ⟨#[]⟩,vI 0,.slice (some ⟨w3.heap.size,0,none⟩) 1 1] 28)):=ai.alloc Qm _;have hA:=Got.one (k:=35) (t:=⟨#[]⟩) HP.o.le F3 G3;have eM:=bI.below Y;have X:=F3.trans (RFr.below (rb:=rb) Y);have HN:=lh (wj (w3.alloc (.cells #[vP ab] 22)) rb 35 ⟨#[]⟩ (some ⟨w3.heap.size,0,none⟩) 1 1);clear bI bh F3 G3 ai HT;go_wp2_with fail
    refine HN.o.mono ?_;rintro e w4⟨rfl,fW⟩;have zO:(w3.alloc (.cells #[vP ab] 22)).heap.size=w3.heap.size+1:=Qm
    rw[zO];obtain⟨nb,dl⟩:=zX (w3.heap.size+1)
    rw[<-dl];have Jq:Got w B w4 (.mk nb (.slice (some ⟨w3.heap.size,0,none⟩) 1 1) 35 ⟨#[]⟩ 0 [a]) (.mk 35 ⟨#[]⟩ 0 [t]):=by rw[fW,dl,sx.o];exact hA
    rw[<-fW]at eM X;obtain⟨zP,sy⟩:=zX us.tail
    have ST:Hid (∃(g:Nat) (aj:List Tree) (vs:List Tok) (v:Value) (kids:List ATree),g<=G/\Zn (Z0 g (.args aj) d vs) (λn ts=>Z0 G (.postLoop n) d ts)=some r/\Got w B w4 (.mk nb v 35 ⟨#[]⟩ 0 kids) (.mk 35 ⟨#[]⟩ 0 aj)/\Rd w4 rb vs d/\RFr w w4 rb/\1<=aj.length/\aj.length<=9/\vs.length<=zP.length):=
     lh ⟨G,[t],zP,_,[a],Y0 _,by rw[sy];exact ci.o,Jq,by rw[sy];exact eM,X,by simp,by simp,Y0 _⟩
    have zQ:=lh sy;clear fW zO dl hA Jq eM X Y ci HN sy;go_wp2_with fail
    go_loopw [] (λwr=>∃(g:Nat) (aj:List Tree) (vs:List Tok) (v:Value) (kids:List ATree),g<=G/\Zn (Z0 g (.args aj) d vs) (λn ts=>Z0 G (.postLoop n) d ts)=some r/\Got w B wr (.mk nb v 35 ⟨#[]⟩ 0 kids) (.mk 35 ⟨#[]⟩ 0 aj)/\Rd wr rb vs d/\RFr w wr rb/\1<=aj.length/\aj.length<=9/\vs.length<=zP.length) (λwr=>leftOf wr rb)
    case atStart=>exact ST.o
    case round=>
     obtain⟨g,aj,vs,v,kids,Pe,hq,hG,I,hF,mC,hl,J⟩:=hrel;obtain⟨GG,DM,FF,RL⟩:=gp hG I hF I.left;cases g with
     |zero=>cases hq
     |succ g=>
     have HB:=SK wr rb vs d tQ I;have zR:vs.length<=ts.length:=by have e1:=zQ.o;have e2:=HU.o;have e3:=Zz us;rw[e1]at J;omega
     by_cases hb:ad tQ vs=true
     .rw[hb]at HB;rw[Z0,Y5 hb]at hq;have hq:Z0 G (.postLoop (.mk 35 ByteArray.empty 0 aj)) d vs.tail=some r:=hq;have u:=lh hq;have HB:=lh HB;have HI:=lh hb;unfold tQ at HB;have CK:=lh J;have Js:=lh zR;clear hG I hF hq hb ST J zR;go_wp2_with fail
      refine Zvk ?_;intro w5 eO F5 G5 R5;have HC:=MN w5 rb vs d tQ R5 HI.o;unfold tQ at HC;obtain⟨HC,F5,G5⟩:=ds HC F5 G5;clear eO R5 FF GG DM HB;go_wp2_with fail
      refine HC.o.mono ?_;rintro e w6⟨rfl,jH,fF⟩;obtain⟨R6,F6,G6⟩:=ds jH (F5.o.trans fF) (G5.o.rfr aA fF);clear jH fF HC F5 G5;go_wp2;go_roundw
      case rel=>exact⟨G,vs.tail,_,_,by omega,rfl,u.o,G6.o,R6.o,F6.o,by have:=Js.o;have:=Zz vs;omega⟩
      case measure=>
       rw[R6.o.left,Jp.o];have e1:=zQ.o;have h2:=CK.o;rw[e1]at h2;have:=kw.o;have:=Zz vs;omega
     .have du:ad tQ vs=false:=by simpa using hb
      rw[du]at HB;rw[Zm6 du]at hq;have HB:=lh HB;have u:=lh hq;unfold tQ at HB;refine Zrj ?_;intro aY ft;clear hG I hF hq hb du ST aY;go_wp2_with fail
      refine Zvk ?_;intro w5 eO F5 G5 R5;have Z:Pre w5 rb B d vs:=⟨R5,HP.o.deep,aA,Y4 HP.o.le F5.size,Y4 zR HP.o.few⟩
      obtain⟨p,cp,rfl⟩:∃p cp,v=.slice p kids.length cp:=by
       rcases Z4 G5.at'.rowOf with⟨h1,h2⟩|⟨g0,gB,h1,_⟩;·exact Acm
       .exact⟨_,_,h1⟩
      have ac:=G5.at'.blkOf;simp only[ATree.b,ATree.v,ATree.kind,ATree.text,ATree.n]at ac;have n3:w5.cell? ⟨nb,3,none⟩=some (.slice p kids.length cp):=Qk
      obtain⟨F5,G5,Z,HL,jY,CK,Js⟩:=kF F5 G5 Z hl mC J zR;clear eO R5 FF GG DM HB ac hl mC J zR;by_cases h0:1<aj.length
      .have a0:decide (1<(kids.length:Int))=true:=by have :=ft.o;simp;omega
       have cU:=u.o;rw[Y5 h0]at cU;have H0:=lh h0;clear h0;by_cases hc:ad tV vs=true
       .have iQ:XE g G d aj vs.tail=some r:=by rw[iE,Y5 hc]at cU;exact cU
        have HC:=MN w5 rb vs d tV Z.o.rd hc;unfold tV at HC;have HC:=lh HC;have ci:=lh iQ;clear cU hc u iQ;go_wp2_with fail
        refine HC.o.mono ?_;rintro e iV⟨rfl,eM,X⟩;have PQ:=lh (show Pre iV rb B d vs.tail/\vs.tail.length<=zP.length from⟨Z.o.tail eM X,by have:=CK.o;rw[List.length_tail];omega⟩);have GQ:=lh (G5.o.rfr aA X);have FQ:=lh (F5.o.trans X);have PL:=lh (show vs.tail.length<=vs.length by rw[List.length_tail];omega);have ac:=GQ.o.at'.blkOf;simp only[ATree.b,ATree.v,ATree.kind,ATree.text,ATree.n]at ac;clear n3;refine Zrk ?_;intro n3;clear eM X HC ac F5 G5 Z;by_cases h8:8<aj.length
        .have n8:decide (8<(kids.length:Int))=true:=by have :=ft.o;simp;omega
         have hr:r=.error (4,(al vs.tail).at'):=by
          exact AaJ
         subst hr;have HF:=lh (UF iV rb vs.tail d 4 PQ.o.1.rd);clear h8;exact UT
        .have n8:decide (8<(kids.length:Int))=false:=by have :=ft.o;simp;omega
         have O:=ci.o;unfold XE at O;rw[Y3 h8]at O;have H8:=lh h8;have U:=lh O;clear h8 O;go_wp2_with fail
         refine Z7 [0,2,4,6,8,10,13,15,17] [9,10,11] (λW=>vC W nb 3 (.slice p kids.length cp)) n3 λ_=>?_;refine dS ?_
         iterate 6
          refine dq ?_
         refine Ze (λK hK=>?_);go_simp
         have P7:Pre iV.drew rb B d _:=PQ.o.1.below (Y2 _ _).drew;rw[Z98]at U;rcases Zg U.o with⟨⟨c,p⟩,m,rfl⟩|⟨t,vs,m,fQ⟩
         .refine(HV.o g Qe iV.drew rb B d _ _ P7 m).mono ?_;exact Uz
         .have dr:=Ts _ _ _ _ _ _ m;have eY:=lh fQ;refine(HV.o g Qe iV.drew rb B d _ _ P7 m).mono ?_;rintro e w3⟨a,rfl,hA,bI,bh⟩;have cI:RFr iV w3 rb:=(RFr.refl iV rb).drew.trans bh;have fL:=GQ.o.rfr aA cI;refine ui ?_;intro ac;have m3:w3.cell? ⟨nb,3,none⟩=some (.slice p kids.length cp):=by simp[vC,World.cell?,ac]
          refine UM ?_;intro mz dm;refine Wt ?_;intro dK;have aH:=dK.1.1;have gK:kids.length<=9:=Q0
          refine Tu ?_;intro N3 A3 R3;obtain⟨F3,NE,NA,fP⟩:=gp (FQ.o.trans cI) aH (show∀y∈(ATree.mk nb (.slice p kids.length cp) 35 ⟨#[]⟩ 0 kids).blocks,y<iV.drew.heap.size from λy hy=>(GQ.o.new y hy).2) dr;refine vB ?_;intro i0 hi aC bj bJ;clear hK K hA bI cI fL ac dK aH n3 bh m fQ P7 dr;refine ub ?_;intro K hK;refine AbI ?_;intro gg cap w4 aU aB bV ca;refine T4 ?_;intro m4;refine vf ?_;clear hK K;intro lX
          have am:=Got.push aA HP.o.le N3.o (wA:=iV.drew) NA.o A3.o F3.o R3.o ((Y2 _ _).alloc (Y0 _) _) aB aU (bV.imp id λh=>by omega) ca;exact tr6
       .have mM:ad tV vs=false:=by simpa using hc
        have hr:r=.error (3,(al vs).at'):=by
         exact Zx3
        subst hr;have HC:=Tz w5 rb vs d tV Z.o.rd mM;unfold tV at HC;have HC:=lh HC;clear cU hc mM u;exact Aco
      .have a0:decide (1<(kids.length:Int))=false:=by have :=ft.o;simp;omega
       have iQ:XE g G d aj vs=some r:=by have h:=u.o;rw[Y3 h0]at h;exact h
       have PQ:=lh (show Pre w5 rb B d vs/\vs.length<=zP.length from⟨Z.o,CK.o⟩);have GQ:=G5;have FQ:=F5;obtain⟨PL,ci,H0⟩:=ds (Y0 vs.length) iQ h0;clear u iQ h0;by_cases h8:8<aj.length
       .have n8:decide (8<(kids.length:Int))=true:=by have :=ft.o;simp;omega
        have hr:r=.error (4,(al vs).at'):=by
         exact AaJ
        subst hr;have HF:=lh (UF w5 rb vs d 4 PQ.o.1.rd);clear h8;exact UT
       .have n8:decide (8<(kids.length:Int))=false:=by have :=ft.o;simp;omega
        have O:=ci.o;unfold XE at O;rw[Y3 h8]at O;have H8:=lh h8;have U:=lh O;clear h8 O;go_wp2_with fail
        refine Z7 [0,2,4,6,8,10,13,15,17] [9,10,11] (λW=>vC W nb 3 (.slice p kids.length cp)) n3 λ_=>?_;refine dS ?_
        iterate 6
         refine dq ?_
        refine Ze (λK hK=>?_);go_simp
        have P7:Pre w5.drew rb B d _:=PQ.o.1.below (Y2 _ _).drew;rw[Z98]at U;rcases Zg U.o with⟨⟨c,p⟩,m,rfl⟩|⟨t,vs,m,fQ⟩
        .refine(HV.o g Qe w5.drew rb B d _ _ P7 m).mono ?_;exact Uz
        .have dr:=Ts _ _ _ _ _ _ m;have eY:=lh fQ;refine(HV.o g Qe w5.drew rb B d _ _ P7 m).mono ?_;rintro e w3⟨a,rfl,hA,bI,bh⟩;have cI:RFr w5 w3 rb:=(RFr.refl w5 rb).drew.trans bh;have fL:=GQ.o.rfr aA cI;refine ui ?_;intro ac;have m3:w3.cell? ⟨nb,3,none⟩=some (.slice p kids.length cp):=by simp[vC,World.cell?,ac]
         refine UM ?_;intro mz dm;refine Wt ?_;intro dK;have aH:=dK.1.1;have gK:kids.length<=9:=Q0
         refine Tu ?_;intro N3 A3 R3;obtain⟨F3,NE,NA,fP⟩:=gp (FQ.o.trans cI) aH (show∀y∈(ATree.mk nb (.slice p kids.length cp) 35 ⟨#[]⟩ 0 kids).blocks,y<w5.drew.heap.size from λy hy=>(GQ.o.new y hy).2) dr;refine vB ?_;intro i0 hi aC bj bJ;clear hK K hA bI cI fL ac dK aH n3 bh m fQ P7 dr;refine ub ?_;intro K hK;refine AbI ?_;intro gg cap w4 aU aB bV ca;refine T4 ?_;intro m4;refine vf ?_;clear hK K;intro lX
         have am:=Got.push aA HP.o.le N3.o (wA:=w5.drew) NA.o A3.o F3.o R3.o ((Y2 _ _).alloc (Y0 _) _) aB aU (bV.imp id λh=>by omega) ca;exact tr6
   .have Jt:ad tO us=false:=by simpa using hl
    have hq:=u.o;rw[Y3 hl]at hq;have hr:=Yc hq;have tF:=lh hr.symm;have HT:=yn w2 rb us d tO P2.o.rd Jt;unfold tO at HT;have HT:=lh HT;clear hq hl Jt hr u;go_wp2_with fail
    refine HT.o.mono ?_;rintro e w3⟨rfl,hB3⟩;have R3:=lh (P2.o.rd.below hB3);refine Zj0 ?_;intro F3;have G3:=lh (G2.o.rfr aA (RFr.below (rb:=rb) hB3));clear hB3 HT;go_wp2;go_ret;rw[tF.o,sx.o];exact⟨a,rfl,G3.o,R3.o,F3.o⟩
open Go.Maps
def Uj:List (kB×Int):=[(Tj,19),(TY,20),(Um,21),(UI,22)]
def Vm:DataW Unit:=Uw Uj
theorem Zn7:Vm=.map [(.string TY.data.toList,.lit (.int .i64 20)),(.string Um.data.toList,.lit (.int .i64 21)),(.string Tj.data.toList,.lit (.int .i64 19)),(.string UI.data.toList,.lit (.int .i64 22))]:=by kernel_rfl
def Znu{g:Lit}(h:Maps.has Vm g=true):∃x∈Uj,g=.string x.1.data.toList:=by
 rw[Zn7]at h;obtain⟨p,hp,hk⟩:=List.any_eq_true.1 h;have e:=WideAt.sameKey_eq hk;simp only[List.mem_cons,List.not_mem_nil,or_false]at hp;rcases hp with rfl|rfl|rfl|rfl;·exact⟨(TY,20),by simp[Uj],e.symm⟩
 .exact⟨(Um,21),by simp[Uj],e.symm⟩
 .exact⟨(Tj,19),by simp[Uj],e.symm⟩
 .exact⟨(UI,22),by simp[Uj],e.symm⟩
def Zhr{x:kB×Int}(h:x∈Uj):Maps.has Vm (.string x.1.data.toList)=true/\Vm.atKey (.string x.1.data.toList) (.lit (.int .i64 0))=.lit (.int .i64 x.2):=by
 simp only[Uj,List.mem_cons,List.not_mem_nil,or_false]at h;rcases h with rfl|rfl|rfl|rfl<;>exact⟨by kernel_rfl,by kernel_rfl⟩
def Zo0{s:kB}{ts:List Tok}(h:ad s ts=true):(al ts).text=s:=by
 simp only[ad,Bool.and_eq_true,Zh,decide_eq_true_eq]at h;exact h.2
def Z8y{s s':kB}{ts:List Tok}(h:ad s ts=true)(hn:s≠s'):ad s' ts=false:=by
 have:=Zo0 h;simp only[ad,this];have:Zh s s'=false:=by simp[Zh,hn]
 simp[this]
def Zo1{x:kB×Int}{ts:List Tok}(h:x∈Uj)(hx:ad x.1 ts=true):AJ ts=x.2/\x.2≠0:=by
 simp only[Uj,List.mem_cons,List.not_mem_nil,or_false]at h;rcases h with rfl|rfl|rfl|rfl;·exact⟨by unfold AJ;rw[Y5 hx],by decide⟩
 .exact⟨by unfold AJ;rw[Z8y hx (s':=Tj) Qg];simp only at hx;simp[hx],by decide⟩
 .exact⟨by unfold AJ;rw[Z8y hx (s':=Tj) Qg,Z8y hx (s':=TY) Qg];simp only at hx;simp[hx],by decide⟩
 .exact⟨by unfold AJ;rw[Z8y hx (s':=Tj) Qg,Z8y hx (s':=TY) Qg,Z8y hx (s':=Um) Qg];simp only at hx;simp[hx],by decide⟩
def Zkg{ts:List Tok}(h:∀x∈Uj,ad x.1 ts=false):AJ ts=0:=by
 have g:=h (Tj,19) SG;have m:=h (TY,20) SG;have o:=h (Um,21) SG;have p:=h (UI,22) SG;simp only at g m o p;simp[AJ,g,m,o,p]
def keyOf_string_inv{P:Program}{k:TypeId}(hk:P.underlying k=some .string){g:Value}{m:Lit}(h:keyOf P k g=some m):∃x:kB,g=.string x/\m=.string x.data.toList:=by
 unfold keyOf at h;rw[hk]at h;simp only at h;unfold mapKey at h;rw[hk]at h;cases g<;>simp at h
 obtain⟨_,rfl⟩:=h;exact⟨_,rfl,rfl⟩
def Zey(f:Nat)(hA:ay 79 bO .around f)
 (zS:∀s,ay 77 (λrb=>#[vP rb,vI 37,.string s]) (.func 37 s) f)
 (hO:ay 165 bO (.object []) f):ay 163 bO .primary (f+1):=by
 intro w rb B d ts r hP hp;obtain⟨HA,vK,HO,HP⟩:=gp hA zS hO hP;obtain⟨tb,off,cap,h⟩:=hP.rd;have c0:=h.c0;have z0:=h.fz 0;refine Zqr ?_;intro t0 t1 t2 t3;have IQ:=h.pos;have hm:=h.most;have dt:=h.le;unfold maxLen at hm;have HH:=lh h;obtain⟨n,hn⟩:=zX ts.length
 rw[<-hn]at c0 IQ dt;have F:=lh hn;have vL:=h.lt;have yH:=h.rlt;have aA:=hP.lt;simp only[Nat.add_zero]at t0;have HQ:=lh hp;obtain⟨Y,bC⟩:=zX ((al ts).kind)
 rw[<-bC]at t0;have kT:=lh bC;obtain⟨w1,dU⟩:=zX (w.alloc (.cells #[vI Y,.string (al ts).text,vI (al ts).n,vI (al ts).at'] 97))
 have aQ:kW w w1:=Rc
 obtain⟨P1,B1,F1,od⟩:=gp (hP.below aQ) aQ (RFr.below (rb:=rb) aQ) dU;clear hP hp h hn bC hA zS hO aQ dU;unfold bO;by_cases k1:Y=1
 .subst k1;have hq:=HQ.o;rw[Z0,Y5 kT.o.symm]at hq;have hr:=Yc hq;have HR:=lh hr.symm;have HC:=lh (Vr w1 rb ts d P1.o.rd kT.o.symm);clear hq hr;go_enter func163,ntmps163
  go_wp2_with fail
  rw[<-od.o];refine HC.o.mono ?_;rintro e w2⟨rfl,an,ap⟩;have F2:=lh (F1.o.trans ap);have R2:=lh an;obtain⟨s,hs⟩:=zX ((al ts).text)
  rw[<-hs];obtain⟨HS,F,G3⟩:=ds hs (wj w2 rb 23 s none 0 0) (Got.leaf (k:=23) (t:=s) (n:=0) HP.o.le F2.o);clear an ap HC hs;go_wp2_with fail
  refine F.o.mono ?_;rintro e m⟨rfl,jk⟩;have cR:kW w2 m:=R7
  have AL:=lh cR;have ya:=lh jk;clear cR jk F;go_wp2;go_ret;rw[HR.o,<-HS.o];exact⟨_,rfl,by rw[ya.o];exact G3.o,R2.o.below AL.o,F2.o.trans (RFr.below AL.o)⟩
 have n1:(Y==1)=false:=by simpa using k1
 have K1:=lh k1;clear k1;by_cases k3:Y=3
 .subst k3;have hq:=HQ.o;rw[Z0,Y3 RQ,Y5 kT.o.symm]at hq;have hr:=Yc hq;have HR:=lh hr.symm;have Z:(al ts).kind≠6:=by rw[<-kT.o];decide
  have h2:=HH.o.two Z;rw[<-F.o]at h2;have g:=lh (HH.o.tail Z);clear hq hr Z;go_enter func163,ntmps163
  go_wp2_with fail
  refine(wj _ rb 17 ⟨#[]⟩ none 0 0).mono ?_;rintro e m⟨rfl,rfl⟩;go_wp2;go_ret;have U:=g.o;rw[<-F.o]at U;refine X5 ?_;intro hb;refine Zxj ?_;intro F2 aw;rw[HR.o];refine⟨_,?pt,Got.leaf (k:=17) (t:=⟨#[]⟩) (n:=(al ts).n) HP.o.le (F2 _),⟨tb,off+4,cap-1,(U.below (hb _)).below (aw _ _)⟩,(F2 _).trans (RFr.below (aw _ _))⟩;case pt=>simp[ATree.b]
 have n3:(Y==3)=false:=by simpa using k3
 have K3:=lh k3;clear k3;by_cases k4:Y=4
 .subst k4;have hq:=HQ.o;rw[Z0,Y3 RQ,Y3 (by rw[<-kT.o];exact K3.o),Y5 kT.o.symm]at hq;have hr:=Yc hq;have HR:=lh hr.symm;have Z:(al ts).kind≠6:=by rw[<-kT.o];decide
  have h2:=HH.o.two Z;rw[<-F.o]at h2;have g:=lh (HH.o.tail Z);clear hq hr Z;go_enter func163,ntmps163
  go_wp2_with fail
  refine(wj _ rb 18 (al ts).text none 0 0).mono ?_;rintro e m⟨rfl,rfl⟩;go_wp2;go_ret;have U:=g.o;rw[<-F.o]at U;refine X5 ?_;intro hb;refine Zxj ?_;intro F2 aw;rw[HR.o];refine⟨_,?pt,Got.leaf (k:=18) (t:=(al ts).text) (n:=0) HP.o.le (F2 _),⟨tb,off+4,cap-1,(U.below (hb _)).below (aw _ _)⟩,(F2 _).trans (RFr.below (aw _ _))⟩;case pt=>simp[ATree.b]
 have n4:(Y==4)=false:=by simpa using k4
 have K4:=lh k4;clear k4;have kA:=HQ.o;rw[Z0,Y3 RQ,Y3 (by rw[<-kT.o];exact K3.o),Y3 (by rw[<-kT.o];exact K4.o)]at kA;have sA:=lh kA;clear kA;have lp:=@run_makeMap Tryz.prog;have h0:=World.ownsMap_made (H:=Unit) w1 Tryz.prog 9 (plainElem Tryz.prog 3);have cu:kW w1 (w1.alloc (.map #[] 0)):=(Y2 _ _).alloc (Y0 _) _;have kS:=lh cu;rw[od.o,World.size_alloc]at h0;clear cu;go_enter func163,ntmps163
 go_wp2_with (first|(refine Zs _ rfl _ _ _ 229 rfl 9 3 dR underlying229 _ _ 0 _ rfl h0 Qj _ _ _ rfl rfl (Yo Yj Qg) _ [] (plainElem_int Yk Qg) ?_;intro v1 h1 g1)|(refine Zs _ rfl _ _ _ 229 rfl 9 3 dR underlying229 _ _ 1 _ rfl h1 Qj _ _ _ rfl rfl (Yo Yj Qg) _ [] (plainElem_int Yk Qg) ?_;intro v2 h2 g2)|(refine Zs _ rfl _ _ _ 229 rfl 9 3 dR underlying229 _ _ 2 _ rfl h2 Qj _ _ _ rfl rfl (Yo Yj Qg) _ [] (plainElem_int Yk Qg) ?_;intro v3 h3 g3)|(refine Zs _ rfl _ _ _ 229 rfl 9 3 dR underlying229 _ _ 3 _ rfl h3 Qj _ _ _ rfl rfl (Yo Yj Qg) _ [] (plainElem_int Yk Qg) ?_;intro v4 U g4)|(at_range;refine wpList_range_own _ rfl _ 229 rfl 9 3 dR underlying229 _ _ _ _ rfl U ?_;intro v5 zV Ju CL))
 obtain⟨mb,jn⟩:=zX (w.heap.size+1)
 have bj:w1.heap.size=mb:=by rw[od.o,jn];simp
 obtain⟨it,jw⟩:=zX v4.heap.size
 have EX:=Ue kS.o (by rw[<-od.o]at g1;exact g1) Qe kS.o.size;have B2:=Ue EX g2 Qe EX.size;have B3:=Ue B2 g3 Qe B2.size;have B4:=Ue B3 g4 Qe B3.size;have B5:kW w1 v5:=B4.grown Ju B4.size (λj hj=>by cases hj);have zW:w1.heap.size<=it:=by rw[jw];exact B4.size
 have vN:v5.ranges Tryz.prog 9 (plainElem Tryz.prog 3) mb it 4 Vm (Maps.has Vm) (Maps.size Vm):=by rw[jn,jw];exact zV
 have EY:=lh vN;have B5:=lh B5;rw[<-jn,<-jw];obtain⟨EZ,Pf,CM,E0⟩:=gp jn jw bj zW;clear zV Ju CL h0 h1 h2 h3 U g1 g2 g3 g4 EX B2 B3 B4 vN jn jw bj zW kS lp
 go_loopw [] (λwr=>∃(left:Lit->Bool) (E4:Nat),wr.ranges Tryz.prog 9 (plainElem Tryz.prog 3) mb it 4 Vm left E4/\Hid (∀kl,left kl=true->Maps.has Vm kl=true)/\
  Hid (∀s:kB,Maps.has Vm (.string s.data.toList)=true->left (.string s.data.toList)=false->ad s ts=false)/\Hid (kW w1 wr)) (λwr=>wr.rangeLeft mb it)
 case atStart=>exact⟨_,_,EY.o,lh (λ_ h=>h),lh (λs h1 h2=>by rw[h1]at h2;cases h2),B5⟩
 case round=>
  obtain⟨left,E4,vN,Jv,yA,BW⟩:=hrel;go_wp2_with (at_next;refine wpList_next_ranges _ rfl _ rfl 9 dR _ (λx:kB=>Value.string x) (λc:Int=>Value.int .i64 c) (λkey kl h=>by obtain⟨x,h,_⟩:=keyOf_string_inv Yj h;exact⟨x,h⟩) (λv y h=>by obtain⟨c,h,_⟩:=plainElem_int_inv Yk h;exact⟨c,h⟩) mb it 4 _ left E4 rfl vN ?_ ?_)
  .intro _ oq;have lD:AJ ts=0:=Zkg λx hx=>yA.o x.1 (Zhr hx).1 (oq _);have hq:=sA.o;rw[Y3 (λh=>h lD)]at hq;have HQ1:=lh hq;have P5:=lh (P1.o.below BW.o);have F5:=lh (F1.o.trans (RFr.below (rb:=rb) BW.o));clear oq lD hq vN;by_cases h1:ad tO ts=true
   .have hq:=HQ1.o;rw[Y5 h1]at hq;have u:=SK wr rb ts d tO P5.o.rd;rw[h1]at u;unfold tO at u;have u:=lh u;have ci:=lh hq;clear h1 hq;go_wp2_with fail
    refine u.o.mono ?_;rintro e w2⟨rfl,ar⟩;have HC:=HA.o w2 rb B d ts r (P5.o.below ar) ci.o;unfold bO at HC;have HC:=lh HC;have F2:=lh (F5.o.trans (RFr.below (rb:=rb) ar));clear ar u;go_wp2_with fail
    refine HC.o.mono ?_;rcases r with⟨c,p⟩|⟨t,ts'⟩
    .rintro e m⟨⟨b,rfl,h1,h2⟩,hF⟩;exact AaC
    .rintro e m⟨a,rfl,hG,hR,hF⟩;exact ZX
   have Cw:ad tO ts=false:=by simpa using h1
   have hq:=HQ1.o;rw[Y3 h1]at hq;have ci:=lh hq;have u:=SK wr rb ts d tO P5.o.rd;rw[Cw]at u;unfold tO at u;have u:=lh u;clear h1 Cw hq;go_wp2_with fail
   refine u.o.mono ?_;rintro e w2⟨rfl,ar⟩;have I:=lh (P5.o.below ar);have F2:=lh (F5.o.trans (RFr.below (rb:=rb) ar));clear ar u;by_cases h2:ad IJ ts=true
   .have hq:=ci.o;rw[Y5 h2]at hq;have g:=xi w2 rb ts d IJ I.o.rd h2;unfold IJ at g;have g:=lh g;have ni:=lh hq;clear h2 hq;go_wp2_with fail
    refine g.o.mono ?_;rintro e m⟨rfl,bI,bh⟩;have X:=lh (I.o.tail bI bh);have F3:=lh (F2.o.trans bh);obtain⟨If,yI,jb,J⟩:=bI;have q0:=J.c0;have q1:=J.hd (j:=0) (x:=(vI (al ts.tail).kind)) rfl;rw[Nat.add_zero]at q1;have q2:=J.pos;obtain⟨n2,cF⟩:=zX ts.tail.length
    rw[<-cF]at q0 q2;clear J bh g cF;by_cases hk:(al ts.tail).kind=1
    .have e1:((al ts.tail).kind==1)=true:=by simpa using hk
     have hq:=ni.o;rw[Y5 hk]at hq;have HC:=lh (Vr m rb ts.tail d X.o.rd hk);obtain⟨s,hs⟩:=zX ((al ts.tail).text)
     rw[<-hs]at HC hq;have eY:=lh hq;clear hk hq hs;go_wp2_with fail
     refine HC.o.mono ?_;rintro e O⟨rfl,eM,bg⟩;have bS:=vK.o s O rb B d _ r (X.o.tail eM bg) eY.o;simp only at bS;have bS:=lh bS;have F4:=lh (F3.o.trans bg);clear eM bg HC;go_wp2_with fail
     refine bS.o.mono ?_;rcases r with⟨c,p⟩|⟨t,ts'⟩
     .rintro e m⟨⟨b,rfl,h1,h2⟩,hF⟩;exact V5
     .rintro e m⟨a,rfl,hG,hR,hF⟩;exact Acv
    .have e1:((al ts.tail).kind==1)=false:=by simpa using hk
     have hq:=ni.o;rw[Y3 hk]at hq;have bS:=vK.o ByteArray.empty m rb B d _ r X.o hq;simp only at bS;have bS:kC 77 #[vP rb,vI 37,.string ⟨#[]⟩] m (mA m rb B d r):=bS;have bS:=lh bS;clear hk hq;go_wp2_with fail
     refine bS.o.mono ?_;rcases r with⟨c,p⟩|⟨t,ts'⟩
     .rintro e O⟨⟨b,rfl,h1,h2⟩,hF⟩;exact⟨rfl,mA.pre F3.o (r:=.error (c,p)) ⟨⟨b,rfl,h1,h2⟩,hF⟩⟩
     .rintro e O⟨a,rfl,hG,hR,hF⟩;obtain⟨HG,HR,HF⟩:=ds (hG.pre F3.o) hR (F3.o.trans hF);clear hG hR hF bS;exact VO
   have vm:ad IJ ts=false:=Sq
   have hq:=ci.o;rw[Y3 h2]at hq;have ni:=lh hq;have g:=yn w2 rb ts d IJ I.o.rd vm;unfold IJ at g;have g:=lh g;clear h2 vm hq;go_wp2_with fail
   refine g.o.mono ?_;rintro e m⟨rfl,hB3⟩;have X:=lh (I.o.below hB3);refine Zj0 ?_;intro F3;clear hB3 g;by_cases h3:ad Ay ts=true
   .have hq:=ni.o;rw[Y5 h3]at hq;have g:=xi m rb ts d Ay X.o.rd h3;unfold Ay at g;have g:=lh g;have eY:=lh hq;clear h3 hq;go_wp2_with fail
    refine g.o.mono ?_;rintro e O⟨rfl,eM,bg⟩;have HC:=HO.o O rb B d _ r (X.o.tail eM bg) eY.o;unfold bO at HC;have HC:=lh HC;have F4:=lh (F3.o.trans bg);clear eM bg g;go_wp2_with fail
    refine HC.o.mono ?_;rcases r with⟨c,p⟩|⟨t,ts'⟩
    .rintro e w5⟨⟨b,rfl,h1,h2⟩,hF⟩;exact V5
    .rintro e w5⟨a,rfl,hG,hR,hF⟩;obtain⟨HG,HR,HF⟩:=ds (hG.pre F4.o) hR (F4.o.trans hF);clear hG hR hF HC;exact VO
   have tA:ad Ay ts=false:=Sr
   have hq:=ni.o;rw[Y3 h3]at hq;obtain rfl:=Yc hq;have g:=yn m rb ts d Ay X.o.rd tA;unfold Ay at g;have g:=lh g;clear h3 tA hq;go_wp2_with fail
   refine g.o.mono ?_;rintro e O⟨rfl,eI⟩;have HF:=lh (UF O rb ts d 3 (X.o.rd.below eI));have F4:=lh (F3.o.trans (RFr.below (rb:=rb) eI));clear eI g;go_wp2_with fail
   refine HF.o.mono ?_;rintro e w5⟨⟨b,rfl,h1,h2⟩,hB⟩;exact⟨rfl,mA.err F4.o ⟨b,rfl,h1,h2⟩ hB⟩
  .intro x c kl y ys w2 E5 ot Jw pH gM zY zZ je dp vQ;have aw:kW w1 w2:=Ue BW.o je E0.o BW.o.size;have B2:=lh aw;obtain⟨x',e,rfl⟩:=keyOf_string_inv Yj ot;obtain rfl:x=x':=by cases e;rfl
   obtain⟨z,hz,Jx⟩:=Znu (Jv.o _ Jw);have sB:x=z.1:=by
    have:x.data.toList=z.1.data.toList:=by simpa using Jx
    exact Z5d (by rw[Lib.toList_data,Lib.toList_data];exact this)
   obtain⟨c',e1,e2,_⟩:=plainElem_int_inv Yk pH;obtain rfl:c=c':=by cases e1;rfl
   have Ey:c=z.2:=by
    have h1:=gM (.lit (.int .i64 0));simp only[Prod.mk.injEq]at e2;rw[sB,(Zhr hz).2,e2.1]at h1;simpa using h1.symm
   obtain⟨HZ,Mv,Mw,E6,EY,kK⟩:=gw hz sB Ey zY vN zZ;have I:=P1.o.below aw;clear e Jx sB e1 e2 Ey hz aw zY vN Jw pH gM ot zZ je dp;by_cases hs:ad x ts=true
   .have J:=Zo1 HZ.o (ts:=ts) (by rw[<-Mv.o];exact hs);have hq:=sA.o;rw[Y5 (by rw[J.1];exact J.2),J.1]at hq;have hr:=Yc hq;have HR:=lh hr.symm;have g:=lh (xi w2 rb ts d x I.rd hs);clear hs J hq hr I;go_wp2_with fail
    refine g.o.mono ?_;rintro e m⟨rfl,bI,bh⟩;obtain⟨R3,F3,F⟩:=ds bI ((F1.o.trans (RFr.below (rb:=rb) B2.o)).trans bh) (wj m rb c ⟨#[]⟩ none 0 0);have G3:=lh (Got.leaf (k:=c) (t:=⟨#[]⟩) (n:=0) HP.o.le F3.o);clear bI bh g;go_wp2_with fail
    refine F.o.mono ?_;rintro e O⟨rfl,fW⟩;have cR:kW m O:=by rw[fW];exact(Y2 _ _).alloc (Y0 _) _
    have AL:=lh cR;have E7:=lh fW;clear cR fW F;go_wp2;go_ret;rw[HR.o,<-Mw.o];exact⟨_,rfl,by rw[E7.o];exact G3.o,R3.o.below AL.o,F3.o.trans (RFr.below AL.o)⟩
   .have dT:ad x ts=false:=by simpa using hs
    have g:=lh (yn w2 rb ts d x I.rd dT);have HS:=lh dT;clear hs dT I;go_wp2_with fail
    refine g.o.mono ?_;rintro e m⟨rfl,hB3⟩;have B3:=lh hB3;have lF:w2.grownBy m none:=⟨hB3.os,hB3.tape,hB3.output,hB3.size,λi hi _=>hB3.block i hi⟩
    have z7:=lh (E6.o.kept lF Qm Qm);clear hB3 lF;go_wp2;go_roundw
    case rel=>
     refine⟨_,E5,z7.o,lh (λkl aY=>Jv.o kl (by simp only[Bool.and_eq_true]at aY;exact aY.1)),lh (λs h1 h2=>?_),lh (B2.o.trans (B3.o.mono B2.o.size))⟩;by_cases hl:left (.string s.data.toList)=true
     .rw[hl]at h2;simp only[Bool.true_and,Bool.not_eq_false']at h2;have e:=WideAt.sameKey_eq h2;have:s=x:=Z5d (by rw[Lib.toList_data,Lib.toList_data];simpa using e);rw[this];exact HS.o
     .exact yA.o s h1 (by simpa using hl)
    case measure=>rw[z7.o.left_eq,EY.o.left_eq];exact kK.o
