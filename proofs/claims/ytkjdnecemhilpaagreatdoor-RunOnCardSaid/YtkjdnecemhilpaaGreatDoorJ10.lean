import Derived.Test.YtkjdnecemhilpaaGreatDoorJ09
import Derived.Lib.Join
set_option maxRecDepth 100000
set_option maxHeartbeats 20000000
set_option linter.all false
namespace Go.Proofs.YtkjdnecemhilpaaGreatDoor
open Go Go.RowKit Go.Proofs.Tryz Tryz
def Zng(f d:Nat)(kind:Int)(text:kB)(p:Tree)(ts:List Tok):PR:=iE tQ ts λts=>Zn (Z0 f (.block true) d ts) λb ts=>fH (.mk kind text 0 [p,b]) ts
def Zb4{ts:List Tok}{k:kB->List Tok->PR}{g:Tree->List Tok->PR}{r:Except (Int×Nat) (Tree×List Tok)}(h:Zn (tK ts k) g=some r):((al ts).kind=1/\Zn (k (al ts).text ts.tail) g=some r)\/((al ts).kind≠1/\r=.error (3,(al ts).at')):=by
 unfold tK at h;by_cases hk:(al ts).kind=1;·rw[Y5 hk]at h;exact .inl ⟨hk,h⟩
 .rw[Y3 hk]at h;exact .inr ⟨hk,(Yc h).symm⟩
def Z9i{ts:List Tok}(h:(al ts).kind=1):0<ts.length:=by
 cases ts with
 |nil=>simp[al]at h
 |cons t l=>simp
def Zmw(g f d:Nat)(kind:Int)(text:kB)(m:List Tree)(us:List Tok):PR:=Zn (if m.length=8 then r' 4 us else tK us λs ts=>Z0 g (.params (m++[.mk 23 s 0 []])) d ts) (Zng f d kind text)
def Znd(F:Nat)(kind:Int)(text:kB)(hB:ay 73 (λrb=>#[vP rb,.bool true]) (.block true) F) :
 ay 77 (λrb=>#[vP rb,vI kind,.string text]) (.func kind text) (F+1):=by
 intro w rb B d ts r X hp;have hw:iE tO ts (λts=>Zn (Z0 F (.params []) d ts) (Zng F d kind text))=some r:=hp;have HP:=lh X;have tD:=lh hB;simp only;rcases Un hw with⟨hs,h1⟩|⟨hs,rfl⟩
 ·have HC := lh (MN w rb ts d tO X.rd hs);have H1 := lh h1;clear X hp hw hs h1 hB;go_enter func77, ntmps77
  go_wp2_with fail
  refine HC.o.mono ?_;rintro e w1⟨rfl,dB,dc⟩;have P1:=lh (HP.o.tail dB dc);have U:=lh (wj w1 rb 40 ⟨#[]⟩ none 0 0);obtain⟨nb,dl⟩:=zX w1.heap.size
  have G0:=Got.leaf (k:=40) (t:=⟨#[]⟩) (n:=0) HP.o.le dc;have cR:kW w1 (w1.alloc (.cells #[vI 40,.string ⟨#[]⟩,vI 0,.slice none 0 0] 28)):=(Y2 _ _).alloc (Y0 _) _;have R0:=dB.below cR;have F0:=dc.trans (RFr.below (rb:=rb) cR);rw[<-dl]at G0 U;obtain⟨CE,vz⟩:=zX ts.tail
  have pe:CE.length<=ts.length:=by rw[vz];simp
  rw[<-vz]at R0 H1;clear vz;go_wp2_with fail
  refine U.o.mono ?_;rintro e w2⟨rfl,cj⟩;rw[<-cj]at G0 R0 F0;have hst:∃(g:Nat) (aj:List Tree) (us:List Tok) (v:Value) (kids:List ATree),g<=F/\Zn (Z0 g (.params aj) d us) (Zng F d kind text)=some r/\Got w B w2 (.mk nb v 40 ⟨#[]⟩ 0 kids) (.mk 40 ⟨#[]⟩ 0 aj)/\Rd w2 rb us d/\RFr w w2 rb/\aj.length<=8/\us.length<=ts.length:=
   ⟨F,[],CE,_,[],Y0 _,H1.o,G0,R0,F0,by simp,pe⟩
  have ST:=lh hst;have tt:=lh dl;clear hst cj G0 R0 F0 HC U dl dc dB P1 H1 cR pe;go_wp2_with fail
  go_loopw [] (λwr=>∃(g:Nat) (aj:List Tree) (us:List Tok) (v:Value) (kids:List ATree),g<=F/\Zn (Z0 g (.params aj) d us) (Zng F d kind text)=some r/\Got w B wr (.mk nb v 40 ⟨#[]⟩ 0 kids) (.mk 40 ⟨#[]⟩ 0 aj)/\Rd wr rb us d/\RFr w wr rb/\aj.length<=8/\us.length<=ts.length) (λwr=>leftOf wr rb)
  case atStart=>exact ST.o
  case round=>
   obtain⟨g,aj,us,v,kids,hg,hq,hG,Y,hF,hl,hu⟩:=hrel;obtain⟨G,R,FF,RL⟩:=gp hG Y hF Y.left;cases g with
   |zero=>cases hq
   |succ g=>
   rw[Z0]at hq;have m:=SK wr rb us d tQ Y;by_cases hb:ad tQ us=true
   .rw[hb]at m;rw[Y5 hb]at hq;have hq:Zng F d kind text (.mk 40 ByteArray.empty 0 aj) us=some r:=hq;have m:=lh m;have HQ:=lh hq;have HI:=lh hb;unfold tQ at m;clear hG Y hF hq hb ST;go_wp2_with fail
    refine m.o.mono ?_;rintro e w3⟨rfl,hB3⟩;have aA:=HP.o.lt;refine Zsg ?_;intro F3 G3 R3 P3;have HC:=MN w3 rb us d tQ R3 HI.o;unfold tQ at HC;obtain⟨HC,F3,G3,P3⟩:=gp HC F3 G3 P3;obtain⟨_,h3⟩:ad tQ us=true/\Zn (Z0 F (.block true) d us.tail) (λb ts=>fH (.mk kind text 0 [.mk 40 ByteArray.empty 0 aj,b]) ts)=some r:=by
     rcases Un HQ.o with h|⟨hs,_⟩;·exact h
     .rw[HI.o]at hs;cases hs
    have H3:=lh h3;clear hB3 R3 h3 FF G R m HQ;go_wp2_with fail
    refine HC.o.mono ?_;rintro e w4⟨rfl,eM,bg⟩;obtain⟨P4,F4,G4⟩:=ds (P3.o.tail eM bg) (F3.o.trans bg) (G3.o.rfr aA bg);clear eM bg HC F3 G3;rcases Zg H3.o with⟨⟨c,p⟩,Z,rfl⟩|⟨t,iP,Z,h4⟩
    .have HV:=lh (tD.o w4 rb B d _ _ P4.o Z);clear Z;go_wp2_with fail
     refine HV.o.mono ?_;rintro e w5⟨⟨b,rfl,h1,h2⟩,hF⟩;exact V5
    .have HV:=lh (tD.o w4 rb B d _ _ P4.o Z);obtain rfl:=Yc h4;clear Z;go_wp2_with fail
     refine HV.o.mono ?_;rintro e w5⟨a,rfl,IP,mB,eP⟩;obtain⟨G5,R5,F5⟩:=ds IP mB eP;clear IP mB eP HV;have U:=lh (wj (w5.alloc (.cells #[vP nb,vP a.b] 22)) rb kind text (some ⟨w5.heap.size,0,none⟩) 2 2);go_wp2_with fail
     refine U.o.mono ?_;rintro e w6⟨rfl,jL⟩;have am:=Got.two (k:=kind) (t:=text) HP.o.le (F4.o.trans F5.o) (G4.o.rfr aA F5.o) (wA:=w4) (λx hx=>(G4.o.new x hx).2) F4.o.size G5.o;have vA:=((Y2 w5.heap.size w5).alloc (Y0 _) (.cells #[vP nb,vP a.b] 22))
     have jH:Rd w6 rb iP d:=by rw[jL];exact(R5.o.below vA).below ((Y2 _ _).alloc (Y0 _) _)
     have fF:RFr w w6 rb:=by rw[jL];exact((F4.o.trans F5.o).trans (RFr.below vA)).trans (RFr.below ((Y2 _ _).alloc (Y0 _) _))
     obtain⟨ct,tR,R6,F6⟩:=gp am jL jH fF;clear am jL jH fF vA U;go_wp2;go_ret;refine⟨_,?pt,(by rw[tR.o];exact ct.o),R6.o,F6.o⟩;case pt=>simp[ATree.b]
   ·have du : ad tQ us = false := by simpa using hb
    rw[du]at m;rw[Y3 hb]at hq;have m:=lh m;have HQ:=lh hq;unfold tQ at m;refine Zrj ?_;intro aY ft;clear hG Y hF hq hb du ST aY;go_wp2_with fail
    refine m.o.mono ?_;rintro e w3⟨rfl,hB3⟩;have aA:=HP.o.lt;refine Zsg ?_;intro F3 G3 R3 P3;obtain⟨p,cp,rfl⟩:∃p cp,v=.slice p kids.length cp:=by
     exact Zvu
    refine Zy2 ?_;intro ac n3 F3 G3 P3 HU HL;clear hB3 R3 FF G R m ac hu hl;by_cases h0:aj.length=0
    .have a0:decide (0<kids.length)=false:=by have :=ft.o;simp;exact List.eq_nil_of_length_eq_zero Qe
     have I:Zmw g F d kind text aj us=some r:=RB
     have h8:¬aj.length=8:=Qe
     have PQ:=lh (show Pre w3 rb B d us/\us.length<=ts.length from⟨P3.o,HU.o⟩);have GQ:=G3;have FQ:=F3;have PL:=lh (Y0 us.length);clear HQ;have n8:((kids.length:Int)==8)=false:=by have:=ft.o;simp;omega
     have u:=I;unfold Zmw at u;rw[Y3 h8]at u;have u:=lh u;clear I;go_wp2_with fail
     refine Z7 [0,2,4,6,8,10,12,15,17,19,21] [11,12,13] (λW=>vC W nb 3 (.slice p kids.length cp)) n3 λ_=>?_;refine dS ?_
     iterate 7
      refine dq ?_
     refine Ze (λK hK=>?_);go_simp
     have ic:us.length<=ts.length:=PQ.o.2;rcases Zb4 u.o with⟨hk,h1⟩|⟨hk,rfl⟩
     .refine(Vr w3.drew rb us d PQ.o.1.rd.drew hk).mono ?_;rintro e wa⟨rfl,zx,iH⟩;have lu:RFr w3 wa rb:=(RFr.refl w3 rb).drew.trans iH;refine Zv6 ?_;intro rf ac m3;clear hK K;refine Ze (λK hK=>?_);go_simp
      have y:kW wa (wa.alloc (.cells #[vI 23,.string (al us).text,vI 0,.slice none 0 0] 28)):=(Y2 _ _).alloc (Y0 _) _;have hA:=Got.leaf (w0:=wa) (w:=wa) (rb:=rb) (B:=B) (k:=23) (t:=(al us).text) (n:=0) (Y4 HP.o.le (FQ.o.trans lu).size) (RFr.refl _ _);refine(wj wa rb 23 (al us).text none 0 0).mono ?_;rintro e dx⟨rfl,da⟩;rw[<-da]at hA y;have iA:RFr w3 dx rb:=lu.trans (RFr.below y);have fL:=rf.rfr aA (RFr.below (rb:=rb) y);have bI:=zx.below y;refine ui ?_
      intro ac;refine Zon ?_;intro m3;refine Iq ?_;intro mz dm dK aH;have gK:kids.length<=8:=Q0
      obtain⟨a,J⟩:∃a:ATree,a=.mk wa.heap.size (.slice none 0 0) 23 (al us).text 0 []:=⟨_,rfl⟩
      rw[<-J]at hA;have jv:vP wa.heap.size=(vP a.b):=by rw[J];rfl
      rw[jv];clear J jv;refine Tu ?_;intro N3 A3 R3;obtain⟨jD,NE,NA,ni⟩:=gp (FQ.o.trans iA) aH (λx hx=>(rf.new x hx).2) h1;refine vB ?_;intro i0 hi aC bj bJ;clear hK K hA bI iA fL ac dK aH h1 n3 iH lu rf zx y da;refine ub ?_;intro K hK;refine Ach ?_;intro gg cap w4 aU aB bV ca;refine T4 ?_;intro m4;refine vf ?_;clear hK K;intro lX;refine Zy7 ?_;clear aB aU bV ca;intro ct;go_wp2;go_roundw
      case rel=>
       refine⟨g,aj++[.mk 23 (al us).text 0 []],us.tail,.slice (some ⟨gg,0,none⟩) (kids.length+1) cap,kids++[a],by omega,ni.o,?_,ct.o.2.2,ct.o.2.1,by have:=HL.o;simp;omega,by rw[List.length_tail];omega⟩;exact V7
      case measure=>
       exact Zyj
     .refine(WU w3.drew rb us d PQ.o.1.rd.drew hk).mono ?_;exact Zwq
    .have a0:decide (0<kids.length)=true:=by have :=ft.o;simp;omega
     have O:=HQ.o;rw[Y5 Qe]at O;by_cases hc:ad tV us=true
     .have I:Zmw g F d kind text aj us.tail=some r:=by rw[iE,Y5 hc]at O;exact O
      have HC:=MN w3 rb us d tV P3.o.rd hc;unfold tV at HC;have HC:=lh HC;clear O hc HQ;go_wp2_with fail
      refine Zvm ?_;intro iV eM bg PQ GQ FQ PL ac;clear n3;refine Zrk ?_;intro n3;clear eM bg HC ac F3 G3 P3;by_cases h8:aj.length=8
      .have n8:((kids.length:Int)==8)=true:=by have :=ft.o;simp;omega
       have hr:r=.error (4,(al us.tail).at'):=by
        unfold Zmw at I;rw[Y5 h8]at I;exact(Yc I).symm
       subst hr;have HE:=lh (UF iV rb us.tail d 4 PQ.o.1.rd);clear I;go_wp2_with fail
       refine HE.o.mono ?_;exact VR
      .skip
       have n8:((kids.length:Int)==8)=false:=by have:=ft.o;simp;omega
       have u:=I;unfold Zmw at u;rw[Y3 h8]at u;have u:=lh u;clear I;go_wp2_with fail
       refine Z7 [0,2,4,6,8,10,12,15,17,19,21] [11,12,13] (λW=>vC W nb 3 (.slice p kids.length cp)) n3 λ_=>?_;refine dS ?_
       iterate 7
        refine dq ?_
       refine Ze (λK hK=>?_);go_simp
       have ic:us.tail.length<=ts.length:=PQ.o.2;rcases Zb4 u.o with⟨hk,h1⟩|⟨hk,rfl⟩
       .refine(Vr iV.drew rb us.tail d PQ.o.1.rd.drew hk).mono ?_;rintro e wa⟨rfl,zx,iH⟩;have lu:RFr iV wa rb:=(RFr.refl iV rb).drew.trans iH;refine Zv6 ?_;intro rf ac m3;clear hK K;refine Ze (λK hK=>?_);go_simp
        have y:kW wa (wa.alloc (.cells #[vI 23,.string (al us.tail).text,vI 0,.slice none 0 0] 28)):=(Y2 _ _).alloc (Y0 _) _;have hA:=Got.leaf (w0:=wa) (w:=wa) (rb:=rb) (B:=B) (k:=23) (t:=(al us.tail).text) (n:=0) (Y4 HP.o.le (FQ.o.trans lu).size) (RFr.refl _ _);refine(wj wa rb 23 (al us.tail).text none 0 0).mono ?_;rintro e dx⟨rfl,da⟩;rw[<-da]at hA y;have iA:RFr iV dx rb:=lu.trans (RFr.below y);have fL:=rf.rfr aA (RFr.below (rb:=rb) y);have bI:=zx.below y
        refine ui ?_;intro ac;refine Zon ?_;intro m3;refine Iq ?_;intro mz dm dK aH;have gK:kids.length<=8:=Q0
        obtain⟨a,J⟩:∃a:ATree,a=.mk wa.heap.size (.slice none 0 0) 23 (al us.tail).text 0 []:=⟨_,rfl⟩
        rw[<-J]at hA;have jv:vP wa.heap.size=(vP a.b):=by rw[J];rfl
        rw[jv];clear J jv;refine Tu ?_;intro N3 A3 R3;obtain⟨jD,NE,NA,ni⟩:=gp (FQ.o.trans iA) aH (λx hx=>(rf.new x hx).2) h1;refine vB ?_;intro i0 hi aC bj bJ;clear hK K hA bI iA fL ac dK aH h1 n3 iH lu rf zx y da;refine ub ?_;intro K hK;refine Ach ?_;intro gg cap w4 aU aB bV ca;refine T4 ?_;intro m4;refine vf ?_;clear hK K;intro lX;refine Zy7 ?_;clear aB aU bV ca;intro ct;go_wp2;go_roundw
        case rel=>
         refine⟨g,aj++[.mk 23 (al us.tail).text 0 []],us.tail.tail,.slice (some ⟨gg,0,none⟩) (kids.length+1) cap,kids++[a],by omega,ni.o,?_,ct.o.2.2,ct.o.2.1,by have:=HL.o;simp;omega,by rw[List.length_tail];omega⟩;exact V7
        case measure=>
         exact Zyj
       .refine(WU iV.drew rb us.tail d PQ.o.1.rd.drew hk).mono ?_;exact Zwq
     .have hr:r= .error (3,(al us).at'):=by rw[iE,Y3 hc]at O;exact(Yc O).symm
      subst hr;have HC:=Tz w3 rb us d tV P3.o.rd (by simpa using hc);unfold tV at HC;have HC:=lh HC;clear O hc HQ;exact Zw2
 .have HC:=lh (Tz w rb ts d tO X.rd hs);clear X hp hw hs;go_enter func77,ntmps77
  exact V4
def Zl8(F:Nat)(hS:∀g,g<F->ay 42 bO .stmt g) :
 ay 13 (λrb=>#[vP rb,vI 1,.string ⟨#[]⟩]) (.stmts 1 []) F:=by
 intro w rb B d ts r m hp;obtain⟨J,HP,HQ,HS⟩:=gp (wj w rb 1 ⟨#[]⟩ none 0 0) m hp hS;refine D8 ?_;intro iT;obtain⟨nb,O⟩:=zX w.heap.size
 have u:=Got.leaf (k:=1) (t:=⟨#[]⟩) (n:=0) m.le (RFr.refl w rb);have U:=m.rd.below ((Y2 _ _).alloc (Y0 _) (.cells #[vI 1,.string ⟨#[]⟩,vI 0,.slice none 0 0] 28));have X:RFr w (w.alloc (.cells #[vI 1,.string ⟨#[]⟩,vI 0,.slice none 0 0] 28)) rb:=RFr.below ((Y2 _ _).alloc (Y0 _) _);rw[<-O]at u J;clear m hp hS;simp only;go_enter func13,ntmps13
 go_wp2_with fail
 refine J.o.mono ?_;rintro e w1⟨rfl,dU⟩;rw[<-dU]at u U X;have hst:∃(g:Nat) (aj:List Tree) (us:List Tok) (v:Value) (kids:List ATree),g<=F/\Z0 g (.stmts 1 aj) d us=some r/\Got w B w1 (.mk nb v 1 ⟨#[]⟩ 0 kids) (.mk 1 ⟨#[]⟩ 0 aj)/\Rd w1 rb us d/\RFr w w1 rb/\aj.length+us.length<=ts.length/\(∀x∈aj,x.kind=15->x.kids≠[]):=
  ⟨F,[],ts,_,[],Y0 _,HQ.o,u,U,X,by simp,λx hx=>by cases hx⟩
 have Y:=lh hst;have tt:=lh O;clear hst dU u U X J O;go_wp2_with fail
 go_loopw [] (λwr=>∃(g:Nat) (aj:List Tree) (us:List Tok) (v:Value) (kids:List ATree),g<=F/\Z0 g (.stmts 1 aj) d us=some r/\Got w B wr (.mk nb v 1 ⟨#[]⟩ 0 kids) (.mk 1 ⟨#[]⟩ 0 aj)/\Rd wr rb us d/\RFr w wr rb/\aj.length+us.length<=ts.length/\(∀x∈aj,x.kind=15->x.kids≠[])) (λwr=>leftOf wr rb)
 case atStart=>exact Y.o
 case round=>
  obtain⟨g,aj,us,v,kids,hg,hq,Z,hR,hF,hl,hx⟩:=hrel;obtain⟨G,R,FF,HX,RL⟩:=gq Z hR hF hx hR.left;cases g with
  |zero=>cases hq
  |succ g=>
  rw[Z0]at hq;obtain⟨tb,off,O8,y⟩:=hR;have c0:=y.c0;have k0:=y.hd (j:=0) (x:=(vI (al us).kind)) rfl;rw[Nat.add_zero]at k0;have IQ:=y.pos;clear y;by_cases hb:(al us).kind=6
  .have nk:((al us).kind !=6)=false:=by simp[hb]
   rw[Y5 (by rw[Y5 rfl];simpa using hb)]at hq;have hr:=Yc hq;have tF:=lh hr.symm;clear Z hF hq hr hb hx Y;have ar:kW wr wr:=Y2 _ _;refine Zyh ?_;intro aA F2 G2 R2 ac ae;have I:wr.cell? ⟨nb,3,none⟩=some v:=Qk
   have nz:wr.frozen? ⟨nb,1,none⟩=false:=QN
   have Mh:wr.cell? ⟨nb,1,none⟩=some (.string ⟨#[]⟩):=Qk
   have mg:=G2.o.tree;simp only[ATree.tree,Tree.mk.injEq,true_and]at mg;have qc:Tx aj=false->mA w rb B d r (.returned (vP nb)) wr:=λh=>by
    rw[tF.o,h];exact⟨_,rfl,G2.o,R2.o,F2.o⟩
   have pO:=lh qc;have qd:Tx aj=true->mA w rb B d r (.returned (vP nb)) (wr.setCell ⟨nb,1,none⟩ (.string LA)):=λh=>by
    exact Zyb
   have yJ:=lh qd;have kR:=lh mg;have bN:∀a∈kids,TreeAt wr B a:=λa ha=>G2.o.at'.kid (k:=a) ha;have jX:=lh bN;clear ar ac qc qd mg bN FF G R;cases kids with
   |nil=>
     exact Zzf
   |cons a0 ks=>
     rcases Z4 ae with⟨_,h0⟩|⟨g0,gB,rfl,k1,k2,k3⟩;·simp at h0
     refine Zyz ?_;intro p0 rQ hb0 pG lx;obtain⟨b0,v0,xL,t0,n0,l0⟩:=a0;simp only[ATree.b,ATree.v,ATree.kind,ATree.text,ATree.n,ATree.kids,ATree.ptr,List.length_cons]at hb0 pG p0 k1 I ⊢;unfold maxLen at k2;have d0:wr.cell? ⟨b0,0,none⟩=some (vI xL):=Ro
     have d3:wr.cell? ⟨b0,3,none⟩=some v0:=Ro
     by_cases xM:xL=15
     .subst xM;cases l0 with
      |nil=>exact absurd rfl (lx rfl)
      |cons x xs=>
      rcases Z4 pG with⟨_,h0⟩|⟨g1,Ew,rfl,j1,j2,j3⟩;·simp at h0
      have p1:=Zq pG (g:=g1) rfl (i:=0) (x:=x.ptr) rfl;have ai:=(rQ.kid (k:=x) (by simp[ATree.kids])).blkOf;obtain⟨b1,v1,xJ,t1,n1,l1⟩:=x;simp only[ATree.b,ATree.v,ATree.kind,ATree.text,ATree.n,ATree.ptr,List.length_cons]at ai p1 j1 d3;unfold maxLen at j2;have e0:wr.cell? ⟨b1,0,none⟩=some (vI xJ):=Rz
      have e1:wr.cell? ⟨b1,1,none⟩=some (.string t1):=Rz
      exact Ab6
     .exact Zxa
  .have nk:((al us).kind !=6)=true:=by simpa using hb
   rw[Y3 (by rw[Y5 rfl];simpa using hb)]at hq;have ci:=lh hq;clear Z hF hq hb hx Y;have ar:kW wr wr:=Y2 _ _;have F2:=FF.o.trans (RFr.below (rb:=rb) ar);have G2:=G.o.rfr HP.o.lt (RFr.below (rb:=rb) ar);have R2:=R.o.below ar;have I:wr.cell? ⟨nb,3,none⟩=some v:=QD
   obtain⟨F2,G2,R2⟩:=ds F2 G2 R2;clear ar FF G R;go_wp2_with fail
   refine Z7 [0,2,4,6,8,10,12,14,17,19,21] [11,12,13] (λW=>vC W nb 3 v) I λ_=>?_;refine dS ?_
   iterate 8
    refine dq ?_
   refine Ze (λK hK=>?_);go_simp
   have aA:=HP.o.lt;have qe:RFr wr wr.drew rb:=(RFr.refl wr rb).drew;have ic:us.length<=4000:=Sf
   have su:B<=wr.drew.heap.size:=Y4 HP.o.le F2.o.size;rcases Zg ci.o with⟨⟨c,p⟩,hv,rfl⟩|⟨t,vs,hv,gO⟩
   .refine(WY wr.drew rb B us d _ _ R2.o.drew Ry aA hv λhd h1 w1 dB hs=>HS.o g Qe w1 rb B (d+1) us _ ⟨dB,hd,aA,by omega,ic⟩ h1).mono ?_;exact Zy9
   .have dr:vs.length<us.length:=Leaves.within (Ts g .stmt (d+1) us) t vs hv;have pH:t.kind=15->t.kids≠[]:=by
     exact Xq
    have Ih:=lh pH;have ni:=lh gO;refine(WY wr.drew rb B us d _ _ R2.o.drew Ry aA hv λhd h1 w1 dB hs=>HS.o g Qe w1 rb B (d+1) us _ ⟨dB,hd,aA,by omega,ic⟩ h1).mono ?_;rintro e w3⟨a,rfl,hA,bI,bh⟩;have iA:RFr wr w3 rb:=qe.trans bh;have fL:=G2.o.rfr aA iA;refine ui ?_;intro ac;have m3:w3.cell? ⟨nb,3,none⟩=some v:=Qk
    refine UM ?_;intro mz dm;refine Wt ?_;intro dK;refine WQ ?_;intro aH aY gK;refine Tu ?_;intro N3 A3 R3;obtain⟨F3,NE,ft⟩:=ds (F2.o.trans iA) aH aY;refine vB ?_;intro i0 hi aC bj bJ;clear hK K hA bI bh iA fL ac dK aH pH gO hv aY I qe;refine ub ?_;intro K hK;refine Acc ?_;intro gg cap w4 aU aB bV ca m4;refine vf ?_;clear hK K;intro lX
    have am:=Got.push aA HP.o.le N3.o (wA:=wr.drew) (λx hx=>(G2.o.new x hx).2) A3.o F3.o R3.o ((Y2 _ _).alloc (Y0 _) _) aB aU (bV.imp id λh=>by omega) ca;exact tr7
def Ut(a:ATree)(l:List kB):List kB:=if a.kind==2 then lw l a.text else l
def Zhz(a:ATree)(l:List kB):tU Cv a l=cond (WH a) (Ut a l) (oB Cv a.kids (Ut a l)):=by
 rw[Z9g];have g:(Cv l a).1=!WH a:=rfl;have m:(Cv l a).2=Ut a l:=rfl;rw[m];cases hi:WH a with
 |true=>rw[Y3 (by rw[g,hi];decide)];rfl
 |false=>rw[Y5 (by rw[g,hi];rfl)];rfl
def Xv{a b:ATree}(h:a.tree=b.tree):a.kind=b.kind/\a.text=b.text/\a.n=b.n/\f6 a.kids=f6 b.kids:=by
 cases a;cases b;simp only[ATree.tree,Tree.mk.injEq]at h;exact h
mutual
theorem Z9n:∀a:ATree,(a.subs.map ATree.b).Sublist a.blocks
 | .mk b v k t n g=>by
   simp only[ATree.subs,List.map_cons,ATree.b,ATree.blocks];exact List.Sublist.cons_cons _ ((Z99 g).trans (by first|exact List.Sublist.refl _|exact List.sublist_append_right _ _))
theorem Z99:∀l:List ATree,((nc l).map ATree.b).Sublist (x6 l)
 | []=>by simp[nc]
 |a::l=>by
   simp only[nc,x6,List.map_append];exact List.Sublist.append (Z9n a) (Z99 l)
end
theorem Got.apart{w w':kV}{B:Nat}{a:ATree}{t:Tree}(h:Got w B w' a t):(a.subs.map ATree.b).Nodup:=h.nodup.sublist (Z9n a)
def XL(l:List (Nat×Nat)):Prop:=∀(i:Nat) (x:Nat×Nat),l[i]?=some x->x.2=i
def XL.push{l:List (Nat×Nat)}(h:XL l)(b:Nat):XL (l++[(b,l.length)]):=by
 intro i x hx;rcases Nat.lt_or_ge i l.length with hi|hi
 .rw[List.getElem?_append_left hi]at hx;exact h i x hx
 .rw[List.getElem?_append_right hi]at hx;cases hd:i-l.length with
  |zero=>
    rw[hd]at hx;simp only[List.getElem?_cons_zero,Option.some.injEq]at hx;rw[<-hx];simp only;omega
  |succ n=>rw[hd]at hx;simp at hx
mutual
theorem Z8m:∀(a:ATree) (l:List (Nat×Nat)),XL l->XL (tU lQ a l)
 | .mk b v k t n g,l,h=>by
   simp only[tU,lQ,if_true];exact Zb2 g _ (h.push _)
theorem Zb2:∀(g:List ATree) (l:List (Nat×Nat)),XL l->XL (oB lQ g l)
 | [],l,h=>by simpa[oB]using h
 |a::g,l,h=>by
   simp only[oB];exact Zb2 g _ (Z8m a l h)
end
def numOf(a:ATree)(b:Nat):Nat:=(a.subs.map ATree.b).idxOf b
def Ze9(a x:ATree)(hx:x∈a.subs):(x.b,numOf a x.b)∈tU lQ a []:=by
 have hk:=Z9f a [];simp only[List.map_nil,List.nil_append]at hk;have hp:=Z8m a [] (λi x h=>by simp at h);have o:x.b∈a.subs.map ATree.b:=List.mem_map.2 ⟨x,hx,rfl⟩;have hi:numOf a x.b<(a.subs.map ATree.b).length:=List.idxOf_lt_length_of_mem o;have hl:numOf a x.b<(tU lQ a []).length:=by rw[<-hk,Ym]at hi;exact hi
 obtain⟨y,g⟩:∃y,(tU lQ a [])[numOf a x.b]?=some y:=⟨_,Y6 hl⟩
 have p:=hp _ _ g;have m:(a.subs.map ATree.b)[numOf a x.b]?=some y.1:=by rw[<-hk,Yg,g];rfl
 have u:(a.subs.map ATree.b)[numOf a x.b]?=some x.b:=by
  exact(Y6 hi).trans (congrArg some (List.getElem_idxOf hi))
 rw[u]at m;have F:y=(x.b,numOf a x.b):=Prod.ext (Yc m).symm p;rw[<-F];exact Yd g
mutual
theorem Zkd:∀(a b:ATree),a.tree=b.tree->∀l,tU Cv a l=tU Cv b l
 | .mk b1 p g t1 u m,.mk b2 v2 I t2 y o,h,l=>by
   simp only[ATree.tree,Tree.mk.injEq]at h;obtain⟨rfl,rfl,_,h⟩:=h;rw[Zhz,Zhz];have F:WH (.mk b1 p g t1 u m)=WH (.mk b2 v2 g t1 y o):=rfl;have G:Ut (.mk b1 p g t1 u m) l=Ut (.mk b2 v2 g t1 y o) l:=rfl;rw[F,G];simp only[ATree.kids];rw[Z7r m o h]
theorem Z7r:∀(g m:List ATree),f6 g=f6 m->∀l,oB Cv g l=oB Cv m l
 | [],[],_,l=>rfl
 | [],_::_,h,_=>by simp[f6]at h
 |_::_,[],h,_=>by simp[f6]at h
 |a::g,b::m,h,l=>by
   simp only[f6,List.cons.injEq]at h;simp only[oB];rw[Zkd a b h.1,Z7r g m h.2]
end
theorem Zca{a b:ATree}(h:a.tree=b.tree):yi a=yi b:=Z7r _ _ (Xv h).2.2.2 _
theorem XH(p:ATree->Bool)(hp:∀a b:ATree,a.kind=b.kind->p a=p b):∀(g m:List ATree),f6 g=f6 m->(g.filter p).map ATree.text=(m.filter p).map ATree.text
 | [],[],_=>rfl
 | [],_::_,h=>by simp[f6]at h
 |_::_,[],h=>by simp[f6]at h
 |a::g,b::m,h=>by
   simp only[f6,List.cons.injEq]at h;have o:=XH p hp g m h.2;obtain⟨u,y,_,_⟩:=Xv h.1;have F:=hp a b u;simp only[List.filter_cons];rw[F];split;·simp only[List.map_cons,o,y]
   .exact o
theorem Z9y(a b:ATree)(h:a.kind=b.kind):xp a=xp b:=by unfold xp;rw[h]
theorem Z8v(a b:ATree)(h:a.kind=b.kind):vV a=vV b:=by unfold vV;rw[h]
def Z8j(l:List kB)(g:List ATree):xZ l g=(g.map ATree.text).foldl lw l:=by
 unfold xZ;rw[List.foldl_map]
def Zhh{a b:ATree}(h:a.tree=b.tree)(body:Bool):JK body a=JK body b:=by
 have hk:=(Xv h).2.2.2;unfold JK;rw[Z8j,Z8j,Z8j,Z8j,XH xp Z9y _ _ hk,XH vV Z8v _ _ hk,Zca h]
def Zx.parts{w:kV}{B:Nat}{v:Value}{l:List kB}(h:Zx w B v l):∃p o,v=.slice p l.length o/\l.length<=o/\o<=9223372036854775807:=by
 rcases h.form with⟨u,m⟩|⟨g,cap,u,m,y⟩;·exact⟨none,0,by rw[u,m];rfl,by rw[m];exact Y0 _,by omega⟩
 .unfold maxLen at y;exact⟨_,_,u,m,by omega⟩
def YQ:kB:=⟨#[101,118,97,108]⟩
def Zc5{w2:kV}{B:Nat}{v2:Value}{l:List kB}{s:kB}(h:w2.ownsRow B 9 1 v2 (l.length+1) (l.map Value.string++[.string s])):Zx w2 B v2 (l++[s]):=by
 unfold Zx;rw[Yi,Yl];exact h
def YH:kB:=⟨#[97,114,103,117,109,101,110,116,115]⟩
def LC(st:Bool)(s:kB):Bool:=st&&(Zh s YQ||Zh s YH)
def XK:List kB->List kB->Bool
 |_,[]=>false
 |seen,s::l=>Lib.containsS seen s||XK (seen++[s]) l
def XS(lets vars:List kB)(body:Bool):List kB->List kB->Bool
 |_,[]=>false
 |prev,s::l=>Lib.containsS lets s||(!body&&(prev.any (λo=>Zh o s)||Lib.containsS vars s))||XS lets vars body (prev++[s]) l
def SP(a:ATree):List kB:=(a.kids.filter vV).map ATree.text
def Zbz(a:ATree):List kB:=(a.kids.filter xp).map ATree.text
def EP(a:ATree)(body:Bool):Bool:=
 XK [] (SP a)||XS (SP a) (yi a) body [] (Zbz a)||(yi a).any (λs=>Lib.containsS (SP a) s)
def T5(a:ATree):Bool:=!(a.kind==3)&& !(a.kind==4)&& !(a.kind==5)
def Vx(st:Bool):List kB->List kB->Int
 |_,[]=>0
 |seen,s::l=>if LC st s then 5 else if st&&Lib.containsS seen s then 9 else Vx st (seen++[s]) l
def Vz(st:Bool)(t:kB)(ps:List kB)(bd:ATree):Int:=
 if LC st t then 5 else if Vx st [] ps≠0 then Vx st [] ps else if(SP bd).any (λs=>Lib.containsS ps s)then 9 else if EP bd true then 9 else 0
mutual
def qL:ATree→Bool→Bool→Int
 | .mk b v k t n g,st,ins=>
   if k=2\/k=3\/k=4\/k=13 then
    (if LC st t then 5 else if k=13/\(match g with|x::_=>(JK false x).any (λs=>Zh s t)| []=>false)=true then 9 else qy g st ins)
   else if k=5\/k=37 then(match g with
    |ps:: .mk b2 v2 o t2 p m::_=>
      (if Vz (st||Zj (.mk b2 v2 o t2 p m)) t (ps.kids.map ATree.text) (.mk b2 v2 o t2 p m)≠0 then Vz (st||Zj (.mk b2 v2 o t2 p m)) t (ps.kids.map ATree.text) (.mk b2 v2 o t2 p m)
      else qy m (st||Zj (.mk b2 v2 o t2 p m)) true)
    |_=>0)
   else if k=6 then(if EP (.mk b v k t n g) false then 9 else qy g st ins)
   else if k=7\/k=8\/k=9 then(if(k==9&&st)||(g.drop 1).any (λx=>!T5 x)then 1 else qy g st ins)
   else if k=10 then(if ins then qy g st ins else 6)
   else if k=24 then(if(match g with|x::_=>x.kind==23&&LC st x.text| []=>false)=true then 5 else qy g st ins)
   else if k=34 then(if(match g with|x::_=>st&&x.kind==23| []=>false)=true then 1 else qy g st ins)
   else qy g st ins
def qy:List ATree->Bool->Bool->Int
 | [],_,_=>0
 |a::l,st,ins=>if qL a st ins≠0 then qL a st ins else qy l st ins
end
def AO(a:ATree)(st ins:Bool):Int:=
 if EP a true then 9 else qy a.kids (st||Zj a) ins
def Z7u{a b:ATree}(h:a.tree=b.tree)(body:Bool):EP a body=EP b body:=by
 have hk:=(Xv h).2.2.2;have g:SP a=SP b:=XH vV Z8v _ _ hk;have m:Zbz a=Zbz b:=XH xp Z9y _ _ hk;unfold EP;rw[g,m,Zca h]
theorem Zhq:∀(l m:List ATree),f6 l=f6 m->l.any (λx=>!T5 x)=m.any (λx=>!T5 x)
 | [],[],_=>rfl
 | [],_::_,h=>by simp[f6]at h
 |_::_,[],h=>by simp[f6]at h
 |a::l,b::m,h=>by
   simp only[f6,List.cons.injEq]at h;have e:T5 a=T5 b:=by unfold T5;rw[(Xv h.1).1]
   simp only[List.any_cons,e,Zhq l m h.2]
def Zjw(l m:List ATree)(h:f6 l=f6 m):l.map ATree.text=m.map ATree.text:=by
 have:=XH (λ_=>true) (λ_ _ _=>rfl) _ _ h;rwa[List.filter_eq_self.2 (λ_ _=>rfl),List.filter_eq_self.2 (λ_ _=>rfl)]at this
theorem Z76{m:Nat}(p:∀(a b:ATree) (st ins:Bool),a.many<=m->a.tree=b.tree->qL a st ins=qL b st ins) :
 ∀(g o:List ATree) (st ins:Bool),x4 g<=m->f6 g=f6 o->qy g st ins=qy o st ins
 | [],[],_,_,_,_=>rfl
 | [],_::_,_,_,_,h=>by simp[f6]at h
 |_::_,[],_,_,_,h=>by simp[f6]at h
 |a::g,b::o,st,ins,u,h=>by
   simp only[f6,List.cons.injEq]at h;simp only[x4]at u;unfold qy;rw[p a b st ins Qe h.1,Z76 p g o st ins Qe h.2]
theorem Zbw:∀(m:Nat) (a b:ATree) (st ins:Bool),a.many<=m->a.tree=b.tree->qL a st ins=qL b st ins
 |0,a,_,_,_,h,_=>by cases a;simp[ATree.many]at h
 |m+1,.mk b1 v1 k t n1 p,.mk b2 v2 k2 t2 n2 J,st,ins,Y,h=>by
   have O:=Zbw m;have hs:=Z7u h false;simp only[ATree.tree,Tree.mk.injEq]at h;obtain⟨rfl,rfl,_,g⟩:=h;have o:x4 p<=m:=by simp only[ATree.many]at Y;omega
   have U:=Z76 O p J st ins o g;rw[qL.eq_def,qL.eq_def];simp only[];rw[U,hs];clear U hs;match p,J,o,g with
   | [],[],_,_=>rfl
   | [],_::_,_,h=>simp[f6]at h
   |_::_,[],_,h=>simp[f6]at h
   |x::r,y::s,o,g=>
     simp only[f6,List.cons.injEq]at g;obtain⟨Z,e2,_,e4⟩:=Xv g.1;have e5:=Zhq r s g.2;simp only[List.drop_succ_cons,List.drop_zero];simp only[Zhh g.1 false,e5,Z,e2];match r,s,o,g.2 with
     | [],[],_,_=>rfl
     | [],_::_,_,h=>simp[f6]at h
     |_::_,[],_,h=>simp[f6]at h
     | .mk c1 w1 u F X lc::r,.mk c2 w2 kd td nd I::s,o,h5=>
       simp only[f6,List.cons.injEq]at h5;have hb:=h5.1;have aM:=Z7u hb true;have hl:SP (.mk c1 w1 u F X lc)=SP (.mk c2 w2 kd td nd I):=XH vV Z8v _ _ (Xv hb).2.2.2;simp only[ATree.tree,Tree.mk.injEq]at hb;obtain⟨rfl,rfl,_,e6⟩:=hb;have hst:Zj (.mk c1 w1 u F X lc)=Zj (.mk c2 w2 u F nd I):=rfl;simp only[x4,ATree.many]at o;have pg:=λst ins=>Z76 O lc I st ins Qe e6;simp only[];unfold Vz;simp only[hst,aM,hl,pg,Zjw _ _ e4]
def Za8{a b:ATree}(h:a.tree=b.tree)(st ins:Bool):AO a st ins=AO b st ins:=by
 obtain⟨g,m,_,o⟩:=Xv h;have hst:Zj a=Zj b:=by unfold Zj;rw[g,m]
 unfold AO;rw[Z7u h true,hst,Z76 (Zbw (x4 a.kids)) _ _ _ _ (Y0 _) o]
inductive NT
 |mk(num kind:Int)(text:kB)(n:Int)(kids:List NT)
def NT.num:NT->Int| .mk i _ _ _ _=>i
def NT.kind:NT->Int| .mk _ k _ _ _=>k
def NT.text:NT->kB| .mk _ _ t _ _=>t
def NT.n:NT->Int| .mk _ _ _ n _=>n
def NT.kids:NT->List NT| .mk _ _ _ _ l=>l
def NT.zero:NT:=.mk (-3) 0 ⟨#[]⟩ 0 []
def NT.kid(x:NT)(i:Nat):NT:=x.kids.getD i NT.zero
mutual
def NT.tree:NT->Tree
 | .mk _ k t n l=>.mk k t n (qa l)
def qa:List NT->List Tree
 | []=>[]
 |a::l=>a.tree::qa l
end
mutual
def ATree.nt(N:Nat->Int):ATree->NT
 | .mk b _ k t n l=>.mk (N b) k t n (O5 N l)
def O5(N:Nat->Int):List ATree->List NT
 | []=>[]
 |a::l=>a.nt N::O5 N l
end
mutual
def Tree.bare:Tree->NT
 | .mk k t n l=>.mk (-3) k t n (Zkn l)
def Zkn:List Tree->List NT
 | []=>[]
 |a::l=>a.bare::Zkn l
end
mutual
def Tree.a:Tree->ATree
 | .mk k t n l=>.mk 0 .nilIface k t n (Zqn l)
def Zqn:List Tree->List ATree
 | []=>[]
 |a::l=>a.a::Zqn l
end
mutual
def YJ:NT->List kB->List kB
 | .mk _ k t _ l,g=>if k=5\/k=37 then g else Tn l (if k=2 then lw g t else g)
def Tn:List NT->List kB->List kB
 | [],g=>g
 |x::l,g=>Tn l (YJ x g)
end
def NT.vars(x:NT):List kB:=Tn x.kids []
def NT.funcs(x:NT):List NT:=x.kids.filter λk=>k.kind==5
def NT.lets(x:NT):List NT:=x.kids.filter λk=>k.kind==3||k.kind==4
def NT.names(body:Bool)(x:NT):List kB:=(x.lets.map NT.text).foldl lw ((x.funcs.map NT.text).foldl lw (if body then x.vars else[]))
def NT.strict(x:NT):Bool:=Zh x.text LA&&(x.kind==1||x.kind==6)
def NT.check(x:NT)(st ins:Bool):Int:=AO x.tree.a st ins
structure Clo where
 node:NT
 scope:Int
 strict:Bool
structure Frm where
 strict:Bool
 vars:Int
inductive Er
 |stop
 |thr(v:LVal)
structure MSt where
 H:LHeap
 log:List kB
 steps:Int
 seen:List (Int×Int)
 owners:List Int
 clos:List Clo
 glob:Int
 outer:Int
 top:Int
 calls:Int
 last:LVal
abbrev RM(α:Type):=MSt->MSt×Except Er α
section
variable {α β:Type}
def ga(a:α):RM α:=λs=>(s,.ok a)
def uC(e:Er):RM α:=λs=>(s,.error e)
def LVal.say(t:kB):LVal:=⟨4,0,t⟩
def LVal.is(b:Bool):LVal:=⟨2,if b then 1 else 0,⟨#[]⟩⟩
def LVal.num(n:Int):LVal:=⟨3,n,⟨#[]⟩⟩
def LVal.ref(n:Int):LVal:=⟨5,n,⟨#[]⟩⟩
def va(t:kB):RM α:=uC (.thr (.say t))
def iC(m:RM α)(k:α->RM β):RM β:=λs=>match m s with
 |(s1,.ok a)=>k a s1
 |(s1,.error e)=>(s1,.error e)
end
def T8:kB:=⟨#[114,101,102,101,114,101,110,99,101]⟩
def xn:kB:=⟨#[116,121,112,101]⟩
def Ul:kB:=⟨#[114,97,110,103,101]⟩
def SQ:kB:=⟨#[115,121,110,116,97,120]⟩
def UB:kB:=⟨#[101,118,97,108]⟩
def Jk:kB:=⟨#[112,114,105,110,116]⟩
def Zc:kB:=⟨#[97,114,103,117,109,101,110,116,115]⟩
def ZV:kB:=⟨#[108,101,110,103,116,104]⟩
def Ze2:kB:=⟨#[98,111,111,108,101,97,110]⟩
def Zht:kB:=⟨#[110,117,109,98,101,114]⟩
def Zhn:kB:=⟨#[115,116,114,105,110,103]⟩
def LHeap.objectOf(H:LHeap)(n:Int):Int:=match H.scope? n with|some s=>s.object|none=>-1
def LHeap.outerOf(H:LHeap)(n:Int):Int:=match H.scope? n with|some s=>s.outer|none=>-1
def LHeap.kindOf(H:LHeap)(n:Int)(name:kB):Int:=
 match H.scope? n with
 |none=>-1
 |some s=>if 0<=s.object then -1 else match(s.idx name).bind λk=>s.names[k]? with
   |none=>-1
   |some b=>b.kind
namespace MSt
variable (s:MSt)
def setH(H:LHeap):MSt:={s with H:=H}
def next:Int:=s.H.scopes.length
def nextO:Int:=s.H.objects.length
def opens(outer object owner:Int):MSt:={s with H:={s.H with scopes:=s.H.scopes++[⟨outer,object,[]⟩]},owners:=s.owners++[owner]}
def object(code:Int):MSt:=s.setH {s.H with objects:=s.H.objects++[⟨[],code⟩]}
def declare(sc:Int)(name:kB)(kind:Int)(v:LVal):MSt:=s.setH (s.H.declare sc name kind v).1
def put(o:Int)(name:kB)(v:LVal)(fixed:Bool):MSt:=s.setH (s.H.put o name v fixed).1
def write(sc:Int)(name:kB)(v:LVal):MSt:=s.setH (s.H.write sc name v).1
def bindTo(sc:Int)(name:kB)(v:LVal):MSt:=if(s.H.declare sc name 0 v).2=0 then s.declare sc name 0 v else s.write sc name v
def loose(sc:Int)(name:kB):MSt:=
 if s.H.has sc name then s else if 0<=s.H.objectOf sc then s.put (s.H.objectOf sc) name LVal.zero false else s.declare sc name 4 LVal.zero
def lets(l:List NT)(sc:Int):MSt:=l.foldl (λs k=>s.declare sc k.text (if k.kind=4 then 2 else 1) LVal.zero) s
end MSt
def NT.named(x:NT):Bool:=x.kind==37&& !Zh x.text ⟨#[]⟩
namespace MSt
variable (s:MSt)
def funS(n:NT)(sc:Int)(fr:Frm):MSt:=
 let s1:=if n.named then s.opens sc (-1) n.num else s
 let g:=if n.named then s.next else sc
 let m:=({s1 with clos:=s1.clos++[⟨n,g,fr.strict||(n.kid 1).strict⟩]}:MSt).object (3+s.clos.length)
 if n.named then m.declare g n.text 3 (.ref s.nextO)else m
def funcs(p:MSt->kB->MSt)(g:MSt->kB->LVal->MSt)(l:List NT)(sc:Int)(fr:Frm):MSt:=
 l.foldl (λs k=>g ((p s k.text).funS k sc fr) k.text (.ref (p s k.text).nextO)) s
def look(n:NT)(sc:Int)(name:kB):MSt:=
 if 0<=n.num/\0<=s.H.find sc name then{s with seen:=s.seen++[(n.num,s.owners.getD (s.H.find sc name).toNat 0)]}else s
end MSt
def Uf(at':Int)(name:kB)(v:LVal)(fr:Frm):RM Unit:=λs=>
 if at'<0\/s.H.has at' name=false then
  if fr.strict then va T8 s
  else ga () (s.put (if 0<=at'/\0<=s.H.objectOf at' then s.H.objectOf at' else s.glob) name v false)
 else
  let s1:=s.write at' name v
  let c:=(s.H.write at' name v).2
  if c=6 then va T8 s1 else if c=1 then va xn s1 else if c=5/\fr.strict=true then va xn s1 else ga () s1
abbrev VF:=NT->Int->Frm->RM LVal
abbrev DF:=NT->Int->Frm->RM (Bool×LVal)
def Zox(n:NT)(sc:Int):RM LVal:=λs=>
 if s.H.find sc n.text<0 then va T8 (s.look n sc n.text)
 else if(s.H.read (s.H.find sc n.text) n.text).2≠0 then va T8 (s.look n sc n.text)
 else ga (s.H.read (s.H.find sc n.text) n.text).1 (s.look n sc n.text)
def vu(V:VF)(n:NT)(sc:Int)(fr:Frm):RM LVal:=
 if(n.kid 0).kind=23 then λs=>
  iC (V (n.kid 1) sc fr) (λv=>iC (Uf (s.H.find sc (n.kid 0).text) (n.kid 0).text v fr) λ_=>ga v) (s.look (n.kid 0) sc (n.kid 0).text)
 else iC (V ((n.kid 0).kid 0) sc fr) λo=>iC (V (n.kid 1) sc fr) λv=>
  if o.kind=5 then λs=>ga v (s.put o.n (n.kid 0).text v false)else va xn
def S'(V:VF)(x:NT)(sc:Int)(fr:Frm):RM LVal:=
 if x.kind=23 then λs=>
  if s.H.find sc x.text<0 then ga (.is true) s else ga (.is (s.H.drop (s.H.find sc x.text) x.text).2) (s.setH (s.H.drop (s.H.find sc x.text) x.text).1)
 else if x.kind=36 then iC (V (x.kid 0) sc fr) λo=>
  if o.kind=5 then λs=>
   let s1:=s.setH (s.H.cut o.n x.text).1
   if(s.H.cut o.n x.text).2 then ga (.is true) s1 else if fr.strict then va xn s1 else ga (.is false) s1
  else va xn
 else iC (V x sc fr) λ_=>ga (.is true)
def LVal.same(a b:LVal):Bool:=decide (a.kind=b.kind)&&(decide (a.n=b.n)&&Zh a.s b.s)
def Vp(n:Int):RM LVal:=if 1000000000<n\/n< -1000000000 then va Ul else ga (.num n)
def Zpn(a b:kB):Bool:=decide (a.toList<b.toList)
def Wc(kind:Int)(a b:LVal):RM LVal:=
 if kind=27 then ga (.is (a.same b))
 else if a.kind=3/\b.kind=3 then
  if kind=28 then ga (.is (decide (a.n<b.n)))else if kind=29 then Vp (a.n+b.n)else if kind=30 then Vp (a.n-b.n)else Vp (a.n*b.n)
 else if kind=28/\a.kind=4/\b.kind=4 then ga (.is (Zpn a.s b.s))
 else if kind=29/\(a.kind=4\/b.kind=4)then λs=>
  if 500<(s.H.shown a++s.H.shown b).size then va Ul s else ga (.say (s.H.shown a++s.H.shown b)) s
 else va xn
def U3(H:LHeap)(v:LVal):kB:=
 if v.kind=5/\H.code v.n≠0 then Zat
 else if v.kind=0 then WP else if v.kind=2 then Ze2 else if v.kind=3 then Zht else if v.kind=4 then Zhn else Za0
def Uq(V:VF)(sc:Int)(fr:Frm):List NT->RM (List LVal)
 | []=>ga []
 |k::l=>iC (V k sc fr) λv=>iC (Uq V sc fr l) λvs=>ga (v::vs)
def Vh(V:VF)(sc:Int)(fr:Frm)(o:Int):List NT->RM Unit
 | []=>ga ()
 |k::l=>iC (V (k.kid 0) sc fr) λv s=>Vh V sc fr o l (s.put o k.text v false)
def Xu(l:List kB):kB:=⟨(Lib.join (l.map (·.data.toList)) [32]).toArray⟩
def pZ(D:DF)(sc:Int)(fr:Frm):List NT->RM (Bool×LVal)
 | []=>ga (false,LVal.zero)
 |n::l=>iC (D n sc fr) λr=>if r.1 then ga r else pZ D sc fr l
namespace MSt
variable (s:MSt)
def params(sc:Int):List NT->List LVal->MSt->MSt
 | [],_,s=>s
 |p::l,vs,s=>params sc l vs.tail (s.bindTo sc p.text (vs.headD LVal.zero))
def argN(i:Nat):kB:=⟨#[97]⟩++⟨(Lib.itoa (i:Int)).toArray⟩
def argsPut(o:Int):Nat->List LVal->MSt->MSt
 |_,[],s=>s
 |i,v::l,s=>argsPut o (i+1) l (s.put o (argN i) v false)
def argsObj(sc:Int)(vs:List LVal):MSt:=
 (argsPut s.nextO 0 vs ((s.object 0).put s.nextO ZV (.num vs.length) false)).declare sc Zc 0 (.ref s.nextO)
def vars(l:List kB)(sc:Int):MSt:=l.foldl (λs t=>s.declare sc t 0 LVal.zero) s
def looses(l:List kB)(sc:Int):MSt:=l.foldl (λs t=>s.loose sc t) s
end MSt
def NT.hasName(b:NT)(t:kB):Bool:=b.funcs.any (λk=>Zh k.text t)||b.lets.any (λk=>Zh k.text t)
def MSt.enterS(s:MSt)(c:Clo)(vs:List LVal):MSt:=
 let sc:=s.next
 let b:=c.node.kid 1
 let g:=MSt.params sc (c.node.kid 0).kids vs (s.opens c.scope (-1) c.node.num)
 let m:=if g.H.has sc Zc||b.hasName Zc then g else g.argsObj sc vs
 ((m.vars b.vars sc).lets b.lets sc).funcs (λs _=>s) (λs t v=>s.bindTo sc t v) b.funcs sc ⟨c.strict,sc⟩
def XN(D:DF)(c:Clo)(vs:List LVal):RM LVal:=λs=>
 iC (pZ D s.next ⟨c.strict,s.next⟩ (c.node.kid 1).kids) (λr=>ga (if r.1 then r.2 else LVal.zero)) (s.enterS c vs)
def Ur(H:LHeap)(n:NT)(vars:Int):Nat->Int->Bool
 |0,_=>false
 |f+1,sc=>(n.names true).any (λt=>(H.kindOf sc t==1||H.kindOf sc t==2)&& !(n.lets.any λk=>Zh k.text t))||(if sc=vars then false else Ur H n vars f (H.outerOf sc))
def MSt.evalS(s:MSt)(n:NT)(sc:Int)(fr:Frm):MSt:=
 let s1:=s.looses n.vars fr.vars
 let g:=if n.lets.isEmpty then s1 else(s1.opens sc (-1) (-3)).lets n.lets s1.next
 {(g.funcs (λs t=>s.loose fr.vars t) (λs t v=>if 0<=s.H.objectOf fr.vars then s.put (s.H.objectOf fr.vars) t v false else s.write fr.vars t v) n.funcs (if n.lets.isEmpty then sc else s1.next) fr)with last:=LVal.zero}
def Vg(D:DF)(n:NT)(sc:Int)(fr:Frm):RM LVal:=λs=>
 match pZ D (if n.lets.isEmpty then sc else s.next) fr n.kids (s.evalS n sc fr)with
 |(g,.ok _)=>(g,.ok g.last)
 |(g,.error e)=>(g,.error e)
def Wj(text:kB):Option NT:=match Zm text with
 | .ok t=>some t.bare
 | .error _=>none
def Tr(D:DF)(text:kB)(sc:Int)(fr:Frm):RM LVal:=λs=>
 match Wj text with
 |none=>va SQ s
 |some n=>
   if n.check fr.strict false≠0 then va SQ s
   else if fr.strict||n.strict then Vg D n s.next ⟨true,s.next⟩ (s.opens sc (-1) (-3))
   else if Ur s.H n fr.vars (sc+1).toNat sc then va SQ s
   else Vg D n sc ⟨false,fr.vars⟩ s
def VL(D:DF)(n:NT)(sc:Int)(fr:Frm)(code:Int)(args:List LVal):RM LVal:=λs=>
 if code≠2 then XN D (s.clos.getD (code-3).toNat ⟨NT.zero,0,false⟩) args s
 else if(n.kid 0).kind=23/\(n.kid 0).text=UB then Tr D (args.headD LVal.zero).s sc fr s
 else Tr D (args.headD LVal.zero).s s.top ⟨false,s.outer⟩ s
def Wy(s:MSt)(r:MSt×Except Er LVal):MSt×Except Er LVal:=({r.1 with calls:=r.1.calls-1,last:=s.last},r.2)
def codeOf(s:MSt)(g:LVal):Int:=if g.kind=5 then s.H.code g.n else 0
def Xa(D:DF)(n:NT)(sc:Int)(fr:Frm)(code:Int)(args:List LVal):RM LVal:=λs=>
 if code=0 then va xn s
 else if code=1 then ga LVal.zero {s with log:=s.log++[Xu (args.map s.H.shown)]}
 else if code=2/\args=[]then ga LVal.zero s
 else if code=2/\(args.headD LVal.zero).kind≠4 then ga (args.headD LVal.zero) s
 else if s.calls=40 then va Ul s
 else Wy s (VL D n sc fr code args {s with calls:=s.calls+1})
def WV(V:VF)(D:DF)(n:NT)(sc:Int)(fr:Frm):RM LVal:=
 iC (V (n.kid 0) sc fr) λg=>iC (Uq V sc fr n.kids.tail) λargs s=>Xa D n sc fr (codeOf s g) args s
def EG(V:VF)(D:DF)(n:NT)(sc:Int)(fr:Frm):RM LVal:=
 if n.kind=33 then λs=>
  if(n.kid 0).kind=23/\s.H.find sc (n.kid 0).text<0 then ga (.say WP) s
  else iC (V (n.kid 0) sc fr) (λv s=>ga (.say (U3 s.H v)) s) s
 else if n.kind=32 then iC (V (n.kid 0) sc fr) λv=>ga (.is (!v.true))
 else if n.kind=34 then S' V (n.kid 0) sc fr
 else if n.kind=35 then WV V D n sc fr
 else if n.kind=36 then iC (V (n.kid 0) sc fr) λv=>if v.kind=5 then λs=>ga ((s.H.get v.n n.text).getD LVal.zero) s else va xn
 else if n.kind=38 then λs=>iC (Vh V sc fr s.nextO n.kids) (λ_=>ga (.ref s.nextO)) (s.object 0)
 else ga LVal.zero
def zz(V:VF)(D:DF)(n:NT)(sc:Int)(fr:Frm):RM LVal:=
 if n.kind=17 then ga (.num n.n)
 else if n.kind=18 then ga (.say n.text)
 else if n.kind=19\/n.kind=20 then ga (.is (n.kind==19))
 else if n.kind=21 then ga ⟨1,0,⟨#[]⟩⟩
 else if n.kind=22 then ga LVal.zero
 else if n.kind=23 then Zox n sc
 else if n.kind=24 then vu V n sc fr
 else if n.kind=25\/n.kind=26 then iC (V (n.kid 0) sc fr) λv=>if v.true=(n.kind==25)then ga v else V (n.kid 1) sc fr
 else if 27<=n.kind/\n.kind<=31 then iC (V (n.kid 0) sc fr) λa=>iC (V (n.kid 1) sc fr) λb=>Wc n.kind a b
 else if n.kind=37 then λs=>ga (.ref s.nextO) (s.funS n sc fr)
 else EG V D n sc fr
def zJ{α:Type}(k:RM α):RM α:=λs=>if 20000<s.steps+1 then uC .stop {s with steps:=s.steps+1}else k {s with steps:=s.steps+1}
def Vf(V:VF)(D:DF)(n:NT)(sc:Int)(fr:Frm):Nat->RM (Bool×LVal)
 |0=>uC .stop
 |f+1=>iC (V (n.kid 0) sc fr) λv=>if v.true then iC (D (n.kid 1) sc fr) λr=>if r.1 then ga r else Vf V D n sc fr f else ga (false,LVal.zero)
def MSt.blockS(s:MSt)(n:NT)(sc:Int)(fr:Frm):MSt:=((s.opens sc (-1) n.num).lets n.lets s.next).funcs (λs _=>s) (λt a v=>t.declare s.next a 0 v) n.funcs s.next fr
def XA(D:DF)(n:NT)(sc:Int)(fr:Frm):RM (Bool×LVal):=λs=>
 if(n.names false).isEmpty then pZ D sc fr n.kids s else pZ D s.next fr n.kids (s.blockS n sc fr)
def wt(D:DF)(sc:Int)(fr:Frm):List NT->MSt×Except Er (Bool×LVal)->MSt×Except Er (Bool×LVal)
 | [],r=>r
 |k::l,(s,r)=>match r with
   | .error .stop=>(s,.error .stop)
   | .error (.thr v)=>
     if k.kind=13 then wt D sc fr l (D (k.kid 0) s.next fr ((s.opens sc (-1) k.num).declare s.next k.text 0 v))
     else match D (k.kid 0) sc fr s with
      |(s1,.ok (false,_))=>wt D sc fr l (s1,.error (.thr v))
      |x=>wt D sc fr l x
   | .ok b=>
     if k.kind=13 then wt D sc fr l (s,.ok b)
     else match D (k.kid 0) sc fr s with
      |(s1,.ok (false,_))=>wt D sc fr l (s1,.ok b)
      |x=>wt D sc fr l x
def NH(D:DF)(n:NT)(sc:Int)(fr:Frm):RM (Bool×LVal):=λs=>wt D sc fr n.kids.tail (D (n.kid 0) sc fr s)
def X0:Bool×LVal:=(false,LVal.zero)
def KR(V:VF)(D:DF)(f:Nat)(n:NT)(sc:Int)(fr:Frm)(at':Int)(v:LVal):RM (Bool×LVal):=
 if n.kind=2 then if n.kids.isEmpty then ga X0 else iC (Uf at' n.text v fr) λ_=>ga X0
 else if n.kind=3\/n.kind=4 then λs=>ga X0 (s.setH (s.H.start sc n.text v).1)
 else if n.kind=6 then XA D n sc fr
 else if n.kind=7 then if v.true then D (n.kid 1) sc fr else if n.kids.length<=2 then ga X0 else D (n.kid 2) sc fr
 else if n.kind=8 then Vf V D n sc fr f
 else if n.kind=9 then if v.kind=5 then λs=>D (n.kid 1) s.next fr (s.opens sc v.n (-2))else va xn
 else if n.kind=10 then ga (true,v)
 else if n.kind=11 then uC (.thr v)
 else if n.kind=12 then NH D n sc fr
 else if n.kind=15 then λs=>ga X0 {s with last:=v}
 else ga X0
def D7(V:VF)(D:DF)(f:Nat)(n:NT)(sc:Int)(fr:Frm):RM (Bool×LVal):=zJ λs=>
 iC (if n.kids.isEmpty\/n.kind=5\/n.kind=6\/n.kind=12\/n.kind=8 then ga LVal.zero else V (n.kid 0) sc fr)
  (KR V D f n sc fr (if n.kind=2/\n.kids.isEmpty=false then s.H.find sc n.text else -1)) s
def T9:Nat->VF×DF
 |0=>(λ_ _ _=>uC .stop,λ_ _ _=>uC .stop)
 |f+1=>(λn sc fr=>zJ (zz (T9 f).1 (T9 f).2 n sc fr),D7 (T9 f).1 (T9 f).2 f)
structure Res where
 log:List kB
 code:Int
 value:kB
 steps:Int
 seen:List (Int×Int)
def MSt.new:MSt:=⟨⟨[],[]⟩,[],0,[],[],[],0,0,0,0,LVal.zero⟩
def TQ(n:NT):MSt:=
 let s1:=(((((MSt.new.object 0).object 1).put 0 Jk (.ref 1) false).object 2).put 0 UB (.ref 2) false)
 let g:={(s1.opens (-1) 0 (-1)).opens 0 (-1) 0 with glob:=0,outer:=0,top:=1}
 let m:=n.vars.foldl (λs t=>if s.H.has 0 t then s else s.put 0 t LVal.zero true) g
 (m.lets n.lets 1).funcs (λs _=>s) (λs t v=>s.put 0 t v true) n.funcs 1 ⟨n.strict,0⟩
def YE:MSt×Except Er (Bool×LVal)->Res
 |(s,.ok _)=>⟨s.log,1,⟨#[]⟩,s.steps,s.seen⟩
 |(s,.error .stop)=>⟨s.log,3,⟨#[]⟩,s.steps,s.seen⟩
 |(s,.error (.thr v))=>⟨s.log,2,s.H.shown v,s.steps,s.seen⟩
def UD:Nat:=20001
def iz(n:NT):Res:=YE (pZ (T9 UD).2 1 ⟨n.strict,0⟩ n.kids (TQ n))
section
variable {N:Nat->Int}{a:ATree}
theorem Zck:(a.nt N).num=N a.b:=by cases a;rfl
theorem Za:(a.nt N).kind=a.kind:=by cases a;rfl
theorem sw:(a.nt N).text=a.text:=by cases a;rfl
theorem AcF:(a.nt N).n=a.n:=by cases a;rfl
theorem Zw:(a.nt N).kids=O5 N a.kids:=by cases a;rfl
theorem zI:∀l:List ATree,O5 N l=l.map (ATree.nt N)
 | []=>rfl
 |x::l=>by rw[O5,zI l];rfl
def xX{i:Nat}{x:ATree}(h:a.kids[i]?=some x):(a.nt N).kid i=x.nt N:=by
 unfold NT.kid;rw[Zw,zI,List.getD_eq_getElem?_getD,Yg,h];rfl
mutual
theorem WG:∀a:ATree,(a.nt N).tree=a.tree
 | .mk b v k t n l=>by simp only[ATree.nt,NT.tree,ATree.tree,Zi8 l]
theorem Zi8:∀l:List ATree,qa (O5 N l)=f6 l
 | []=>rfl
 |x::l=>by simp only[O5,qa,f6,WG x,Zi8 l]
end
mutual
theorem Zr2:∀t:Tree,t.a.tree=t
 | .mk k t n l=>by simp only[Tree.a,ATree.tree,Zcl l]
theorem Zcl:∀l:List Tree,f6 (Zqn l)=l
 | []=>rfl
 |x::l=>by simp only[Zqn,f6,Zr2 x,Zcl l]
end
mutual
theorem Zb3:∀t:Tree,t.bare.tree=t
 | .mk k t n l=>by simp only[Tree.bare,NT.tree,Zci l]
theorem Zci:∀l:List Tree,qa (Zkn l)=l
 | []=>rfl
 |x::l=>by simp only[Zkn,qa,Zb3 x,Zci l]
end
mutual
theorem Zls:∀a:ATree,(∀b∈a.blocks,N b=-3)->a.nt N=a.tree.bare
 | .mk b v k t n l,h=>by
   simp only[ATree.blocks,List.mem_cons,List.mem_append]at h;simp only[ATree.nt,ATree.tree,Tree.bare,h b (.inl rfl),Zhs l λx hx=>h x (.inr (.inr hx))]
theorem Zhs:∀l:List ATree,(∀b∈x6 l,N b=-3)->O5 N l=Zkn (f6 l)
 | [],_=>rfl
 |x::l,h=>by
   simp only[x6,List.mem_append]at h;simp only[O5,f6,Zkn,Zls x λy g=>h y (.inl g),Zhs l λy g=>h y (.inr g)]
end
mutual
theorem Zou:∀(a:ATree) (g:List kB),YJ (a.nt N) g=tU Cv a g
 | .mk b v k t n l,g=>by
   rw[Z9g];simp only[ATree.nt,YJ,Cv,WH,ATree.kind,ATree.text,ATree.kids];by_cases h:k=5\/k=37
   .have m:(k==5||k==37)=true:=by simpa using h
    have o:(k==2)=false:=Qi
    rw[Y5 h];simp[m,o]
   .have m:(k==5||k==37)=false:=by simpa using h
    rw[Y3 h,Zas l];by_cases hk:k=2;·subst hk;simp
    .simp[m,hk]
theorem Zas:∀(l:List ATree) (g:List kB),Tn (O5 N l) g=oB Cv l g
 | [],g=>rfl
 |x::l,g=>by simp only[O5,Tn,oB,Zou x,Zas l]
end
theorem Wk:(a.nt N).vars=yi a:=by unfold NT.vars yi;rw[Zw,Zas]
def Zf0(p:ATree->Bool)(q:NT->Bool)(h:∀x:ATree,q (x.nt N)=p x)(l:List ATree):(O5 N l).filter q=(l.filter p).map (ATree.nt N):=by
 rw[zI,List.filter_map];congr 1
 exact List.filter_congr λx _=>h x
def YX:(a.nt N).funcs=(a.kids.filter xp).map (ATree.nt N):=by
 unfold NT.funcs;rw[Zw];exact Zf0 _ _ (λx=>by rw[Za];rfl) _
def Z9k:(a.nt N).lets=(a.kids.filter vV).map (ATree.nt N):=by
 unfold NT.lets;rw[Zw];exact Zf0 _ _ (λx=>by rw[Za];rfl) _
def Zi2(l:List ATree):(l.map (ATree.nt N)).map NT.text=l.map ATree.text:=by
 rw[List.map_map];exact List.map_congr_left λx _=>sw
def Z9e(body:Bool):(a.nt N).names body=JK body a:=by
 unfold NT.names JK xZ;rw[Z9k,YX,Zi2,Zi2,Wk,List.foldl_map,List.foldl_map]
theorem Z6k:(a.nt N).strict=Zj a:=by unfold NT.strict Zj;rw[sw,Za]
def Zoc(st ins:Bool):(a.nt N).check st ins=AO a st ins:=by
 unfold NT.check;exact Za8 (by rw[Zr2,WG]) st ins
end
def ak(n:Nat)(p:PR):Prop:=∀t ts,p=some (.ok (t,ts))->t.many+2*ts.length<=n
theorem ak.fail{n:Nat}{e:Int}{ts:List Tok}:ak n (r' e ts):=by intro t ts' h;cases h
theorem ak.none{n:Nat}:ak n none:=by intro t ts' h;cases h
theorem ak.err{n:Nat}{e:Int×Nat}:ak n (some (.error e)):=by intro t ts' h;cases h
def ak.ok{n:Nat}{t:Tree}{ts:List Tok}(h:t.many+2*ts.length<=n):ak n (fH t ts):=by
 refine Zok ?_;intro t' ts' h';rw[<-h'.1,<-h'.2];exact h
def ak.bind{n m:Nat}{p:PR}{k:Tree->List Tok->PR}(hp:ak m p)(hk:∀t ts,t.many+2*ts.length<=m->ak n (k t ts)):ak n (Zn p k):=by
 cases p with
 |none=>exact ak.none
 |some r=>
   cases r with
   |error e=>exact ak.err
   |ok x=>obtain⟨t,ts⟩:=x;exact hk t ts (hp t ts rfl)
def ak.want{n:Nat}{s:kB}{ts:List Tok}{k:List Tok->PR}(hk:ts.tail.length<ts.length->ak n (k ts.tail)):ak n (iE s ts k):=by
 unfold iE;by_cases h:ad s ts=true;·rw[Y5 h];exact hk (Zo h)
 .rw[Y3 h];exact ak.fail
def ak.name{n:Nat}{ts:List Tok}{k:kB->List Tok->PR}(hk:∀s,ts.tail.length<ts.length->ak n (k s ts.tail)):ak n (tK ts k):=by
 unfold tK;by_cases h:(al ts).kind=1;·exact Zrm
 .rw[Y3 h];exact ak.fail
def ak.within{n d:Nat}{ts:List Tok}{p:PR}(h:ak n p):ak n (qH d ts p):=by
 unfold qH;by_cases g:30<d+1;·rw[Y5 g];exact ak.fail
 .rw[Y3 g];exact h
def ak.ite{n:Nat}{c:Prop} [Decidable c]{p q:PR}(hp:c->ak n p)(hq:¬c->ak n q):ak n (if c then p else q):=by
 exact TB
def ak.comma{n:Nat}{c:Prop} [Decidable c]{ts:List Tok}{k:List Tok->PR}(hk:∀ts',ts'.length<=ts.length->ak n (k ts')):ak n ((if c then iE tV ts else λk=>k ts) k):=by
 by_cases h:c;·rw[Y5 h];exact ak.want λg=>hk _ Qe
 .rw[Y3 h];exact hk _ (Y0 _)
theorem ak.end'{n:Nat}{t:Tree}{ts:List Tok}(h:t.many+2*ts.length<=n+2):ak n (po t ts):=ak.want λg=>ak.ok Qe
def Job.base:Job->Nat
 | .stmts _ g=>mO g+1
 | .params g=>mO g+1
 | .try_=>1
 | .binLoop _ x=>x.many
 | .postLoop x=>x.many
 | .args g=>mO g+1
 | .object g=>mO g+1
 |_=>0
def Z6r(l m:List Tree):mO (l++m)=mO l+mO m:=by
 induction l with
 |nil=>simp[mO]
 |cons x l g=>simp only[List.cons_append,mO,g];omega
theorem zw(k:Int)(s:kB)(n:Int)(l:List Tree):(Tree.mk k s n l).many=mO l+1:=by simp[Tree.many]
theorem U2(x:Tree):mO [x]=x.many:=by simp[mO]
theorem Z52(x y:Tree):mO [x,y]=x.many+y.many:=by simp[mO]
theorem Zfr(x y z:Tree):mO [x,y,z]=x.many+y.many+z.many:=by simp[mO];omega
theorem Wr:mO []=0:=by simp[mO]
theorem Zmf(x:Tree):x.many=mO x.kids+1:=by cases x;simp[Tree.many,Tree.kids]
def Ziu:∀(f:Nat) (m:Job) (d:Nat) (ts:List Tok),ak (m.base+2*ts.length) (Z0 f m d ts):=by
 intro f;induction f with
 |zero=>intro m d ts;exact ak.none
 |succ f ih=>
   intro m d ts;have I:=Zz ts;have g:∀(m:Job) (d:Nat) (us:List Tok) {n:Nat},m.base+2*us.length<=n->ak n (Z0 f m d us):=λm d us n h t vs hp=>Y4 (ih m d us t vs hp) h;cases m with
   |stmts kind o=>
     rw[Z0];refine ak.ite (λ_=>ak.ok ?_) λ_=>ak.bind (ak.within (ih .stmt _ _)) λt us h=>g _ _ _ ?_;·rw[zw];simp only[Job.base];omega
     .simp only[Job.base,Z6r,U2]at *;omega
   |block body=>
     rw[Z0];refine ak.want λh1=>ak.bind (ih (.stmts 6 []) _ _) λt us h=>ak.want λh2=>ak.ok ?_;simp only[Job.base,Wr]at *;cases body;·simp only[Bool.false_eq_true,if_false];rw[zw];rw[Zmf]at h;omega
     .simp only[if_true];omega
   |func kind text=>
     rw[Z0];refine ak.want λh1=>ak.bind (ih (.params []) _ _) λt us h=>ak.want λh2=>ak.bind (ih (.block true) _ _) λt vs h3=>ak.ok ?_;simp only[Job.base,Wr,zw,Z52]at *;omega
   |params o=>
     rw[Z0];refine ak.ite (λ_=>ak.ok ?_) λ_=>ak.comma λus h=>ak.ite (λ_=>ak.fail) λ_=>ak.name λs h2=>g _ _ _ ?_;·rw[zw];simp only[Job.base];omega
     .simp only[Job.base,Z6r,U2,zw,Wr]at *;omega
   |around=>
     rw[Z0];refine ak.want λh1=>ak.bind (ih .value _ _) λt us h=>ak.want λh2=>ak.ok ?_;simp only[Job.base]at *;omega
   |stmt=>
     rw[Z0];refine ak.ite (λh=>g _ _ _ Qx) λ_=>?_;refine ak.ite (λh=>ak.ok (by have:=Zo h;simp only[Job.base,zw,Wr];omega)) λ_=>?_;refine ak.ite (λh=>ak.bind (ih _ _ _) λt us h2=>ak.end' QP) λ_=>?_;refine ak.ite (λh=>ak.bind (ih _ _ _) λt us h2=>ak.end' QP) λ_=>?_;refine ak.ite (λh=>ak.bind (ih _ _ _) λt us h2=>ak.end' QP) λ_=>?_
     refine ak.ite (λh=>ak.name λs h2=>g _ _ _ Qx) λ_=>?_;refine ak.ite (λh=>?_) λ_=>?_
     .have:=Zo h;refine ak.bind (ih .around _ _) λt us h2=>ak.bind (ak.within (ih .stmt _ _)) λt vs h3=>?_;have:=Zz vs;exact ak.ite (λh4=>ak.bind (ak.within (ih .stmt _ _)) λt F h5=>ak.ok (by simp only[Job.base,zw,Zfr]at *;omega)) λ_=>ak.ok RT
     refine ak.ite (λh=>?_) λ_=>?_;·exact Zxp
     refine ak.ite (λh=>?_) λ_=>?_;·exact Zxp
     refine ak.ite (λh=>?_) λ_=>?_
     .have:=Zo h;exact ak.ite (λh1=>ak.end' (by simp only[Job.base,zw,Wr]at *;omega)) λ_=>ak.bind (ih .value _ _) λt us h2=>ak.end' RU
     refine ak.ite (λh=>?_) λ_=>?_
     .have:=Zo h;exact Zzd
     refine ak.ite (λh=>g _ _ _ (by have:=Zo h;simp only[Job.base];omega)) λ_=>?_;exact Zzd
   |decl kind J=>
     rw[Z0];refine ak.name λs h=>ak.ite (λ_=>ak.fail) λ_=>ak.ite (λh2=>ak.bind (ih .value _ _) λt us h3=>ak.ok ?_) λ_=>ak.ok ?_;·have:=Zz ts.tail;simp only[Job.base,zw,U2]at *;omega
     .simp only[Job.base,zw,Wr]at *;omega
   |try_=>
     rw[Z0];refine ak.bind (ih (.block false) _ _) λb us h=>?_;have hk:∀(l:List Tree) (vs:List Tok),mO l+2*vs.length<=2*ts.length->ak (1+2*ts.length) (if ad Zl vs then Zn (Z0 f (.block false) d vs.tail) λc ts=>fH (.mk 12 ByteArray.empty 0 (l++[.mk 14 ByteArray.empty 0 [c]])) ts else if l.length=1 then r' 3 vs else fH (.mk 12 ByteArray.empty 0 l) vs):=by
      intro l vs h2;refine ak.ite (λh3=>ak.bind (ih (.block false) _ _) λt F h4=>ak.ok ?_) λ_=>ak.ite (λ_=>ak.fail) λ_=>ak.ok ?_;·have:=Zo h3;simp only[Job.base,zw,Z6r,U2]at *;omega
      .rw[zw];omega
     refine ak.ite (λh1=>?_) λ_=>hk _ _ Sa;have:=Zo h1;refine ak.want λh2=>ak.name λs h3=>ak.want λh4=>ak.bind (ih (.block false) _ _) λc vs h5=>hk _ _ ?_;simp only[Job.base,zw,U2,Z52]at *;omega
   |value=>rw[Z0];exact ak.within (g _ _ _ Qx)
   |assign=>
     rw[Z0];refine ak.bind (ih (.bin 0) _ _) λx us h=>ak.ite (λh1=>ak.ite (λ_=>ak.bind (ih .value _ _) λy vs h2=>ak.ok ?_) λ_=>ak.err) λ_=>ak.ok ?_;·have:=Zo h1;simp only[Job.base,zw,Z52]at *;omega
     .simp only[Job.base]at *;omega
   |bin p=>
     rw[Z0];refine ak.ite (λh=>g _ _ _ Qx) λh=>ak.bind (ih (.bin (p+1)) _ _) λx us h=>g _ _ _ QP
   |binLoop p x=>
     rw[Z0];refine ak.ite (λ_=>ak.ok Qx) λu=>ak.bind (ih (.bin (p+1)) _ _) λy us h=>g _ _ _ ?_;have:=Z7j u;simp only[Job.base,zw,Z52]at *;omega
   |unary=>
     rw[Z0];refine ak.ite (λ_=>g _ _ _ Qx) λu=>ak.bind (ak.within (ih .unary _ _)) λy us h=>ak.ok ?_;have:=Zaz u;simp only[Job.base,zw,U2]at *;omega
   |postfix_=>
     rw[Z0];exact ak.bind (ih .primary _ _) λy us h=>g _ _ _ QP
   |postLoop x=>
     rw[Z0];refine ak.ite (λh=>ak.name λs h2=>g _ _ _ ?_) λ_=>ak.ite (λh=>?_) λ_=>ak.ok Qx;·have:=Zo h;simp only[Job.base,zw,U2]at *;omega
     .have:=Zo h;exact ak.bind (ih (.args [x]) _ _) λy us h=>g _ _ _ Sa
   |args o=>
     rw[Z0];refine ak.ite (λh=>ak.ok ?_) λ_=>ak.comma λus h=>ak.ite (λ_=>ak.fail) λ_=>ak.bind (ih .value _ _) λy vs h2=>g _ _ _ ?_;·rw[zw];simp only[Job.base];omega
     .simp only[Job.base,Z6r,U2]at *;omega
   |primary=>
     rw[Z0];have:=Zz ts.tail;refine ak.ite (λh=>ak.ok ?_) λ_=>ak.ite (λh=>ak.ok ?_) λ_=>ak.ite (λh=>ak.ok ?_) λ_=>ak.ite (λh=>ak.ok ?_) λ_=>?_;·exact Zrf
     .exact Zrf
     .exact Zrf
     .have:ts.tail.length<ts.length:=by
       exact AaA
      simp only[Job.base,zw,Wr]at *;omega
     refine ak.ite (λ_=>g _ _ _ Qx) λ_=>?_;refine ak.ite (λ_=>ak.ite (λ_=>g _ _ _ Qx) λ_=>g _ _ _ Qx) λ_=>?_;exact ak.ite (λh=>g _ _ _ (by have:=Zo h;simp only[Job.base,Wr];omega)) λ_=>ak.fail
   |object o=>
     rw[Z0];refine ak.ite (λh=>ak.ok ?_) λ_=>ak.comma λus h=>ak.ite (λ_=>ak.fail) λ_=>ak.name λs h1=>ak.want λh2=>ak.bind (ih .value _ _) λy vs h3=>g _ _ _ ?_;·rw[zw];simp only[Job.base];omega
     .simp only[Job.base,Z6r,U2,zw]at *;omega
