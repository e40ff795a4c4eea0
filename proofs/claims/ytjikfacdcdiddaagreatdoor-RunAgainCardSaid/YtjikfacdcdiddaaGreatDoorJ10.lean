/- Package tree: assign. -/
import Derived.Test.YtjikfacdcdiddaaGreatDoorJ09
import Derived.Lib.Join
set_option linter.unusedSimpArgs false
set_option maxRecDepth 100000
set_option maxHeartbeats 20000000
set_option linter.unusedVariables false
namespace Go.Proofs.YtjikfacdcdiddaaGreatDoor
open Go Go.RowKit
theorem Zg4(f:Nat)(H5:c9 137 (λrb=>#[vP rb,vI 0]) (.bin 0) f)(hV:c9 102 cQ .value f) :
 c9 127 cQ .assign (f+1):=by
 intro w rb B d ts r hP hp;have hw:Zr (Z3 f (.bin 0) d ts) (λx ts'=>if aa iD ts' then(if x.kind=23∨x.kind=36 then Zr (Z3 f .value d ts'.tail) λy ts=>iy (.mk 24 ByteArray.empty 0 [x,y]) ts else some (.error (1,(bL ts).at')))else iy x ts')=some r:=hp;have F:=lh hP;obtain⟨tb,off,cap,h⟩:=hP.rd;have c0:=h.c0;have t3:=h.hd (j:=3) rfl;have fW:=h.pos;refine Znc ?_;intro hm dG n hn;rw[<-hn]at c0 fW dG;have H1:=lh hw;unfold cQ;obtain⟨pl,lF⟩:=zX ((bL ts).at')
 rw[<-lF]at t3;have mN:=lh lF;clear hP hp hw h hn lF;have J:=F.o.lt;rcases Zf H1.o with⟨⟨c,p⟩,g,rfl⟩|⟨t,us,g,h2⟩
 .have HV:=lh (H5 w rb B d _ _ F.o g);clear g;go_enter Tryz.func127,Tryz.ntmps127
  exact Zuq
 .have HV:=lh (H5 w rb B d _ _ F.o g);have hl:=RX g;have H2:=lh h2;clear g h2;go_enter Tryz.func127,Tryz.ntmps127
  go_wp2_with fail
  refine HV.o.mono ?_;rintro e w2⟨a,rfl,O,am,aq⟩;have ac:=O.at'.blkOf;have d0:vC w2 a.b 0 (vI a.kind):=Pd
  have H6:a.kind=t.kind:=by rw[<-O.tree];cases a;rfl
  have D5:=lh H6;have U:=lh (F.o.next am aq hl);have G2:=lh O;have F2:=lh aq;obtain⟨ab,bY⟩:=zX a.b
  obtain⟨X,D6⟩:=zX a.kind
  have cP:=G2.o.at'.lt;rw[<-bY]at d0 cP ⊢;rw[<-D6]at d0;have sr:=lh bY;have D7:=lh D6;clear am aq O HV hl ac H6 bY D6 c0 t3;by_cases he:aa iD us=true
  .have o:=H2.o;rw[Y5 he]at o;have m:=LI w2 rb us d iD U.o.rd;rw[he]at m;unfold iD at m;have m:=lh m;have HE:=lh he;clear he;go_wp2_with fail
   refine m.o.mono ?_;rintro e w3⟨rfl,u⟩;have P3:=lh (U.o.below u);have G3:=lh (G2.o.rfr J (RFr.below (rb:=rb) u));have Y:=lh (F2.o.trans (RFr.below (rb:=rb) u));have Lv:=(u.cell (p:=⟨ab,0,none⟩) cP).trans d0;clear u m;by_cases hk:t.kind=23∨t.kind=36
   .rw[Y5 hk]at o;have H3:=lh o;clear o;have Z:=wR w3 rb us d iD P3.o.rd HE.o;unfold iD at Z;have Z:=lh Z;have D8:X=23∨X=36:=by rw[D7.o,D5.o];exact hk
    clear hk;rcases D8 with rfl|rfl
    all_goals
     go_wp2_with fail
     refine Z.o.mono ?_;rintro e w5⟨rfl,kQ,I⟩;have P5:=P3.o.tail kQ I;have G5:=lh (G3.o.rfr J I);have F5:=lh (Y.o.trans I);rcases Zf H3.o with⟨⟨c,p⟩,g,rfl⟩|⟨y,vs,g,h4⟩
     .have HV:=lh (hV w5 rb B d _ _ P5 g);clear g kQ I;go_wp2_with fail
      refine HV.o.mono ?_;rintro e E⟨⟨b,rfl,h1,h2⟩,hF⟩;exact⟨rfl,ll.pre F5.o (r:=.error (c,p)) ⟨⟨b,rfl,h1,h2⟩,hF⟩⟩
     .obtain rfl:=Yc h4;have HV:=lh (hV w5 rb B d _ _ P5 g);clear g kQ I h4;go_wp2_with fail
      refine HV.o.mono ?_;rintro e E⟨c,rfl,hC,jJ,fM⟩;have G6:=G5.o.rfr J fM;have ca:=lh (Got.two (k:=24) (t:=⟨#[]⟩) F.o.le (F5.o.trans fM) G6 (wA:=w5) (λx hx=>(G5.o.new x hx).2) F5.o.size hC);have ai:Below E.heap.size E (E.alloc (.cells #[vP ab,vP c.b] 22)):=(Y2 _ _).alloc (Y0 _) _
      have ax:Below E.heap.size E ((E.alloc (.cells #[vP ab,vP c.b] 22)).alloc (.cells #[vI 24,.string ⟨#[]⟩,vI 0,.slice (some ⟨E.heap.size,0,none⟩) 2 2] 42)):=ai.alloc Pg _;have R6:=lh (jJ.below ax);have F6:=lh ((F5.o.trans fM).trans (RFr.below (rb:=rb) ax));clear hC jJ fM G6 HV ai ax;go_wp2_with fail
      refine(Zv _ rb 24 ⟨#[]⟩ _ 2 2).mono ?_;rintro e w7⟨rfl,rfl⟩;go_wp2;go_ret;refine⟨.mk (E.heap.size+1) (.slice (some ⟨E.heap.size,0,none⟩) 2 2) 24 ⟨#[]⟩ 0 [a,c],rfl,?_,R6.o,F6.o⟩;rw[sr.o];exact ca.o
   .rw[Y3 hk]at o;obtain rfl:=Yc o;have B8:(X !=23)=true:=by rw[D7.o,D5.o];simp;omega
    have Oc:(X !=36)=true:=by rw[D7.o,D5.o];simp;omega
    clear o hk;go_wp2;refine⟨rfl,?_⟩;rw[<-mN.o];exact ll.err Y.o (Zba (Y0 _)) ((Y2 _ _).alloc (Y0 _) _)
  .have pZ:aa iD us=false:=by simpa using he
   have o:=H2.o;rw[Y3 he]at o;obtain rfl:=Yc o;have m:=LI w2 rb us d iD U.o.rd;rw[pZ]at m;unfold iD at m;have m:=lh m;clear o he pZ;go_wp2_with fail
   refine m.o.mono ?_;rintro e w3⟨rfl,u⟩;have R3:=lh (U.o.rd.below u);have G3:=lh (G2.o.rfr J (RFr.below (rb:=rb) u));have Y:=lh (F2.o.trans (RFr.below (rb:=rb) u));clear u;go_wp2;go_ret;rw[sr.o];exact⟨a,rfl,G3.o,R3.o,Y.o⟩
theorem Zc8(w0 w:World)(rb B d:Nat)(ts:List Tok)(a:ATree)(t:Tree)(r:Except (Int×Nat) (Tree×List Tok))(g:Pre w rb B d ts)(p:Got w0 B w a t)(u:RFr w0 w rb)(hr:tZ t ts=some r) :
 Calls Tryz.prog 97 #[vP rb,vP a.b] w (ll w0 rb B d r):=by
 have I:=lh g;have J:=lh p;have y:=lh u;rcases Sy hr with⟨hs,m⟩|⟨hs,rfl⟩
 .obtain rfl:=Yc m;have o:=lh (Hb w rb ts d Ed g.rd hs);clear g p u hr hs m;go_enter Tryz.func97,Tryz.ntmps97
  go_wp2_with fail
  refine o.o.mono ?_;rintro e O⟨rfl,E,F⟩;have U:=lh E;have G:=lh F;clear E F o;go_wp2;go_ret;exact⟨a,rfl,J.o.rfr I.o.lt G.o,U.o,y.o.trans G.o⟩
 .have o:=lh (RG w rb ts d Ed g.rd hs);clear g p u hr hs;go_enter Tryz.func97,Tryz.ntmps97
  go_wp2_with fail
  refine o.o.mono ?_;rintro e O⟨⟨b,rfl,m,X⟩,Y⟩;exact⟨rfl,ll.err y.o ⟨b,rfl,m,X⟩ Y⟩
def Zjt(f d:Nat)(kind:Int)(text:ByteArray)(p:Tree)(ts:List Tok):PR:=iB sg ts λts=>Zr (Z3 f (.block true) d ts) λb ts=>iy (.mk kind text 0 [p,b]) ts
theorem Z9f{ts:List Tok}{k:ByteArray->List Tok->PR}{g:Tree->List Tok->PR}{r:Except (Int×Nat) (Tree×List Tok)}(h:Zr (wc ts k) g=some r):((bL ts).kind=1∧Zr (k (bL ts).text ts.tail) g=some r)∨((bL ts).kind≠1∧r=.error (3,(bL ts).at')):=by
 unfold wc at h;by_cases hk:(bL ts).kind=1;·rw[Y5 hk]at h;exact .inl ⟨hk,h⟩
 .rw[Y3 hk]at h;exact .inr ⟨hk,(Yc h).symm⟩
theorem Z9m{ts:List Tok}(h:(bL ts).kind=1):0<ts.length:=by
 cases ts with
 |nil=>simp[bL]at h
 |cons t l=>simp
def XK(g f d:Nat)(kind:Int)(text:ByteArray)(m:List Tree)(us:List Tok):PR:=Zr (if m.length=8 then vg 4 us else wc us λs ts=>Z3 g (.params (m++[.mk 23 s 0 []])) d ts) (Zjt f d kind text)
theorem Zm4(F:Nat)(kind:Int)(text:ByteArray)(hB:c9 95 (λrb=>#[vP rb,.bool true]) (.block true) F) :
 c9 99 (λrb=>#[vP rb,vI kind,.string text]) (.func kind text) (F+1):=by
 intro w rb B d ts r Y hp;have hw:iB ub ts (λts=>Zr (Z3 F (.params []) d ts) (Zjt F d kind text))=some r:=hp;have HP:=lh Y;have tA:=lh hB;simp only;rcases Sy hw with⟨hs,h1⟩|⟨hs,rfl⟩
 ·have HC := lh (Hb w rb ts d ub Y.rd hs);have H1 := lh h1;clear Y hp hw hs h1 hB;go_enter Tryz.func99, Tryz.ntmps99
  go_wp2_with fail
  refine HC.o.mono ?_;rintro e w1⟨rfl,dF,dm⟩;have P1:=lh (HP.o.tail dF dm);have X:=lh (Zv w1 rb 40 ⟨#[]⟩ none 0 0);obtain⟨nb,dw⟩:=zX w1.heap.size
  have G0:=Got.leaf (k:=40) (t:=⟨#[]⟩) (n:=0) HP.o.le dm;have cP:Below w1.heap.size w1 (w1.alloc (.cells #[vI 40,.string ⟨#[]⟩,vI 0,.slice none 0 0] 42)):=(Y2 _ _).alloc (Y0 _) _;have R0:=dF.below cP;have F0:=dm.trans (RFr.below (rb:=rb) cP);rw[<-dw]at G0 X;obtain⟨B9,ve⟩:=zX ts.tail
  have rp:B9.length<=ts.length:=by rw[ve];simp
  rw[<-ve]at R0 H1;clear ve;go_wp2_with fail
  refine X.o.mono ?_;rintro e w2⟨rfl,cw⟩;rw[<-cw]at G0 R0 F0;have hst:∃(g:Nat) (m:List Tree) (us:List Tok) (v:Value) (kids:List ATree),g<=F∧Zr (Z3 g (.params m) d us) (Zjt F d kind text)=some r∧Got w B w2 (.mk nb v 40 ⟨#[]⟩ 0 kids) (.mk 40 ⟨#[]⟩ 0 m)∧Rd w2 rb us d∧RFr w w2 rb∧m.length<=8∧us.length<=ts.length:=
   ⟨F,[],B9,_,[],Y0 _,H1.o,G0,R0,F0,by simp,rp⟩
  have ST:=lh hst;have th:=lh dw;clear hst cw G0 R0 F0 HC X dw dm dF P1 H1 cP rp;go_wp2_with fail
  go_loopw [] (λwr=>∃(g:Nat) (m:List Tree) (us:List Tok) (v:Value) (kids:List ATree),g<=F∧Zr (Z3 g (.params m) d us) (Zjt F d kind text)=some r∧Got w B wr (.mk nb v 40 ⟨#[]⟩ 0 kids) (.mk 40 ⟨#[]⟩ 0 m)∧Rd wr rb us d∧RFr w wr rb∧m.length<=8∧us.length<=ts.length) (λwr=>leftOf wr rb)
  case atStart=>exact ST.o
  case round=>
   obtain⟨g,m,us,v,kids,hg,hq,hG,Z,hF,hl,hu⟩:=hrel;have G:=lh hG;have R:=lh Z;have FF:=lh hF;have RL:=lh Z.left;cases g with
   |zero=>cases hq
   |succ g=>
   rw[Z3]at hq;have u:=LI wr rb us d sg Z;by_cases hb:aa sg us=true
   .rw[hb]at u;rw[Y5 hb]at hq;have hq:Zjt F d kind text (.mk 40 ByteArray.empty 0 m) us=some r:=hq;have u:=lh u;have HQ:=lh hq;have HI:=lh hb;unfold sg at u;clear hG Z hF hq hb ST;go_wp2_with fail
    refine u.o.mono ?_;rintro e w3⟨rfl,aB⟩;have aA:=HP.o.lt;refine U2 ?_;intro F3 G3 R3 P3;have HC:=Hb w3 rb us d sg R3 HI.o;unfold sg at HC;have HC:=lh HC;have F3:=lh F3;have G3:=lh G3;have P3:=lh P3;obtain⟨_,h3⟩:aa sg us=true∧Zr (Z3 F (.block true) d us.tail) (λb ts=>iy (.mk kind text 0 [.mk 40 ByteArray.empty 0 m,b]) ts)=some r:=by
     rcases Sy HQ.o with h|⟨hs,_⟩;·exact h
     .rw[HI.o]at hs;cases hs
    have H3:=lh h3;clear aB R3 h3 FF G R u HQ;go_wp2_with fail
    refine HC.o.mono ?_;rintro e w4⟨rfl,eZ,bh⟩;have P4:=lh (P3.o.tail eZ bh);have F4:=lh (F3.o.trans bh);have G4:=lh (G3.o.rfr aA bh);clear eZ bh HC F3 G3;rcases Zf H3.o with⟨⟨c,p⟩,hv,rfl⟩|⟨t,rm,hv,h4⟩
    .have HV:=lh (tA.o w4 rb B d _ _ P4.o hv);clear hv;go_wp2_with fail
     refine HV.o.mono ?_;rintro e w5⟨⟨b,rfl,h1,h2⟩,hF⟩;exact Uj
    .have HV:=lh (tA.o w4 rb B d _ _ P4.o hv);obtain rfl:=Yc h4;clear hv;go_wp2_with fail
     refine HV.o.mono ?_;rintro e w5⟨a,rfl,H7,kQ,em⟩;have G5:=lh H7;have R5:=lh kQ;have F5:=lh em;clear H7 kQ em HV;have X:=lh (Zv (w5.alloc (.cells #[vP nb,vP a.b] 22)) rb kind text (some ⟨w5.heap.size,0,none⟩) 2 2);go_wp2_with fail
     refine X.o.mono ?_;rintro e w6⟨rfl,ka⟩;have aj:=Got.two (k:=kind) (t:=text) HP.o.le (F4.o.trans F5.o) (G4.o.rfr aA F5.o) (wA:=w4) (λx hx=>(G4.o.new x hx).2) F4.o.size G5.o;have vf:=((Y2 w5.heap.size w5).alloc (Y0 _) (.cells #[vP nb,vP a.b] 22))
     have jJ:Rd w6 rb rm d:=by rw[ka];exact(R5.o.below vf).below ((Y2 _ _).alloc (Y0 _) _)
     have fM:RFr w w6 rb:=by rw[ka];exact((F4.o.trans F5.o).trans (RFr.below vf)).trans (RFr.below ((Y2 _ _).alloc (Y0 _) _))
     have ca:=lh aj;have tI:=lh ka;have R6:=lh jJ;have F6:=lh fM;clear aj ka jJ fM vf X;go_wp2;go_ret;refine⟨_,?pt,(by rw[tI.o];exact ca.o),R6.o,F6.o⟩;case pt=>simp[ATree.b]
   ·have dB : aa sg us = false := by simpa using hb
    rw[dB]at u;rw[Y3 hb]at hq;have u:=lh u;have HQ:=lh hq;unfold sg at u;have ba:kids.length=m.length:=by
     have:=hG.tree;exact TH
    have fL:=lh ba;clear hG Z hF hq hb dB ST ba;go_wp2_with fail
    refine u.o.mono ?_;rintro e w3⟨rfl,aB⟩;have aA:=HP.o.lt;refine U2 ?_;intro F3 G3 R3 P3;obtain⟨p,cp,rfl⟩:∃p cp,v=.slice p kids.length cp:=by
     exact Zvw
    refine Zvx ?_;intro ac n3 F3 G3 P3 HU HL;clear aB R3 FF G R u ac hu hl;by_cases h0:m.length=0
    .have a0:decide (0<kids.length)=false:=by have :=fL.o;simp;exact List.eq_nil_of_length_eq_zero O'
     have I:XK g F d kind text m us=some r:=QD
     have h8:¬m.length=8:=O'
     have PQ:=lh (show Pre w3 rb B d us∧us.length<=ts.length from⟨P3.o,HU.o⟩);have GQ:=G3;have FQ:=F3;have PL:=lh (Y0 us.length);clear HQ;have n8:((kids.length:Int)==8)=false:=by have:=fL.o;simp;omega
     have y:=I;unfold XK at y;rw[Y3 h8]at y;have y:=lh y;clear I;go_wp2_with fail
     refine Z8 [0,2,4,6,8,10,12,15,17,19,21] [11,12,13] (λW=>vC W nb 3 (.slice p kids.length cp)) n3 λ_=>?_;refine dW ?_
     iterate 7
      refine dV ?_
     refine Z6 (λK hK=>?_);go_simp
     have jM:us.length<=ts.length:=PQ.o.2;rcases Z9f y.o with⟨hk,h1⟩|⟨hk,rfl⟩
     .refine(Tj w3.drew rb us d PQ.o.1.rd.drew hk).mono ?_;rintro e wa⟨rfl,za,iG⟩;have lj:RFr w3 wa rb:=(RFr.refl w3 rb).drew.trans iG;refine Zst ?_;intro qW ac m3;clear hK K;refine Z6 (λK hK=>?_);go_simp
      have E:Below wa.heap.size wa (wa.alloc (.cells #[vI 23,.string (bL us).text,vI 0,.slice none 0 0] 42)):=(Y2 _ _).alloc (Y0 _) _;have J:=Got.leaf (w0:=wa) (w:=wa) (rb:=rb) (B:=B) (k:=23) (t:=(bL us).text) (n:=0) (Y4 HP.o.le (FQ.o.trans lj).size) (RFr.refl _ _);refine(Zv wa rb 23 (bL us).text none 0 0).mono ?_;rintro e dD⟨rfl,dl⟩;rw[<-dl]at J E;have iM:RFr w3 dD rb:=lj.trans (RFr.below E);have eM:=qW.rfr aA (RFr.below (rb:=rb) E);have bK:=za.below E;refine sJ ?_
      intro ac;refine Znu ?_;intro m3;refine BS ?_;intro mz de dJ aK;have gz:kids.length<=8:=PI
      obtain⟨a,O⟩:∃a:ATree,a=.mk wa.heap.size (.slice none 0 0) 23 (bL us).text 0 []:=⟨_,rfl⟩
      rw[<-O]at J;have jy:vP wa.heap.size=(vP a.b):=by rw[O];rfl
      rw[jy];clear O jy;have N3:=lh eM;have A3:=lh J;have R3:=lh bK;have jd:=lh (FQ.o.trans iM);have NE:=lh aK;have NA:=lh (λx hx=>(qW.new x hx).2);have m':=lh h1;refine s5 ?_;intro i0 hi aD bo bT;clear hK K J bK iM eM ac dJ aK h1 n3 iG lj qW za E dl;refine ta ?_;intro K hK;refine Aaf ?_;intro gg cap w4 aT aC bX cg;refine RJ ?_;intro m4;refine RF ?_;clear hK K;intro lT;have aj:=Got.push aA HP.o.le N3.o (wA:=wa) NA.o A3.o jd.o R3.o ((Below.refl _ _).alloc (Nat.le_refl _) _) aC aT (bX.imp id λh=>by omega) cg;have ca:=lh aj;clear aj;refine Z0 ?_;clear aC aT bX cg;go_wp2;go_roundw
      case rel=>
       refine⟨g,m++[.mk 23 (bL us).text 0 []],us.tail,.slice (some ⟨gg,0,none⟩) (kids.length+1) cap,kids++[a],by omega,m'.o,?_,ca.o.2.2,ca.o.2.1,by have:=HL.o;simp;omega,by rw[List.length_tail];omega⟩;have h1:=ca.o.1;have h2:=GQ.o.tree;exact y8
      case measure=>
       exact Zvm
     .refine(UU w3.drew rb us d PQ.o.1.rd.drew hk).mono ?_;exact Zvj
    .have a0:decide (0<kids.length)=true:=by have :=fL.o;simp;omega
     have U:=HQ.o;rw[Y5 O']at U;by_cases hc:aa wJ us=true
     .have I:XK g F d kind text m us.tail=some r:=by rw[iB,Y5 hc]at U;exact U
      have HC:=Hb w3 rb us d wJ P3.o.rd hc;unfold wJ at HC;have HC:=lh HC;clear U hc HQ;go_wp2_with fail
      refine Zt7 ?_;intro iE eZ bh PQ GQ FQ PL ac;clear n3;have n3:vC iE nb 3 (.slice p kids.length cp):=Pd
      clear eZ bh HC ac F3 G3 P3;by_cases h8:m.length=8
      .have n8:((kids.length:Int)==8)=true:=by have :=fL.o;simp;omega
       have hr:r=.error (4,(bL us.tail).at'):=by
        unfold XK at I;rw[Y5 h8]at I;exact(Yc I).symm
       subst hr;have HE:=lh (S7 iE rb us.tail d 4 PQ.o.1.rd);clear I;go_wp2_with fail
       refine HE.o.mono ?_;exact yR
      .skip
       have n8:((kids.length:Int)==8)=false:=by have:=fL.o;simp;omega
       have y:=I;unfold XK at y;rw[Y3 h8]at y;have y:=lh y;clear I;go_wp2_with fail
       refine Z8 [0,2,4,6,8,10,12,15,17,19,21] [11,12,13] (λW=>vC W nb 3 (.slice p kids.length cp)) n3 λ_=>?_;refine dW ?_
       iterate 7
        refine dV ?_
       refine Z6 (λK hK=>?_);go_simp
       have jM:us.tail.length<=ts.length:=PQ.o.2;rcases Z9f y.o with⟨hk,h1⟩|⟨hk,rfl⟩
       .refine(Tj iE.drew rb us.tail d PQ.o.1.rd.drew hk).mono ?_;rintro e wa⟨rfl,za,iG⟩;have lj:RFr iE wa rb:=(RFr.refl iE rb).drew.trans iG;refine Zst ?_;intro qW ac m3;clear hK K;refine Z6 (λK hK=>?_);go_simp
        have E:Below wa.heap.size wa (wa.alloc (.cells #[vI 23,.string (bL us.tail).text,vI 0,.slice none 0 0] 42)):=(Y2 _ _).alloc (Y0 _) _;have J:=Got.leaf (w0:=wa) (w:=wa) (rb:=rb) (B:=B) (k:=23) (t:=(bL us.tail).text) (n:=0) (Y4 HP.o.le (FQ.o.trans lj).size) (RFr.refl _ _);refine(Zv wa rb 23 (bL us.tail).text none 0 0).mono ?_;rintro e dD⟨rfl,dl⟩;rw[<-dl]at J E;have iM:RFr iE dD rb:=lj.trans (RFr.below E);have eM:=qW.rfr aA (RFr.below (rb:=rb) E);have bK:=za.below E
        refine sJ ?_;intro ac;refine Znu ?_;intro m3;refine BS ?_;intro mz de dJ aK;have gz:kids.length<=8:=PI
        obtain⟨a,O⟩:∃a:ATree,a=.mk wa.heap.size (.slice none 0 0) 23 (bL us.tail).text 0 []:=⟨_,rfl⟩
        rw[<-O]at J;have jy:vP wa.heap.size=(vP a.b):=by rw[O];rfl
        rw[jy];clear O jy;have N3:=lh eM;have A3:=lh J;have R3:=lh bK;have jd:=lh (FQ.o.trans iM);have NE:=lh aK;have NA:=lh (λx hx=>(qW.new x hx).2);have m':=lh h1;refine s5 ?_;intro i0 hi aD bo bT;clear hK K J bK iM eM ac dJ aK h1 n3 iG lj qW za E dl;refine ta ?_;intro K hK;refine Aaf ?_;intro gg cap w4 aT aC bX cg;refine RJ ?_;intro m4;refine RF ?_;clear hK K;intro lT;have aj:=Got.push aA HP.o.le N3.o (wA:=wa) NA.o A3.o jd.o R3.o ((Below.refl _ _).alloc (Nat.le_refl _) _) aC aT (bX.imp id λh=>by omega) cg;have ca:=lh aj;clear aj;refine Z0 ?_;clear aC aT bX cg;go_wp2;go_roundw
        case rel=>
         refine⟨g,m++[.mk 23 (bL us.tail).text 0 []],us.tail.tail,.slice (some ⟨gg,0,none⟩) (kids.length+1) cap,kids++[a],by omega,m'.o,?_,ca.o.2.2,ca.o.2.1,by have:=HL.o;simp;omega,by rw[List.length_tail];omega⟩;have h1:=ca.o.1;have h2:=GQ.o.tree;exact y8
        case measure=>
         exact Zvm
       .refine(UU iE.drew rb us.tail d PQ.o.1.rd.drew hk).mono ?_;exact Zvj
     .have hr:r= .error (3,(bL us).at'):=by rw[iB,Y3 hc]at U;exact(Yc U).symm
      subst hr;have HC:=RG w3 rb us d wJ P3.o.rd (by simpa using hc);unfold wJ at HC;have HC:=lh HC;clear U hc HQ;exact Zsw
 .have HC:=lh (RG w rb ts d ub Y.rd hs);clear Y hp hw hs;go_enter Tryz.func99,Tryz.ntmps99
  exact T3
theorem Zkd(F:Nat)(hS:∀g,g<F->c9 65 cQ .stmt g) :
 c9 27 (λrb=>#[vP rb,vI 1,.string ⟨#[]⟩]) (.stmts 1 []) F:=by
 intro w rb B d ts r m hp;have I:=lh (Zv w rb 1 ⟨#[]⟩ none 0 0);have HP:=lh m;have HQ:=lh hp;have HS:=lh hS;refine Dz ?_;intro iV;obtain⟨nb,J⟩:=zX w.heap.size
 have u:=Got.leaf (k:=1) (t:=⟨#[]⟩) (n:=0) m.le (RFr.refl w rb);have O:=m.rd.below ((Y2 _ _).alloc (Y0 _) (.cells #[vI 1,.string ⟨#[]⟩,vI 0,.slice none 0 0] 42));have U:RFr w (w.alloc (.cells #[vI 1,.string ⟨#[]⟩,vI 0,.slice none 0 0] 42)) rb:=RFr.below ((Y2 _ _).alloc (Y0 _) _);rw[<-J]at u I;clear m hp hS;simp only;go_enter Tryz.func27,Tryz.ntmps27
 go_wp2_with fail
 refine I.o.mono ?_;rintro e w1⟨rfl,eh⟩;rw[<-eh]at u O U;have hst:∃(g:Nat) (ao:List Tree) (us:List Tok) (v:Value) (kids:List ATree),g<=F∧Z3 g (.stmts 1 ao) d us=some r∧Got w B w1 (.mk nb v 1 ⟨#[]⟩ 0 kids) (.mk 1 ⟨#[]⟩ 0 ao)∧Rd w1 rb us d∧RFr w w1 rb∧ao.length+us.length<=ts.length∧(∀x∈ao,x.kind=15->x.kids≠[]):=
  ⟨F,[],ts,_,[],Y0 _,HQ.o,u,O,U,by simp,λx hx=>by cases hx⟩
 have X:=lh hst;have th:=lh J;clear hst eh u O U I J;go_wp2_with fail
 go_loopw [] (λwr=>∃(g:Nat) (ao:List Tree) (us:List Tok) (v:Value) (kids:List ATree),g<=F∧Z3 g (.stmts 1 ao) d us=some r∧Got w B wr (.mk nb v 1 ⟨#[]⟩ 0 kids) (.mk 1 ⟨#[]⟩ 0 ao)∧Rd wr rb us d∧RFr w wr rb∧ao.length+us.length<=ts.length∧(∀x∈ao,x.kind=15->x.kids≠[])) (λwr=>leftOf wr rb)
 case atStart=>exact X.o
 case round=>
  obtain⟨g,ao,us,v,kids,hg,hq,Y,Z,hF,hl,hx⟩:=hrel;have G:=lh Y;have R:=lh Z;have FF:=lh hF;have HX:=lh hx;have RL:=lh Z.left;cases g with
  |zero=>cases hq
  |succ g=>
  rw[Z3]at hq;obtain⟨tb,off,Od,y⟩:=Z;have c0:=y.c0;have k0:=y.hd (j:=0) (x:=(vI (bL us).kind)) rfl;rw[Nat.add_zero]at k0;have H9:=y.pos;clear y;by_cases hb:(bL us).kind=6
  .have nk:((bL us).kind !=6)=false:=by simp[hb]
   rw[Y5 (by rw[Y5 rfl];simpa using hb)]at hq;have hr:=Yc hq;have tC:=lh hr.symm;clear Y hF hq hr hb hx X;have au:Below wr.heap.size wr wr:=Y2 _ _;refine Zwu ?_;intro aA F2 G2 R2 ac ae;have E:vC wr nb 3 v:=Pd
   have nz:wr.frozen? ⟨nb,1,none⟩=false:=PK
   have Lr:vC wr nb 1 (.string ⟨#[]⟩):=Pd
   have l9:=G2.o.tree;simp only[ATree.tree,Tree.mk.injEq,true_and]at l9;have pW:TU ao=false->ll w rb B d r (.returned (vP nb)) wr:=λh=>by
    rw[tC.o,h];exact⟨_,rfl,G2.o,R2.o,F2.o⟩
   have pG:=lh pW;have pX:TU ao=true->ll w rb B d r (.returned (vP nb)) (wr.setCell ⟨nb,1,none⟩ (.string RB)):=λh=>by
    exact Zwi
   have yq:=lh pX;have kA:=lh l9;have bO:∀a∈kids,TreeAt wr B a:=λa ha=>G2.o.at'.kid (k:=a) ha;have lZ:=lh bO;clear au ac pW pX l9 bO FF G R;cases kids with
   | nil =>
     exact XO
   | cons a0 ks =>
     rcases Z4 ae with⟨_,h0⟩|⟨g0,gf,rfl,k1,k2,k3⟩;·simp at h0
     have p0:=Zn ae (g:=g0) rfl (i:=0) (x:=a0.ptr) rfl;have rR:=lZ.o a0 Pg;have fA:=rR.blkOf;have rQ:=rR.rowOf;have mC:=HX.o a0.tree (by rw[<-kA.o];simp[fs]);obtain⟨b0,v0,xu,t0,n0,l0⟩:=a0;simp only[ATree.b,ATree.v,ATree.kind,ATree.text,ATree.n,ATree.kids,ATree.ptr,List.length_cons]at fA rQ p0 k1 E ⊢;unfold maxLen at k2;have d0:vC wr b0 0 (vI xu):=QA
     have d3:vC wr b0 3 v0:=QA
     by_cases xv:xu=15
     .subst xv;cases l0 with
      |nil=>exact absurd rfl (mC rfl)
      |cons x xs=>
      rcases Z4 rQ with⟨_,h0⟩|⟨g1,DY,rfl,j1,j2,j3⟩;·simp at h0
      have p1:=Zn rQ (g:=g1) rfl (i:=0) (x:=x.ptr) rfl;have ai:=(rR.kid (k:=x) (by simp[ATree.kids])).blkOf;obtain⟨b1,v1,xp,t1,n1,l1⟩:=x;simp only[ATree.b,ATree.v,ATree.kind,ATree.text,ATree.n,ATree.ptr,List.length_cons]at ai p1 j1 d3;unfold maxLen at j2;have e0:vC wr b1 0 (vI xp):=QB
      have e1:vC wr b1 1 (.string t1):=QB
      exact Xj
     .exact Zvz
  .have nk:((bL us).kind !=6)=true:=by simpa using hb
   rw[Y3 (by rw[Y5 rfl];simpa using hb)]at hq;have cC:=lh hq;clear Y hF hq hb hx X;have au:Below wr.heap.size wr wr:=Y2 _ _;have F2:=FF.o.trans (RFr.below (rb:=rb) au);have G2:=G.o.rfr HP.o.lt (RFr.below (rb:=rb) au);have R2:=R.o.below au;have E:vC wr nb 3 v:=Py
   have F2:=lh F2;have G2:=lh G2;have R2:=lh R2;clear au FF G R;go_wp2_with fail
   refine Z8 [0,2,4,6,8,10,12,14,17,19,21] [11,12,13] (λW=>vC W nb 3 v) E λ_=>?_;refine dW ?_
   iterate 8
    refine dV ?_
   refine Z6 (λK hK=>?_);go_simp
   have aA:=HP.o.lt;have pY:RFr wr wr.drew rb:=(RFr.refl wr rb).drew;have jM:us.length<=4000:=Q9
   have sn:B<=wr.drew.heap.size:=Y4 HP.o.le F2.o.size;rcases Zf cC.o with⟨⟨c,p⟩,hv,rfl⟩|⟨t,vs,hv,gV⟩
   .refine(UV wr.drew rb B us d _ _ R2.o.drew Qz aA hv λhd h1 w1 dF hs=>HS.o g O' w1 rb B (d+1) us _ ⟨dF,hd,aA,by omega,jM⟩ h1).mono ?_;exact Zt8
   .have dA:vs.length<us.length:=Leaves.within (Ut g .stmt (d+1) us) t vs hv;have pu:t.kind=15->t.kids≠[]:=by
     exact Zub
    have GT:=lh pu;have m':=lh gV;refine(UV wr.drew rb B us d _ _ R2.o.drew Qz aA hv λhd h1 w1 dF hs=>HS.o g O' w1 rb B (d+1) us _ ⟨dF,hd,aA,by omega,jM⟩ h1).mono ?_;rintro e w3⟨a,rfl,hA,bK,bq⟩;have iM:RFr wr w3 rb:=pY.trans bq;have eM:=G2.o.rfr aA iM;refine sJ ?_;intro ac;have m3:vC w3 nb 3 v:=Pd
    refine SY ?_;intro mz de;refine Ue ?_;intro dJ;refine Zwn ?_;intro aK ba gz N3 A3 R3 F3 NE fL;refine s5 ?_;intro i0 hi aD bo bT;clear hK K hA bK bq iM eM ac dJ aK pu gV hv ba E pY;refine ta ?_;intro K hK;refine Yz ?_;intro gg cap w4 aT aC bX cg m4;refine RF ?_;clear hK K;intro lT;have aj:=Got.push aA HP.o.le N3.o (wA:=wr.drew) (λx hx=>(G2.o.new x hx).2) A3.o F3.o R3.o ((Y2 _ _).alloc (Y0 _) _) aC aT Pk cg;exact tr7
theorem Got.cells{w0 w:World}{B b:Nat}{v:Value}{k n:Int}{tx:ByteArray}{kids:List ATree}{t:Tree}(N:Got w0 B w (.mk b v k tx n kids) t) :
 vC w b 0 (vI k)∧vC w b 1 (.string tx)∧vC w b 3 v∧(∀j,w.frozen? ⟨b,j,none⟩=false)∧b<w.heap.size:=by
 have hb:=N.at'.blkOf;simp only[ATree.b,ATree.v,ATree.kind,ATree.text,ATree.n]at hb;exact⟨by simp[vC,World.cell?,hb],by simp[vC,World.cell?,hb],by simp[vC,World.cell?,hb],λj=>by simp[World.frozen?,hb],(Y1.1 hb).1⟩
def SO(a:ATree)(l:List ByteArray):List ByteArray:=if a.kind==2 then jn l a.text else l
theorem Zgx(a:ATree)(l:List ByteArray):uR CL a l=cond (TP a) (SO a l) (rf CL a.kids (SO a l)):=by
 rw[Z91];have g:(CL l a).1=!TP a:=rfl;have m:(CL l a).2=SO a l:=rfl;rw[m];cases hi:TP a with
 |true=>rw[Y3 (by rw[g,hi];decide)];rfl
 |false=>rw[Y5 (by rw[g,hi];rfl)];rfl
theorem UE{a b:ATree}(h:a.tree=b.tree):a.kind=b.kind∧a.text=b.text∧a.n=b.n∧fs a.kids=fs b.kids:=by
 cases a;cases b;simp only[ATree.tree,Tree.mk.injEq]at h;exact h
mutual
theorem Z9x:∀a:ATree,(a.subs.map ATree.b).Sublist a.blocks
 | .mk b v k t n ks => by
   simp only[ATree.subs,List.map_cons,ATree.b,ATree.blocks];exact List.Sublist.cons_cons _ ((Z8v ks).trans (by first|exact List.Sublist.refl _|exact List.sublist_append_right _ _))
theorem Z8v:∀l:List ATree,((ox l).map ATree.b).Sublist (Zl l)
 | []=>by simp[ox]
 | a :: l => by
   simp only[ox,Zl,List.map_append];exact List.Sublist.append (Z9x a) (Z8v l)
end
theorem Got.apart{w w':World}{B:Nat}{a:ATree}{t:Tree}(h:Got w B w' a t):(a.subs.map ATree.b).Nodup:=h.nodup.sublist (Z9x a)
def VS(l:List (Nat×Nat)):Prop:=∀(i:Nat) (x:Nat×Nat),l[i]?=some x->x.2=i
theorem VS.push{l:List (Nat×Nat)}(h:VS l)(b:Nat):VS (l++[(b,l.length)]):=by
 intro i x hx;rcases Nat.lt_or_ge i l.length with hi|hi
 .rw[List.getElem?_append_left hi]at hx;exact h i x hx
 .rw[List.getElem?_append_right hi]at hx;cases hd:i-l.length with
  | zero =>
    rw[hd]at hx;simp only[List.getElem?_cons_zero,Option.some.injEq]at hx;rw[<-hx];simp only;omega
  |succ n=>rw[hd]at hx;simp at hx
mutual
theorem Zbh:∀(a:ATree) (l:List (Nat×Nat)),VS l->VS (uR lw a l)
 | .mk b v k t n ks, l, h => by
   simp only[uR,lw,if_true];exact Z9w ks _ (h.push _)
theorem Z9w:∀(ks:List ATree) (l:List (Nat×Nat)),VS l->VS (rf lw ks l)
 | [],l,h=>by simpa[rf]using h
 | a :: ks, l, h => by
   simp only[rf];exact Z9w ks _ (Zbh a l h)
end
def numOf(a:ATree)(b:Nat):Nat:=(a.subs.map ATree.b).idxOf b
theorem Zmk(a x:ATree)(hx:x∈a.subs):(x.b,numOf a x.b)∈uR lw a []:=by
 have hk:=Zc5 a [];simp only[List.map_nil,List.nil_append]at hk;have hp:=Zbh a [] (λi x h=>by simp at h);have o:x.b∈a.subs.map ATree.b:=List.mem_map.2 ⟨x,hx,rfl⟩;have hi:numOf a x.b<(a.subs.map ATree.b).length:=List.idxOf_lt_length_of_mem o;have hl:numOf a x.b<(uR lw a []).length:=by rw[<-hk,Ym]at hi;exact hi
 obtain⟨y,g⟩:∃y,(uR lw a [])[numOf a x.b]?=some y:=⟨_,Y6 hl⟩
 have p:=hp _ _ g;have m:(a.subs.map ATree.b)[numOf a x.b]?=some y.1:=by rw[<-hk,Yg,g];rfl
 have u:(a.subs.map ATree.b)[numOf a x.b]?=some x.b:=by
  exact(Y6 hi).trans (congrArg some (List.getElem_idxOf hi))
 rw[u]at m;have E:y=(x.b,numOf a x.b):=Prod.ext (Yc m).symm p;rw[<-E];exact Yd g
mutual
theorem Zij:∀(a b:ATree),a.tree=b.tree->∀l,uR CL a l=uR CL b l
 | .mk b1 u g m y o, .mk b2 v2 I t2 E p, h, l => by
   simp only[ATree.tree,Tree.mk.injEq]at h;obtain⟨rfl,rfl,_,h⟩:=h;rw[Zgx,Zgx];have F:TP (.mk b1 u g m y o)=TP (.mk b2 v2 g m E p):=rfl;have G:SO (.mk b1 u g m y o) l=SO (.mk b2 v2 g m E p) l:=rfl;rw[F,G];simp only[ATree.kids];rw[Z7e o p h]
theorem Z7e:∀(g m:List ATree),fs g=fs m->∀l,rf CL g l=rf CL m l
 | [],[],_,l=>rfl
 | [],_::_,h,_=>by simp[fs]at h
 |_::_,[],h,_=>by simp[fs]at h
 | a :: g, b :: m, h, l => by
   simp only[fs,List.cons.injEq]at h;simp only[rf];rw[Zij a b h.1,Z7e g m h.2]
end
theorem Zb8{a b:ATree}(h:a.tree=b.tree):yw a=yw b:=Z7e _ _ (UE h).2.2.2 _
theorem Wm(p:ATree->Bool)(hp:∀a b:ATree,a.kind=b.kind->p a=p b):∀(g m:List ATree),fs g=fs m->(g.filter p).map ATree.text=(m.filter p).map ATree.text
 | [],[],_=>rfl
 | [],_::_,h=>by simp[fs]at h
 |_::_,[],h=>by simp[fs]at h
 | a :: g, b :: m, h => by
   simp only[fs,List.cons.injEq]at h;have o:=Wm p hp g m h.2;obtain⟨u,y,_,_⟩:=UE h.1;have E:=hp a b u;simp only[List.filter_cons];rw[E];split;·simp only[List.map_cons,o,y]
   .exact o
theorem Z98(a b:ATree)(h:a.kind=b.kind):wW a=wW b:=by unfold wW;rw[h]
theorem Z8k(a b:ATree)(h:a.kind=b.kind):wH a=wH b:=by unfold wH;rw[h]
theorem Z84(l:List ByteArray)(ks:List ATree):wU l ks=(ks.map ATree.text).foldl jn l:=by
 unfold wU;rw[List.foldl_map]
theorem Zfd{a b:ATree}(h:a.tree=b.tree)(body:Bool):FR body a=FR body b:=by
 have hk:=(UE h).2.2.2;unfold FR;rw[Z84,Z84,Z84,Z84,Wm wW Z98 _ _ hk,Wm wH Z8k _ _ hk,Zb8 h]
theorem jm.parts{w:World}{B:Nat}{v:Value}{l:List ATree}(h:jm w B v l):∃p m,v=.slice p l.length m∧l.length<=m∧m<=9223372036854775807:=by
 exact Zt0
theorem Zy.parts{w:World}{B:Nat}{v:Value}{l:List ByteArray}(h:Zy w B v l):∃p m,v=.slice p l.length m∧l.length<=m∧m<=9223372036854775807:=by
 exact Zt0
def Vn:ByteArray:=⟨#[101,118,97,108]⟩
structure EInv(w0:World)(c:Nat)(s:Bool)(w:World):Prop where
 cell:w.heap[c]?=some (.cells #[.bool s] 4 (0,0))
 bel:Below w0.heap.size w0 w
theorem EInv.set{w0 w:World}{c:Nat}{s:Bool}(h:EInv w0 c s w)(hc:w0.heap.size<=c)(r:Bool):EInv w0 c r (w.setCell ⟨c,0,none⟩ (.bool r)):=
 ⟨Zh (o:=0) (.bool r) h.cell,h.bel.setCell (p:=⟨c,0,none⟩) hc _⟩
def Zo8(a:ATree):Prop:=∀x∈a.subs,x.kind=35->x.kids≠[]
theorem Z8m{w2:World}{B:Nat}{v2:Value}{l:List ByteArray}{s:ByteArray}(h:w2.ownsRow B 9 1 v2 (l.length+1) (l.map Value.string++[.string s])):Zy w2 B v2 (l++[s]):=by
 unfold Zy;rw[Yi,Yl];exact h
structure Us where
 at':Int
 r:Int×Bool
def Us.cells(u:Us):List Value:=[vI u.at',vI u.r.1,.bool u.r.2]
def We:ByteArray:=⟨#[97,114,103,117,109,101,110,116,115]⟩
def Ka(st:Bool)(s:ByteArray):Bool:=st&&(Zg s Vn||Zg s We)
def VJ:List ByteArray->List ByteArray->Bool
 |_,[]=>false
 |seen,s::l=>Lib.containsS seen s||VJ (seen++[s]) l
def VL(lets vars:List ByteArray)(body:Bool):List ByteArray->List ByteArray->Bool
 |_,[]=>false
 |prev,s::l=>Lib.containsS lets s||(!body&&(prev.any (λo=>Zg o s)||Lib.containsS vars s))||VL lets vars body (prev++[s]) l
def L0(a:ATree):List ByteArray:=(a.kids.filter wH).map ATree.text
def Xu(a:ATree):List ByteArray:=(a.kids.filter wW).map ATree.text
def Lx(a:ATree)(body:Bool):Bool:=
 VJ [] (L0 a)||VL (L0 a) (yw a) body [] (Xu a)||(yw a).any (λs=>Lib.containsS (L0 a) s)
def Sb(a:ATree):Bool:=!(a.kind==3)&& !(a.kind==4)&& !(a.kind==5)
def Tu(st:Bool):List ByteArray->List ByteArray->Int
 |_,[]=>0
 |seen,s::l=>if Ka st s then 5 else if st&&Lib.containsS seen s then 9 else Tu st (seen++[s]) l
def Ts(st:Bool)(t:ByteArray)(ps:List ByteArray)(bd:ATree):Int:=
 if Ka st t then 5 else if Tu st [] ps≠0 then Tu st [] ps else if(L0 bd).any (λs=>Lib.containsS ps s)then 9 else if Lx bd true then 9 else 0
mutual
def qB:ATree→Bool→Bool→Int
 | .mk b v k t n ks, st, ins =>
   if k=2∨k=3∨k=4∨k=13 then
    (if Ka st t then 5 else if k=13∧(match ks with|x::_=>(FR false x).any (λs=>Zg s t)| []=>false)=true then 9 else rx ks st ins)
   else if k=5∨k=37 then(match ks with
    | ps :: .mk b2 v2 m t2 o g :: _ =>
      (if Ts (st||Zj (.mk b2 v2 m t2 o g)) t (ps.kids.map ATree.text) (.mk b2 v2 m t2 o g)≠0 then Ts (st||Zj (.mk b2 v2 m t2 o g)) t (ps.kids.map ATree.text) (.mk b2 v2 m t2 o g)
      else rx g (st||Zj (.mk b2 v2 m t2 o g)) true)
    |_=>0)
   else if k=6 then(if Lx (.mk b v k t n ks) false then 9 else rx ks st ins)
   else if k=7∨k=8∨k=9 then(if(k==9&&st)||(ks.drop 1).any (λx=>!Sb x)then 1 else rx ks st ins)
   else if k=10 then(if ins then rx ks st ins else 6)
   else if k=24 then(if(match ks with|x::_=>x.kind==23&&Ka st x.text| []=>false)=true then 5 else rx ks st ins)
   else if k=34 then(if(match ks with|x::_=>st&&x.kind==23| []=>false)=true then 1 else rx ks st ins)
   else rx ks st ins
def rx:List ATree->Bool->Bool->Int
 | [],_,_=>0
 |a::l,st,ins=>if qB a st ins≠0 then qB a st ins else rx l st ins
end
def LW(a:ATree)(st ins:Bool):Int:=
 if Lx a true then 9 else rx a.kids (st||Zj a) ins
theorem Z7f{a b:ATree}(h:a.tree=b.tree)(body:Bool):Lx a body=Lx b body:=by
 have hk:=(UE h).2.2.2;have g:L0 a=L0 b:=Wm wH Z8k _ _ hk;have m:Xu a=Xu b:=Wm wW Z98 _ _ hk;unfold Lx;rw[g,m,Zb8 h]
theorem Zgj:∀(l m:List ATree),fs l=fs m->l.any (λx=>!Sb x)=m.any (λx=>!Sb x)
 | [],[],_=>rfl
 | [],_::_,h=>by simp[fs]at h
 |_::_,[],h=>by simp[fs]at h
 | a :: l, b :: m, h => by
   simp only[fs,List.cons.injEq]at h;have e:Sb a=Sb b:=by unfold Sb;rw[(UE h.1).1]
   simp only[List.any_cons,e,Zgj l m h.2]
theorem Zhe(l m:List ATree)(h:fs l=fs m):l.map ATree.text=m.map ATree.text:=by
 have:=Wm (λ_=>true) (λ_ _ _=>rfl) _ _ h;rwa[List.filter_eq_self.2 (λ_ _=>rfl),List.filter_eq_self.2 (λ_ _=>rfl)]at this
theorem Z6u{m:Nat}(p:∀(a b:ATree) (st ins:Bool),a.many<=m->a.tree=b.tree->qB a st ins=qB b st ins) :
 ∀(g o:List ATree) (st ins:Bool),xQ g<=m->fs g=fs o->rx g st ins=rx o st ins
 | [],[],_,_,_,_=>rfl
 | [],_::_,_,_,_,h=>by simp[fs]at h
 |_::_,[],_,_,_,h=>by simp[fs]at h
 | a :: g, b :: o, st, ins, u, h => by
   simp only[fs,List.cons.injEq]at h;simp only[xQ]at u;unfold rx;rw[p a b st ins O' h.1,Z6u p g o st ins O' h.2]
theorem Zb3:∀(m:Nat) (a b:ATree) (st ins:Bool),a.many<=m->a.tree=b.tree->qB a st ins=qB b st ins
 |0,a,_,_,_,h,_=>by cases a;simp[ATree.many]at h
 | m + 1, .mk b1 v1 k t n1 p, .mk b2 v2 k2 t2 n2 I, st, ins, X, h => by
   have J:=Zb3 m;have hs:=Z7f h false;simp only[ATree.tree,Tree.mk.injEq]at h;obtain⟨rfl,rfl,_,g⟩:=h;have o:xQ p<=m:=by simp only[ATree.many]at X;omega
   have O:=Z6u J p I st ins o g;rw[qB.eq_def,qB.eq_def];simp only[];rw[O,hs];clear O hs;match p,I,o,g with
   | [],[],_,_=>rfl
   | [],_::_,_,h=>simp[fs]at h
   |_::_,[],_,h=>simp[fs]at h
   | x :: r, y :: s, o, g =>
     simp only[fs,List.cons.injEq]at g;obtain⟨Y,Z,_,e4⟩:=UE g.1;have e5:=Zgj r s g.2;simp only[List.drop_succ_cons,List.drop_zero];simp only[Zfd g.1 false,e5,Y,Z];match r,s,o,g.2 with
     | [],[],_,_=>rfl
     | [],_::_,_,h=>simp[fs]at h
     |_::_,[],_,h=>simp[fs]at h
     | .mk c1 w1 u E U lc :: r, .mk c2 w2 kd td nd F :: s, o, h5 =>
       simp only[fs,List.cons.injEq]at h5;have hb:=h5.1;have aN:=Z7f hb true;have hl:L0 (.mk c1 w1 u E U lc)=L0 (.mk c2 w2 kd td nd F):=Wm wH Z8k _ _ (UE hb).2.2.2;simp only[ATree.tree,Tree.mk.injEq]at hb;obtain⟨rfl,rfl,_,e6⟩:=hb;have hst:Zj (.mk c1 w1 u E U lc)=Zj (.mk c2 w2 u E nd F):=rfl;simp only[xQ,ATree.many]at o;have o8:=λst ins=>Z6u J lc F st ins O' e6;simp only[];unfold Ts;simp only[hst,aN,hl,o8,Zhe _ _ e4]
theorem Zep{a b:ATree}(h:a.tree=b.tree)(st ins:Bool):LW a st ins=LW b st ins:=by
 obtain⟨g,m,_,o⟩:=UE h;have hst:Zj a=Zj b:=by unfold Zj;rw[g,m]
 unfold LW;rw[Z7f h true,hst,Z6u (Zb3 (xQ a.kids)) _ _ _ _ (Y0 _) o]
inductive NT
 |mk(num kind:Int)(text:ByteArray)(n:Int)(kids:List NT)
def NT.num:NT->Int| .mk i _ _ _ _=>i
def NT.kind:NT->Int| .mk _ k _ _ _=>k
def NT.text:NT->ByteArray| .mk _ _ t _ _=>t
def NT.n:NT->Int| .mk _ _ _ n _=>n
def NT.kids:NT->List NT| .mk _ _ _ _ l=>l
def NT.zero:NT:=.mk (-3) 0 ⟨#[]⟩ 0 []
def NT.kid(x:NT)(i:Nat):NT:=x.kids.getD i NT.zero
mutual
def NT.tree:NT->Tree
 | .mk _ k t n l=>.mk k t n (pL l)
def pL:List NT->List Tree
 | []=>[]
 |a::l=>a.tree::pL l
end
mutual
def ATree.nt(N:Nat->Int):ATree->NT
 | .mk b _ k t n l=>.mk (N b) k t n (Sf N l)
def Sf(N:Nat->Int):List ATree->List NT
 | []=>[]
 |a::l=>a.nt N::Sf N l
end
mutual
def Tree.bare:Tree->NT
 | .mk k t n l=>.mk (-3) k t n (Wn l)
def Wn:List Tree->List NT
 | []=>[]
 |a::l=>a.bare::Wn l
end
mutual
def Tree.a:Tree->ATree
 | .mk k t n l=>.mk 0 .nilIface k t n (Znb l)
def Znb:List Tree->List ATree
 | []=>[]
 |a::l=>a.a::Znb l
end
mutual
def Wq:NT->List ByteArray->List ByteArray
 | .mk _ k t _ l,g=>if k=5∨k=37 then g else Ur l (if k=2 then jn g t else g)
def Ur:List NT->List ByteArray->List ByteArray
 | [],g=>g
 |x::l,g=>Ur l (Wq x g)
end
def NT.vars(x:NT):List ByteArray:=Ur x.kids []
def NT.funcs(x:NT):List NT:=x.kids.filter λk=>k.kind==5
def NT.lets(x:NT):List NT:=x.kids.filter λk=>k.kind==3||k.kind==4
def NT.names(body:Bool)(x:NT):List ByteArray:=(x.lets.map NT.text).foldl jn ((x.funcs.map NT.text).foldl jn (if body then x.vars else[]))
def NT.strict(x:NT):Bool:=Zg x.text RB&&(x.kind==1||x.kind==6)
def NT.check(x:NT)(st ins:Bool):Int:=LW x.tree.a st ins
structure Clo where
 node:NT
 scope:Int
 strict:Bool
structure Frm where
 strict:Bool
 vars:Int
inductive Er
 |stop
 |thr(v:LVal)
structure MSt where
 H:LHeap
 log:List ByteArray
 steps:Int
 seen:List (Int×Int)
 owners:List Int
 clos:List Clo
 glob:Int
 outer:Int
 top:Int
 calls:Int
 last:LVal
abbrev RM(α:Type):=MSt->MSt×Except Er α
section
variable {α β:Type}
def f7(a:α):RM α:=λs=>(s,.ok a)
def tO(e:Er):RM α:=λs=>(s,.error e)
def LVal.say(t:ByteArray):LVal:=⟨4,0,t⟩
def LVal.is(b:Bool):LVal:=⟨2,if b then 1 else 0,⟨#[]⟩⟩
def LVal.num(n:Int):LVal:=⟨3,n,⟨#[]⟩⟩
def LVal.ref(n:Int):LVal:=⟨5,n,⟨#[]⟩⟩
def tG(t:ByteArray):RM α:=tO (.thr (.say t))
def gE(m:RM α)(k:α->RM β):RM β:=λs=>match m s with
 |(s1,.ok a)=>k a s1
 |(s1,.error e)=>(s1,.error e)
end
def RO:ByteArray:=⟨#[114,101,102,101,114,101,110,99,101]⟩
def wh:ByteArray:=⟨#[116,121,112,101]⟩
def Sp:ByteArray:=⟨#[114,97,110,103,101]⟩
def MK:ByteArray:=⟨#[115,121,110,116,97,120]⟩
def SP:ByteArray:=⟨#[101,118,97,108]⟩
def Sd:ByteArray:=⟨#[112,114,105,110,116]⟩
def Zd:ByteArray:=⟨#[97,114,103,117,109,101,110,116,115]⟩
def VZ:ByteArray:=⟨#[108,101,110,103,116,104]⟩
def Zcu:ByteArray:=⟨#[98,111,111,108,101,97,110]⟩
def Zgq:ByteArray:=⟨#[110,117,109,98,101,114]⟩
def Zgt:ByteArray:=⟨#[115,116,114,105,110,103]⟩
def LHeap.objectOf(H:LHeap)(n:Int):Int:=match H.scope? n with|some s=>s.object|none=>-1
def LHeap.outerOf(H:LHeap)(n:Int):Int:=match H.scope? n with|some s=>s.outer|none=>-1
def LHeap.kindOf(H:LHeap)(n:Int)(name:ByteArray):Int:=
 match H.scope? n with
 |none=>-1
 | some s => if 0 ≤ s.object then -1 else match (s.idx name).bind fun k => s.names[k]? with
   |none=>-1
   |some b=>b.kind
namespace MSt
variable (s:MSt)
def setH(H:LHeap):MSt:={s with H:=H}
def next:Int:=s.H.scopes.length
def nextO:Int:=s.H.objects.length
def opens(outer object owner:Int):MSt:={s with H:={s.H with scopes:=s.H.scopes++[⟨outer,object,[]⟩]},owners:=s.owners++[owner]}
def object(code:Int):MSt:=s.setH {s.H with objects:=s.H.objects++[⟨[],code⟩]}
def declare(sc:Int)(name:ByteArray)(kind:Int)(v:LVal):MSt:=s.setH (s.H.declare sc name kind v).1
def put(o:Int)(name:ByteArray)(v:LVal)(fixed:Bool):MSt:=s.setH (s.H.put o name v fixed).1
def write(sc:Int)(name:ByteArray)(v:LVal):MSt:=s.setH (s.H.write sc name v).1
def bindTo(sc:Int)(name:ByteArray)(v:LVal):MSt:=if(s.H.declare sc name 0 v).2=0 then s.declare sc name 0 v else s.write sc name v
def loose(sc:Int)(name:ByteArray):MSt:=
 if s.H.has sc name then s else if 0<=s.H.objectOf sc then s.put (s.H.objectOf sc) name LVal.zero false else s.declare sc name 4 LVal.zero
def lets(l:List NT)(sc:Int):MSt:=l.foldl (λs k=>s.declare sc k.text (if k.kind=4 then 2 else 1) LVal.zero) s
end MSt
def NT.named(x:NT):Bool:=x.kind==37&& !Zg x.text ⟨#[]⟩
namespace MSt
variable (s:MSt)
def funS(n:NT)(sc:Int)(fr:Frm):MSt:=
 let s1:=if n.named then s.opens sc (-1) n.num else s
 let g:=if n.named then s.next else sc
 let m:=({s1 with clos:=s1.clos++[⟨n,g,fr.strict||(n.kid 1).strict⟩]}:MSt).object (3+s.clos.length)
 if n.named then m.declare g n.text 3 (.ref s.nextO)else m
def funcs(p:MSt->ByteArray->MSt)(g:MSt->ByteArray->LVal->MSt)(l:List NT)(sc:Int)(fr:Frm):MSt:=
 l.foldl (λs k=>g ((p s k.text).funS k sc fr) k.text (.ref (p s k.text).nextO)) s
def look(n:NT)(sc:Int)(name:ByteArray):MSt:=
 if 0<=n.num∧0<=s.H.find sc name then{s with seen:=s.seen++[(n.num,s.owners.getD (s.H.find sc name).toNat 0)]}else s
end MSt
def Sx(at':Int)(name:ByteArray)(v:LVal)(fr:Frm):RM Unit:=λs=>
 if at'<0∨s.H.has at' name=false then
  if fr.strict then tG RO s
  else f7 () (s.put (if 0<=at'∧0<=s.H.objectOf at' then s.H.objectOf at' else s.glob) name v false)
 else
  let s1:=s.write at' name v
  let c:=(s.H.write at' name v).2
  if c=6 then tG RO s1 else if c=1 then tG wh s1 else if c=5∧fr.strict=true then tG wh s1 else f7 () s1
abbrev VF:=NT->Int->Frm->RM LVal
abbrev DF:=NT->Int->Frm->RM (Bool×LVal)
def Zo6(n:NT)(sc:Int):RM LVal:=λs=>
 if s.H.find sc n.text<0 then tG RO (s.look n sc n.text)
 else if(s.H.read (s.H.find sc n.text) n.text).2≠0 then tG RO (s.look n sc n.text)
 else f7 (s.H.read (s.H.find sc n.text) n.text).1 (s.look n sc n.text)
def t8(V:VF)(n:NT)(sc:Int)(fr:Frm):RM LVal:=
 if(n.kid 0).kind=23 then λs=>
  gE (V (n.kid 1) sc fr) (λv=>gE (Sx (s.H.find sc (n.kid 0).text) (n.kid 0).text v fr) λ_=>f7 v) (s.look (n.kid 0) sc (n.kid 0).text)
 else gE (V ((n.kid 0).kid 0) sc fr) λo=>gE (V (n.kid 1) sc fr) λv=>
  if o.kind=5 then λs=>f7 v (s.put o.n (n.kid 0).text v false)else tG wh
def L2(V:VF)(x:NT)(sc:Int)(fr:Frm):RM LVal:=
 if x.kind=23 then λs=>
  if s.H.find sc x.text<0 then f7 (.is true) s else f7 (.is (s.H.drop (s.H.find sc x.text) x.text).2) (s.setH (s.H.drop (s.H.find sc x.text) x.text).1)
 else if x.kind=36 then gE (V (x.kid 0) sc fr) λo=>
  if o.kind=5 then λs=>
   let s1:=s.setH (s.H.cut o.n x.text).1
   if(s.H.cut o.n x.text).2 then f7 (.is true) s1 else if fr.strict then tG wh s1 else f7 (.is false) s1
  else tG wh
 else gE (V x sc fr) λ_=>f7 (.is true)
def LVal.same(a b:LVal):Bool:=decide (a.kind=b.kind)&&(decide (a.n=b.n)&&Zg a.s b.s)
def Tv(n:Int):RM LVal:=if 1000000000<n∨n< -1000000000 then tG Sp else f7 (.num n)
def Zom(a b:ByteArray):Bool:=decide (a.toList<b.toList)
def TF(kind:Int)(a b:LVal):RM LVal:=
 if kind=27 then f7 (.is (a.same b))
 else if a.kind=3∧b.kind=3 then
  if kind=28 then f7 (.is (decide (a.n<b.n)))else if kind=29 then Tv (a.n+b.n)else if kind=30 then Tv (a.n-b.n)else Tv (a.n*b.n)
 else if kind=28∧a.kind=4∧b.kind=4 then f7 (.is (Zom a.s b.s))
 else if kind=29∧(a.kind=4∨b.kind=4)then λs=>
  if 500<(s.H.shown a++s.H.shown b).size then tG Sp s else f7 (.say (s.H.shown a++s.H.shown b)) s
 else tG wh
def SX(H:LHeap)(v:LVal):ByteArray:=
 if v.kind=5∧H.code v.n≠0 then Za8
 else if v.kind=0 then UO else if v.kind=2 then Zcu else if v.kind=3 then Zgq else if v.kind=4 then Zgt else Z9r
def Sn(V:VF)(sc:Int)(fr:Frm):List NT->RM (List LVal)
 | []=>f7 []
 |k::l=>gE (V k sc fr) λv=>gE (Sn V sc fr l) λvs=>f7 (v::vs)
def Tr(V:VF)(sc:Int)(fr:Frm)(o:Int):List NT->RM Unit
 | []=>f7 ()
 |k::l=>gE (V (k.kid 0) sc fr) λv s=>Tr V sc fr o l (s.put o k.text v false)
def UR(l:List ByteArray):ByteArray:=⟨(Lib.join (l.map (·.data.toList)) [32]).toArray⟩
def p'(D:DF)(sc:Int)(fr:Frm):List NT->RM (Bool×LVal)
 | []=>f7 (false,LVal.zero)
 |n::l=>gE (D n sc fr) λr=>if r.1 then f7 r else p' D sc fr l
namespace MSt
variable (s:MSt)
def params(sc:Int):List NT->List LVal->MSt->MSt
 | [],_,s=>s
 |p::l,vs,s=>params sc l vs.tail (s.bindTo sc p.text (vs.headD LVal.zero))
def argN(i:Nat):ByteArray:=⟨#[97]⟩++⟨(Lib.itoa (i:Int)).toArray⟩
def argsPut(o:Int):Nat->List LVal->MSt->MSt
 |_,[],s=>s
 |i,v::l,s=>argsPut o (i+1) l (s.put o (argN i) v false)
def argsObj(sc:Int)(vs:List LVal):MSt:=
 (argsPut s.nextO 0 vs ((s.object 0).put s.nextO VZ (.num vs.length) false)).declare sc Zd 0 (.ref s.nextO)
def vars(l:List ByteArray)(sc:Int):MSt:=l.foldl (λs t=>s.declare sc t 0 LVal.zero) s
def looses(l:List ByteArray)(sc:Int):MSt:=l.foldl (λs t=>s.loose sc t) s
end MSt
def NT.hasName(b:NT)(t:ByteArray):Bool:=b.funcs.any (λk=>Zg k.text t)||b.lets.any (λk=>Zg k.text t)
def MSt.enterS(s:MSt)(c:Clo)(vs:List LVal):MSt:=
 let sc:=s.next
 let b:=c.node.kid 1
 let g:=MSt.params sc (c.node.kid 0).kids vs (s.opens c.scope (-1) c.node.num)
 let m:=if g.H.has sc Zd||b.hasName Zd then g else g.argsObj sc vs
 ((m.vars b.vars sc).lets b.lets sc).funcs (λs _=>s) (λs t v=>s.bindTo sc t v) b.funcs sc ⟨c.strict,sc⟩
def Vr(D:DF)(c:Clo)(vs:List LVal):RM LVal:=λs=>
 gE (p' D s.next ⟨c.strict,s.next⟩ (c.node.kid 1).kids) (λr=>f7 (if r.1 then r.2 else LVal.zero)) (s.enterS c vs)
def Sz(H:LHeap)(n:NT)(vars:Int):Nat->Int->Bool
 |0,_=>false
 |f+1,sc=>(n.names true).any (λt=>(H.kindOf sc t==1||H.kindOf sc t==2)&& !(n.lets.any λk=>Zg k.text t))||(if sc=vars then false else Sz H n vars f (H.outerOf sc))
def MSt.evalS(s:MSt)(n:NT)(sc:Int)(fr:Frm):MSt:=
 let s1:=s.looses n.vars fr.vars
 let g:=if n.lets.isEmpty then s1 else(s1.opens sc (-1) (-3)).lets n.lets s1.next
 {(g.funcs (λs t=>s.loose fr.vars t) (λs t v=>if 0<=s.H.objectOf fr.vars then s.put (s.H.objectOf fr.vars) t v false else s.write fr.vars t v) n.funcs (if n.lets.isEmpty then sc else s1.next) fr)with last:=LVal.zero}
def S3(D:DF)(n:NT)(sc:Int)(fr:Frm):RM LVal:=λs=>
 match p' D (if n.lets.isEmpty then sc else s.next) fr n.kids (s.evalS n sc fr)with
 |(g,.ok _)=>(g,.ok g.last)
 |(g,.error e)=>(g,.error e)
def Ul(text:ByteArray):Option NT:=match xG text with
 | .ok t=>some t.bare
 | .error _=>none
def P0(D:DF)(text:ByteArray)(sc:Int)(fr:Frm):RM LVal:=λs=>
 match Ul text with
 |none=>tG MK s
 | some n =>
   if n.check fr.strict false≠0 then tG MK s
   else if fr.strict||n.strict then S3 D n s.next ⟨true,s.next⟩ (s.opens sc (-1) (-3))
   else if Sz s.H n fr.vars (sc+1).toNat sc then tG MK s
   else S3 D n sc ⟨false,fr.vars⟩ s
def Uf(D:DF)(n:NT)(sc:Int)(fr:Frm)(code:Int)(args:List LVal):RM LVal:=λs=>
 if code≠2 then Vr D (s.clos.getD (code-3).toNat ⟨NT.zero,0,false⟩) args s
 else if(n.kid 0).kind=23∧(n.kid 0).text=SP then P0 D (args.headD LVal.zero).s sc fr s
 else P0 D (args.headD LVal.zero).s s.top ⟨false,s.outer⟩ s
def TO(s:MSt)(r:MSt×Except Er LVal):MSt×Except Er LVal:=({r.1 with calls:=r.1.calls-1,last:=s.last},r.2)
def codeOf(s:MSt)(g:LVal):Int:=if g.kind=5 then s.H.code g.n else 0
def UB(D:DF)(n:NT)(sc:Int)(fr:Frm)(code:Int)(args:List LVal):RM LVal:=λs=>
 if code=0 then tG wh s
 else if code=1 then f7 LVal.zero {s with log:=s.log++[UR (args.map s.H.shown)]}
 else if code=2∧args=[]then f7 LVal.zero s
 else if code=2∧(args.headD LVal.zero).kind≠4 then f7 (args.headD LVal.zero) s
 else if s.calls=40 then tG Sp s
 else TO s (Uf D n sc fr code args {s with calls:=s.calls+1})
def UG(V:VF)(D:DF)(n:NT)(sc:Int)(fr:Frm):RM LVal:=
 gE (V (n.kid 0) sc fr) λg=>gE (Sn V sc fr n.kids.tail) λargs s=>UB D n sc fr (codeOf s g) args s
def xn(V:VF)(D:DF)(n:NT)(sc:Int)(fr:Frm):RM LVal:=
 if n.kind=33 then λs=>
  if(n.kid 0).kind=23∧s.H.find sc (n.kid 0).text<0 then f7 (.say UO) s
  else gE (V (n.kid 0) sc fr) (λv s=>f7 (.say (SX s.H v)) s) s
 else if n.kind=32 then gE (V (n.kid 0) sc fr) λv=>f7 (.is (!v.true))
 else if n.kind=34 then L2 V (n.kid 0) sc fr
 else if n.kind=35 then UG V D n sc fr
 else if n.kind=36 then gE (V (n.kid 0) sc fr) λv=>if v.kind=5 then λs=>f7 ((s.H.get v.n n.text).getD LVal.zero) s else tG wh
 else if n.kind=38 then λs=>gE (Tr V sc fr s.nextO n.kids) (λ_=>f7 (.ref s.nextO)) (s.object 0)
 else f7 LVal.zero
def x4(V:VF)(D:DF)(n:NT)(sc:Int)(fr:Frm):RM LVal:=
 if n.kind=17 then f7 (.num n.n)
 else if n.kind=18 then f7 (.say n.text)
 else if n.kind=19∨n.kind=20 then f7 (.is (n.kind==19))
 else if n.kind=21 then f7 ⟨1,0,⟨#[]⟩⟩
 else if n.kind=22 then f7 LVal.zero
 else if n.kind=23 then Zo6 n sc
 else if n.kind=24 then t8 V n sc fr
 else if n.kind=25∨n.kind=26 then gE (V (n.kid 0) sc fr) λv=>if v.true=(n.kind==25)then f7 v else V (n.kid 1) sc fr
 else if 27<=n.kind∧n.kind<=31 then gE (V (n.kid 0) sc fr) λa=>gE (V (n.kid 1) sc fr) λb=>TF n.kind a b
 else if n.kind=37 then λs=>f7 (.ref s.nextO) (s.funS n sc fr)
 else xn V D n sc fr
def yk{α:Type}(k:RM α):RM α:=λs=>if 20000<s.steps+1 then tO .stop {s with steps:=s.steps+1}else k {s with steps:=s.steps+1}
def SU(V:VF)(D:DF)(n:NT)(sc:Int)(fr:Frm):Nat->RM (Bool×LVal)
 |0=>tO .stop
 |f+1=>gE (V (n.kid 0) sc fr) λv=>if v.true then gE (D (n.kid 1) sc fr) λr=>if r.1 then f7 r else SU V D n sc fr f else f7 (false,LVal.zero)
def MSt.blockS(s:MSt)(n:NT)(sc:Int)(fr:Frm):MSt:=((s.opens sc (-1) n.num).lets n.lets s.next).funcs (λs _=>s) (λt a v=>t.declare s.next a 0 v) n.funcs s.next fr
def Uu(D:DF)(n:NT)(sc:Int)(fr:Frm):RM (Bool×LVal):=λs=>
 if(n.names false).isEmpty then p' D sc fr n.kids s else p' D s.next fr n.kids (s.blockS n sc fr)
def vH(D:DF)(sc:Int)(fr:Frm):List NT->MSt×Except Er (Bool×LVal)->MSt×Except Er (Bool×LVal)
 | [],r=>r
 | k :: l, (s, r) => match r with
   | .error .stop=>(s,.error .stop)
   | .error (.thr v) =>
     if k.kind=13 then vH D sc fr l (D (k.kid 0) s.next fr ((s.opens sc (-1) k.num).declare s.next k.text 0 v))
     else match D (k.kid 0) sc fr s with
      |(s1,.ok (false,_))=>vH D sc fr l (s1,.error (.thr v))
      |x=>vH D sc fr l x
   | .ok b =>
     if k.kind=13 then vH D sc fr l (s,.ok b)
     else match D (k.kid 0) sc fr s with
      |(s1,.ok (false,_))=>vH D sc fr l (s1,.ok b)
      |x=>vH D sc fr l x
def KE(D:DF)(n:NT)(sc:Int)(fr:Frm):RM (Bool×LVal):=λs=>vH D sc fr n.kids.tail (D (n.kid 0) sc fr s)
def VV:Bool×LVal:=(false,LVal.zero)
def D9(V:VF)(D:DF)(f:Nat)(n:NT)(sc:Int)(fr:Frm)(at':Int)(v:LVal):RM (Bool×LVal):=
 if n.kind=2 then if n.kids.isEmpty then f7 VV else gE (Sx at' n.text v fr) λ_=>f7 VV
 else if n.kind=3∨n.kind=4 then λs=>f7 VV (s.setH (s.H.start sc n.text v).1)
 else if n.kind=6 then Uu D n sc fr
 else if n.kind=7 then if v.true then D (n.kid 1) sc fr else if n.kids.length<=2 then f7 VV else D (n.kid 2) sc fr
 else if n.kind=8 then SU V D n sc fr f
 else if n.kind=9 then if v.kind=5 then λs=>D (n.kid 1) s.next fr (s.opens sc v.n (-2))else tG wh
 else if n.kind=10 then f7 (true,v)
 else if n.kind=11 then tO (.thr v)
 else if n.kind=12 then KE D n sc fr
 else if n.kind=15 then λs=>f7 VV {s with last:=v}
 else f7 VV
def wI(V:VF)(D:DF)(f:Nat)(n:NT)(sc:Int)(fr:Frm):RM (Bool×LVal):=yk λs=>
 gE (if n.kids.isEmpty∨n.kind=5∨n.kind=6∨n.kind=12∨n.kind=8 then f7 LVal.zero else V (n.kid 0) sc fr)
  (D9 V D f n sc fr (if n.kind=2∧n.kids.isEmpty=false then s.H.find sc n.text else -1)) s
def R9:Nat->VF×DF
 |0=>(λ_ _ _=>tO .stop,λ_ _ _=>tO .stop)
 |f+1=>(λn sc fr=>yk (x4 (R9 f).1 (R9 f).2 n sc fr),wI (R9 f).1 (R9 f).2 f)
structure Res where
 log:List ByteArray
 code:Int
 value:ByteArray
 steps:Int
 seen:List (Int×Int)
def MSt.new:MSt:=⟨⟨[],[]⟩,[],0,[],[],[],0,0,0,0,LVal.zero⟩
def SD(n:NT):MSt:=
 let s1:=(((((MSt.new.object 0).object 1).put 0 Sd (.ref 1) false).object 2).put 0 SP (.ref 2) false)
 let g:={(s1.opens (-1) 0 (-1)).opens 0 (-1) 0 with glob:=0,outer:=0,top:=1}
 let m:=n.vars.foldl (λs t=>if s.H.has 0 t then s else s.put 0 t LVal.zero true) g
 (m.lets n.lets 1).funcs (λs _=>s) (λs t v=>s.put 0 t v true) n.funcs 1 ⟨n.strict,0⟩
def T0:MSt×Except Er (Bool×LVal)->Res
 |(s,.ok _)=>⟨s.log,1,⟨#[]⟩,s.steps,s.seen⟩
 |(s,.error .stop)=>⟨s.log,3,⟨#[]⟩,s.steps,s.seen⟩
 |(s,.error (.thr v))=>⟨s.log,2,s.H.shown v,s.steps,s.seen⟩
def T4:Nat:=20001
def ow(n:NT):Res:=T0 (p' (R9 T4).2 1 ⟨n.strict,0⟩ n.kids (SD n))
section
variable {N:Nat->Int}{a:ATree}
theorem Wz:(a.nt N).num=N a.b:=by cases a;rfl
theorem Zc:(a.nt N).kind=a.kind:=by cases a;rfl
theorem Zz:(a.nt N).text=a.text:=by cases a;rfl
theorem Aaj:(a.nt N).n=a.n:=by cases a;rfl
theorem Zq:(a.nt N).kids=Sf N a.kids:=by cases a;rfl
theorem yn:∀l:List ATree,Sf N l=l.map (ATree.nt N)
 | []=>rfl
 |x::l=>by rw[Sf,yn l];rfl
theorem sp{i:Nat}{x:ATree}(h:a.kids[i]?=some x):(a.nt N).kid i=x.nt N:=by
 unfold NT.kid;rw[Zq,yn,List.getD_eq_getElem?_getD,Yg,h];rfl
mutual
theorem SV:∀a:ATree,(a.nt N).tree=a.tree
 | .mk b v k t n l=>by simp only[ATree.nt,NT.tree,ATree.tree,Zh1 l]
theorem Zh1:∀l:List ATree,pL (Sf N l)=fs l
 | []=>rfl
 |x::l=>by simp only[Sf,pL,fs,SV x,Zh1 l]
end
mutual
theorem Zpd:∀t:Tree,t.a.tree=t
 | .mk k t n l=>by simp only[Tree.a,ATree.tree,Zbm l]
theorem Zbm:∀l:List Tree,fs (Znb l)=l
 | []=>rfl
 |x::l=>by simp only[Znb,fs,Zpd x,Zbm l]
end
mutual
theorem Z9c:∀t:Tree,t.bare.tree=t
 | .mk k t n l=>by simp only[Tree.bare,NT.tree,Zbo l]
theorem Zbo:∀l:List Tree,pL (Wn l)=l
 | []=>rfl
 |x::l=>by simp only[Wn,pL,Z9c x,Zbo l]
end
mutual
theorem Zk1:∀a:ATree,(∀b∈a.blocks,N b=-3)->a.nt N=a.tree.bare
 | .mk b v k t n l, h => by
   simp only[ATree.blocks,List.mem_cons,List.mem_append]at h;simp only[ATree.nt,ATree.tree,Tree.bare,h b (.inl rfl),Zgr l λx hx=>h x (.inr (.inr hx))]
theorem Zgr:∀l:List ATree,(∀b∈Zl l,N b=-3)->Sf N l=Wn (fs l)
 | [],_=>rfl
 | x :: l, h => by
   simp only[Zl,List.mem_append]at h;simp only[Sf,fs,Wn,Zk1 x λy g=>h y (.inl g),Zgr l λy g=>h y (.inr g)]
end
mutual
theorem Znj:∀(a:ATree) (g:List ByteArray),Wq (a.nt N) g=uR CL a g
 | .mk b v k t n l, g => by
   rw[Z91];simp only[ATree.nt,Wq,CL,TP,ATree.kind,ATree.text,ATree.kids];by_cases h:k=5∨k=37
   .have m:(k==5||k==37)=true:=by simpa using h
    have o:(k==2)=false:=Pe
    rw[Y5 h];simp[m,o]
   .have m:(k==5||k==37)=false:=by simpa using h
    rw[Y3 h,Z9o l];by_cases hk:k=2;·subst hk;simp
    .simp[m,hk]
theorem Z9o:∀(l:List ATree) (g:List ByteArray),Ur (Sf N l) g=rf CL l g
 | [],g=>rfl
 |x::l,g=>by simp only[Sf,Ur,rf,Znj x,Z9o l]
end
theorem Tz:(a.nt N).vars=yw a:=by unfold NT.vars yw;rw[Zq,Z9o]
theorem Zd3(p:ATree->Bool)(q:NT->Bool)(h:∀x:ATree,q (x.nt N)=p x)(l:List ATree):(Sf N l).filter q=(l.filter p).map (ATree.nt N):=by
 rw[yn,List.filter_map];congr 1
 exact List.filter_congr λx _=>h x
theorem VB:(a.nt N).funcs=(a.kids.filter wW).map (ATree.nt N):=by
 unfold NT.funcs;rw[Zq];exact Zd3 _ _ (λx=>by rw[Zc];rfl) _
theorem YB:(a.nt N).lets=(a.kids.filter wH).map (ATree.nt N):=by
 unfold NT.lets;rw[Zq];exact Zd3 _ _ (λx=>by rw[Zc];rfl) _
theorem Zh6(l:List ATree):(l.map (ATree.nt N)).map NT.text=l.map ATree.text:=by
 rw[List.map_map];exact List.map_congr_left λx _=>Zz
theorem Z92(body:Bool):(a.nt N).names body=FR body a:=by
 unfold NT.names FR wU;rw[YB,VB,Zh6,Zh6,Tz,List.foldl_map,List.foldl_map]
theorem ZJ:(a.nt N).strict=Zj a:=by unfold NT.strict Zj;rw[Zz,Zc]
theorem Zo7(st ins:Bool):(a.nt N).check st ins=LW a st ins:=by
 unfold NT.check;exact Zep (by rw[Zpd,SV]) st ins
end
