/- Package tree: object. -/
import Derived.Test.YtmeiggjboakmpaaGreatDoorJ15
namespace Go.Proofs.YtmeiggjboakmpaaGreatDoor
open Go Go.RowKit
set_option maxRecDepth 100000
set_option maxHeartbeats 20000000
set_option linter.unusedVariables false
def Ze5 (g d:Nat) (acc:List Tree) (us:List Tok):PR:=if acc.length=8 then Z30 4 us else Z3f us fun s ts=>Z1e Z2s ts fun ts=>Z0g (Z0 g .value d ts) fun v ts=>Z0 g (.object (acc ++ [.mk 39 s 0 [v]])) d ts
theorem Zcc (F:Nat) (hV:∀ g,g < F→Says 80 rArg .value g) :
 Says 156 rArg (.object []) F:=by
 intro w rb B d ts r hP hp;have HP:=lh hP;have HV:=lh hV;have H1:=lh hp;have HN:=lh (Z14 w rb 38 ⟨#[]⟩ none 0 0);obtain ⟨nb,hnb⟩:=zX w.heap.size
 have G0:=Got.leaf (k:=38) (t:=⟨#[]⟩) (n:=0) hP.le (RFr.refl w rb);have hal:Below w.heap.size w (w.alloc (.cells #[.int .i64 38,.string ⟨#[]⟩,.int .i64 0,.slice none 0 0] 38)):=(Y8 _ _).alloc (Y5 _) _;have R0:=hP.rd.below hal;have F0:RFr w (w.alloc (.cells #[.int .i64 38,.string ⟨#[]⟩,.int .i64 0,.slice none 0 0] 38)) rb:=RFr.below hal;rw [← hnb] at G0 HN;unfold rArg;clear hP hp hV hal;go_enter Tryz.func156,Tryz.ntmps156
 go_wp2_with fail
 refine HN.out.mono ?_;rintro e w2 ⟨rfl,hw2⟩;rw [← hw2] at G0 R0 F0;have hst:∃ (g:Nat) (acc:List Tree) (us:List Tok) (v:Value) (kids:List ATree),g≤F∧Z0 g (.object acc) d us=some r∧Got w B w2 (.mk nb v 38 ⟨#[]⟩ 0 kids) (.mk 38 ⟨#[]⟩ 0 acc)∧Rd w2 rb us d∧RFr w w2 rb∧acc.length≤8∧us.length≤ts.length:=
  ⟨F,[],ts,_,[],Y5 _,H1.out,G0,R0,F0,by simp,Y5 _⟩
 have ST:=lh hst;have HNB:=lh hnb;clear hst hw2 G0 R0 F0 HN hnb H1;go_wp2_with fail
 go_loopw [] (fun wr=>∃ (g:Nat) (acc:List Tree) (us:List Tok) (v:Value) (kids:List ATree),g≤F∧Z0 g (.object acc) d us=some r∧Got w B wr (.mk nb v 38 ⟨#[]⟩ 0 kids) (.mk 38 ⟨#[]⟩ 0 acc)∧Rd wr rb us d∧RFr w wr rb∧acc.length≤8∧us.length≤ts.length) (fun wr=>leftOf wr rb)
 case atStart=>exact ST.out
 case round=>
  obtain ⟨g,acc,us,v,kids,hg,hq,hG,hR,hF,hl,hu⟩:=hrel;have G:=lh hG;have R:=lh hR;have FF:=lh hF;have RL:=lh hR.left;cases g with
  | zero=>cases hq
  | succ g=>
  rw [Z0] at hq;have HB:=Z4h wr rb us d Z01 hR;have hlt:=HP.out.lt;by_cases hb:isT Z01 us=true
  ·rw [hb] at HB;rw [Yb hb] at hq;have hr := Yk hq;have HRr := lh hr.symm;have HB := lh HB;have HI := lh hb;unfold Z01 at HB;clear hG hR hF hq hr hb ST;go_wp2_with fail
   refine HB.out.mono ?_;rintro e w3 ⟨rfl,hB3⟩;have F3:=FF.out.trans (RFr.below (rb:=rb) hB3);have G3:=G.out.rfr hlt (RFr.below (rb:=rb) hB3);have R3:=R.out.below hB3;have HC:=Z2b w3 rb us d Z01 R3 HI.out;unfold Z01 at HC;have HC:=lh HC;have F3:=lh F3;have G3:=lh G3;clear hB3 R3 FF G R HB;go_wp2_with fail
   refine HC.out.mono ?_;rintro e w4 ⟨rfl,hR4,hF4⟩;have R4:=lh hR4;have F4:=lh (F3.out.trans hF4);have G4:=lh (G3.out.rfr hlt hF4);clear hR4 hF4 HC F3 G3;go_wp2;go_ret;rw [HRr.out];exact ⟨_,rfl,G4.out,R4.out,F4.out⟩
  ·have hb' : isT Z01 us = false := by simpa using hb
   rw [hb'] at HB;rw [Y9 hb] at hq;have HB:=lh HB;have HQ:=lh hq;unfold Z01 at HB;have hkl:kids.length=acc.length:=by
    have:=hG.tree;simp only [ATree.tree,Tree.mk.injEq,true_and] at this;rw [← this,Z26,Yv]
   have HKL:=lh hkl;clear hG hR hF hq hb hb' ST hkl;go_wp2_with fail
   refine HB.out.mono ?_;rintro e w3 ⟨rfl,hB3⟩;have F3:=FF.out.trans (RFr.below (rb:=rb) hB3);have G3:=G.out.rfr hlt (RFr.below (rb:=rb) hB3);have R3:=R.out.below hB3;have P3:Pre w3 rb B d us:=⟨R3,HP.out.deep,hlt,Ya HP.out.le F3.size,Ya hu HP.out.few⟩
   obtain ⟨p,cp,rfl⟩:∃ p cp,v=.slice p kids.length cp:=by
    rcases Zp G3.at'.rowOf with ⟨h1,h2⟩ | ⟨g0,cap0,h1,_⟩
    ·simp only [ATree.v,ATree.kids] at h1 h2;exact ⟨none,0,by rw [h1,h2]⟩
    ·exact ⟨_,_,h1⟩
   have hblk:=G3.at'.blkOf;simp only [ATree.b,ATree.v,ATree.kind,ATree.text,ATree.n] at hblk;have n3:w3.cell? ⟨nb,3,none⟩=some (.slice p kids.length cp):=by simp [World.cell?,hblk]
   have F3:=lh F3;have G3:=lh G3;have P3:=lh P3;have HU:=lh hu;have HL:=lh hl;clear hB3 R3 FF G R HB hblk hu hl;by_cases h0:acc.length=0
   ·have a0 : decide (0 < kids.length) = false := by have := HKL.out; simp; exact List.eq_nil_of_length_eq_zero (by omega)
    have hq2:Ze5 g d acc us=some r:=by have h:=HQ.out; rw [Y9 (by omega)] at h; exact h
    have PQ:=lh (show Pre w3 rb B d us∧us.length≤ts.length from ⟨P3.out,HU.out⟩);have GQ:=G3;have FQ:=F3;have PL:=lh (Y5 us.length);have HQ2:=lh hq2;have H0:=lh h0;clear HQ hq2 h0;by_cases h8:acc.length=8
    ·have n8 : ((kids.length : Int) == 8) = true := by have := HKL.out; simp; omega
     have hr:r=.error (4,(hdT us).at'):=by
      have h:=HQ2.out;unfold Ze5 at h;rw [Yb h8] at h;exact (Yk h).symm
     subst hr;have HF:=lh (Z35 w3 rb us d 4 PQ.out.1.rd);clear h8;go_wp2_with fail
     refine HF.out.mono ?_;rintro e w9 ⟨⟨b,rfl,h1,h2⟩,hB⟩;exact ⟨rfl,Z0t.err FQ.out ⟨b,rfl,h1,h2⟩ hB⟩
    ·have n8 : ((kids.length : Int) == 8) = false := by have := HKL.out; simp; omega
     have hq3:=HQ2.out;unfold Ze5 at hq3;rw [Y9 h8] at hq3;have H8:=lh h8;clear h8;rcases Z3x hq3 with ⟨hk,h1⟩ | ⟨hk,rfl⟩
     ·have HC := lh (Z44 w3 rb us d PQ.out.1.rd hk);obtain ⟨s, hs⟩ := zX ((hdT us).text)
      rw [← hs] at HC h1;have H1:=lh h1;have HPOS:=lh (Z78 hk);clear hq3 hk h1 hs;go_wp2_with fail
      refine HC.out.mono ?_;rintro e w5 ⟨rfl,hR5,hF5⟩;have P5:=lh (PQ.out.1.tail hR5 hF5);have F5:=lh (FQ.out.trans hF5);have G5:=lh (GQ.out.rfr hlt hF5);clear hR5 hF5 HC;rcases Z29 H1.out with ⟨hs,h2⟩ | ⟨hs,rfl⟩
      ·have HC := Z2b w5 rb _ d Z2s P5.out.rd hs;unfold Z2s at HC;have HC := lh HC;have H2 := lh h2;clear hs h2;go_wp2_with fail
       refine HC.out.mono ?_;rintro e w6 ⟨rfl,hR6,hF6⟩;have P6:=P5.out.tail hR6 hF6;have F6:=F5.out.trans hF6;have G6:=G5.out.rfr hlt hF6;have hblk:=G6.at'.blkOf;simp only [ATree.b,ATree.v,ATree.kind,ATree.text,ATree.n] at hblk;clear n3;have n3:w6.cell? ⟨nb,3,none⟩=some (.slice p kids.length cp):=by simp [World.cell?,hblk]
       have P6:=lh P6;have F6:=lh F6;have G6:=lh G6;clear hR6 hF6 hblk HC P5 F5 G5;go_wp2_with fail
       refine Zf [0,2,4,6,8,10,12,14,17,19,21,23,25] [13,14,15] (fun W=>W.cell? ⟨nb,3,none⟩=some (.slice p kids.length cp)) n3 fun _=>?_;simp only [Zh,pD,zD,zE,zF,zG,zH,zI,zJ,zK]
       iterate 8
        first | refine Za _ ?_ | refine Zb ?_
        simp only [Act.put,zA,zB,zC]
       refine Z5 (fun K hK=>?_);go_simp
       have P7:Pre w6.drew rb B d _:=P6.out.below (Y8 _ _).drew;rcases Z09 H2.out with ⟨⟨c,p⟩,hv,rfl⟩ | ⟨t,vs,hv,hq4⟩
       ·refine (HV.out g (by omega) w6.drew rb B d _ _ P7 hv).mono ?_;rintro e w7 ⟨⟨b,rfl,h1,h2⟩,hF7⟩;exact ⟨rfl,Z0t.pre F6.out.drew (r:=.error (c,p)) ⟨⟨b,rfl,h1,h2⟩,hF7⟩⟩
       ·have hvl := Z1h hv;have HQ4 := lh hq4;refine (HV.out g (by omega) w6.drew rb B d _ _ P7 hv).mono ?_;rintro e w7 ⟨x, rfl, hX, hR7, hF7⟩;have hF67 : RFr w6 w7 rb := (RFr.refl w6 rb).drew.trans hF7;have hN7 := G6.out.rfr hlt hF67;have hblk := hN7.at'.blkOf;simp only [ATree.b, ATree.v, ATree.kind, ATree.text, ATree.n] at hblk;have m3 : w7.cell? ⟨nb, 3, none⟩ = some (.slice p kids.length cp) := by simp [World.cell?, hblk]
        refine hK _ _ m3 ?_;clear hK K;refine Z5 (fun K hK=>?_);go_simp
        have hb1:Below w7.heap.size w7 (w7.alloc (.cells #[.pointer (some ⟨x.b,0,none⟩)] 22)):=(Y8 _ _).alloc (Y5 _) _;refine hK _ _ ((hb1.cell (p:=⟨nb,3,none⟩) (Y6.1 hblk).1).trans m3) ?_;clear hK K;refine Z5 (fun K hK=>?_);go_simp
        have hA:=Got.one (w0:=w6.drew) (w:=w7) (rb:=rb) (k:=39) (t:=s) (Ya HP.out.le F6.out.size) hF7 hX;have hb2:Below w7.heap.size w7 ((w7.alloc (.cells #[.pointer (some ⟨x.b,0,none⟩)] 22)).alloc (.cells #[.int .i64 39,.string s,.int .i64 0,.slice (some ⟨w7.heap.size,0,none⟩) 1 1] 38)):=hb1.alloc (by simp) _;refine (Z14 (w7.alloc (.cells #[.pointer (some ⟨x.b,0,none⟩)] 22)) rb 39 s (some ⟨w7.heap.size,0,none⟩) 1 1).mono ?_;rintro e w3' ⟨rfl,hw3'⟩
        have hA:Got w6.drew B w3' (.mk (w7.heap.size + 1) (.slice (some ⟨w7.heap.size,0,none⟩) 1 1) 39 s 0 [x]) (.mk 39 s 0 [t]):=by rw [hw3']; exact hA
        rw [← hw3'] at hb2;have hN3:=hN7.rfr hlt (RFr.below (rb:=rb) hb2);have hR3:=hR7.below hb2;have hF63:RFr w6 w3' rb:=hF67.trans (RFr.below hb2);clear hblk m3 hw3' hb1;have hblk:=hN3.at'.blkOf;simp only [ATree.b,ATree.v,ATree.kind,ATree.text,ATree.n] at hblk;have m3:w3'.cell? ⟨nb,3,none⟩=some (.slice p kids.length cp):=by simp [World.cell?,hblk]
        have mz:w3'.frozen? ⟨nb,3,none⟩=false:=by simp [World.frozen?,hblk]
        have hnb3:nb < w3'.heap.size:=(Y6.1 hblk).1;have hnd:=hN3.nodup;simp only [ATree.blocks,List.nodup_cons,List.mem_append,Option.mem_toList,not_or] at hnd;have hne:=hnd.1.1;have hk4:kids.length≤8:=by have:=HKL.out; have:=HL.out; omega
        have hsz7:(w7.alloc (.cells #[.pointer (some ⟨x.b,0,none⟩)] 22)).heap.size=w7.heap.size + 1:=by simp
        rw [hsz7];obtain ⟨a,ha⟩:∃ a:ATree,a=.mk (w7.heap.size + 1) (.slice (some ⟨w7.heap.size,0,none⟩) 1 1) 39 s 0 [x]:=⟨_,rfl⟩
        rw [← ha] at hA;have hap:Value.pointer (some ⟨w7.heap.size + 1,0,none⟩)=.pointer (some ⟨a.b,0,none⟩):=by rw [ha]; rfl
        rw [hap];clear ha hap hsz7;have N3:=lh hN3;have A3:=lh hA;have R3:=lh hR3;have F3':=lh (F6.out.trans hF63);have NE:=lh hne;have NA:=lh (show ∀ y∈(ATree.mk nb (.slice p kids.length cp) 38 ⟨#[]⟩ 0 kids).blocks,y < w6.drew.heap.size from fun y hy=>(G6.out.new y hy).2);have HVL:=lh hvl;refine hK _ _ m3 ?_;obtain ⟨i0,hi,hz0,hz1,hz2⟩:=info_parts Tryz.infoPtr;clear hK K hA hR3 hF63 hN3 hblk hnd hne n3 hX hR7 hF7 hF67 hN7 hb2 hv hq4 hvl P7;refine Z5 (fun K hK=>?_);go_simp
        refine hK _ _ ((Z8 hnb3).trans m3) ?_;clear hK K;refine Z5 (fun K hK=>?_)
        refine step_append_lies _ (by rfl) (.tmp 34) (.tmp 41) 36 (by rfl) B 22 i0 _ 1 8 Tryz.underlying36 hi hz0 hz1 hz2 rfl (by decide) (.slice p kids.length cp) (kids).length ((kids).map ATree.ptr) (by rfl) (N3.out.at'.rowOf.alloc _) ⟨w3'.heap.size,0,none⟩ 1 1 [a.ptr] (by rfl) rfl (Yi (cs:=#[a.ptr]) (t:=22) (fr:=(0,0)) (heap_alloc_new w3' _)) (by simp [ATree.ptr,Value.oneCell']) (by decide) (by unfold maxLen; omega) (by omega) (by simp; have:=F3'.out.size; have:=HP.out.le; omega) (w3'.heap.size + 1) (by simp) ?_;intro gg cap w4 hown4 hgrow4 hat4 hlt4
        have m4:w4.cell? ⟨nb,3,none⟩=some (.slice p kids.length cp):=(hgrow4.cell_far ⟨nb,3,none⟩ (by simp; omega) (fun e=>NE.out e.symm)).trans ((Z8 hnb3).trans m3);have mz4:w4.frozen? ⟨nb,3,none⟩=false:=(hgrow4.frozen_far ⟨nb,3,none⟩ (by simp; omega) (fun e=>NE.out e.symm)).trans ((Z0m hnb3).trans mz);refine hK _ _ m4 ?_;clear hK K;simp only [Act.put,zA,zB,zC]
        have hfin:=Got.push hlt HP.out.le N3.out (wA:=w6.drew) NA.out A3.out F3'.out R3.out ((Y8 _ _).alloc (Y5 _) _) hgrow4 hown4 (by rcases hat4 with h | h; (exact .inl h); (exact .inr (by omega))) hlt4;have FIN:=lh hfin;clear hgrow4 hown4 hat4 hlt4 hfin;refine Z6 ?_;go_wp2;go_roundw
        case rel=>
         refine ⟨g,acc ++ [.mk 39 s 0 [t]],vs,.slice (some ⟨gg,0,none⟩) (kids.length + 1) cap,kids ++ [a],by omega,HQ4.out,?_,FIN.out.2.2,FIN.out.2.1,by have:=HL.out; have:=H8.out; simp; omega,by have:=HVL.out; have:=PQ.out.2; have:=Z19 us; have:=Z19 (us).tail; omega⟩;have h1:=FIN.out.1;have h2:=GQ.out.tree;simp only [ATree.tree,Tree.mk.injEq,true_and] at h2;rw [h2] at h1;exact h1
        case measure=>
         rw [FIN.out.2.2.left,RL.out];have e:(us).tail.length=(us).length - 1:=List.length_tail;have:=HVL.out; have:=HPOS.out; have:=PL.out; have:=Z19 (us).tail;omega
      ·have HC := Z3k w5 rb _ d Z2s P5.out.rd hs;unfold Z2s at HC;have HC := lh HC;clear hs;go_wp2_with fail
       refine HC.out.mono ?_;rintro e w9 ⟨⟨b,rfl,h1,h2⟩,hB⟩;exact ⟨rfl,Z0t.err F5.out ⟨b,rfl,h1,h2⟩ hB⟩
     ·have HC := lh (Z61 w3 rb us d PQ.out.1.rd hk);clear hq3 hk;go_wp2_with fail
      refine HC.out.mono ?_;rintro e w9 ⟨⟨b,rfl,h1,h2⟩,hB⟩;exact ⟨rfl,Z0t.err FQ.out ⟨b,rfl,h1,h2⟩ hB⟩
   ·have a0 : decide (0 < kids.length) = true := by have := HKL.out; simp; omega
    have hq1:=HQ.out;rw [Yb (by omega)] at hq1;have H0:=lh h0;clear h0;by_cases hc:isT Z1b us=true
    ·have hq2 : Ze5 g d acc us.tail = some r := by rw [Z1e, Yb hc] at hq1; exact hq1
     have HC:=Z2b w3 rb us d Z1b P3.out.rd hc;unfold Z1b at HC;have HC:=lh HC;have HQ2:=lh hq2;clear hq1 hc HQ hq2;go_wp2_with fail
     refine HC.out.mono ?_;rintro e w4q ⟨rfl,hR4,hF4⟩;have PQ:=lh (show Pre w4q rb B d us.tail∧us.tail.length≤ts.length from ⟨P3.out.tail hR4 hF4,by have:=HU.out; rw [List.length_tail]; omega⟩);have GQ:=lh (G3.out.rfr hlt hF4);have FQ:=lh (F3.out.trans hF4);have PL:=lh (show us.tail.length≤us.length by rw [List.length_tail]; omega);have hblk:=GQ.out.at'.blkOf;simp only [ATree.b,ATree.v,ATree.kind,ATree.text,ATree.n] at hblk;clear n3;have n3:w4q.cell? ⟨nb,3,none⟩=some (.slice p kids.length cp):=by simp [World.cell?,hblk]
     clear hR4 hF4 HC hblk F3 G3 P3;by_cases h8:acc.length=8
     ·have n8 : ((kids.length : Int) == 8) = true := by have := HKL.out; simp; omega
      have hr:r=.error (4,(hdT us.tail).at'):=by
       have h:=HQ2.out;unfold Ze5 at h;rw [Yb h8] at h;exact (Yk h).symm
      subst hr;have HF:=lh (Z35 w4q rb us.tail d 4 PQ.out.1.rd);clear h8;go_wp2_with fail
      refine HF.out.mono ?_;rintro e w9 ⟨⟨b,rfl,h1,h2⟩,hB⟩;exact ⟨rfl,Z0t.err FQ.out ⟨b,rfl,h1,h2⟩ hB⟩
     ·have n8 : ((kids.length : Int) == 8) = false := by have := HKL.out; simp; omega
      have hq3:=HQ2.out;unfold Ze5 at hq3;rw [Y9 h8] at hq3;have H8:=lh h8;clear h8;rcases Z3x hq3 with ⟨hk,h1⟩ | ⟨hk,rfl⟩
      ·have HC := lh (Z44 w4q rb us.tail d PQ.out.1.rd hk);obtain ⟨s, hs⟩ := zX ((hdT us.tail).text)
       rw [← hs] at HC h1;have H1:=lh h1;have HPOS:=lh (Z78 hk);clear hq3 hk h1 hs;go_wp2_with fail
       refine HC.out.mono ?_;rintro e w5 ⟨rfl,hR5,hF5⟩;have P5:=lh (PQ.out.1.tail hR5 hF5);have F5:=lh (FQ.out.trans hF5);have G5:=lh (GQ.out.rfr hlt hF5);clear hR5 hF5 HC;rcases Z29 H1.out with ⟨hs,h2⟩ | ⟨hs,rfl⟩
       ·have HC := Z2b w5 rb _ d Z2s P5.out.rd hs;unfold Z2s at HC;have HC := lh HC;have H2 := lh h2;clear hs h2;go_wp2_with fail
        refine HC.out.mono ?_;rintro e w6 ⟨rfl,hR6,hF6⟩;have P6:=P5.out.tail hR6 hF6;have F6:=F5.out.trans hF6;have G6:=G5.out.rfr hlt hF6;have hblk:=G6.at'.blkOf;simp only [ATree.b,ATree.v,ATree.kind,ATree.text,ATree.n] at hblk;clear n3;have n3:w6.cell? ⟨nb,3,none⟩=some (.slice p kids.length cp):=by simp [World.cell?,hblk]
        have P6:=lh P6;have F6:=lh F6;have G6:=lh G6;clear hR6 hF6 hblk HC P5 F5 G5;go_wp2_with fail
        refine Zf [0,2,4,6,8,10,12,14,17,19,21,23,25] [13,14,15] (fun W=>W.cell? ⟨nb,3,none⟩=some (.slice p kids.length cp)) n3 fun _=>?_;simp only [Zh,pD,zD,zE,zF,zG,zH,zI,zJ,zK]
        iterate 8
         first | refine Za _ ?_ | refine Zb ?_
         simp only [Act.put,zA,zB,zC]
        refine Z5 (fun K hK=>?_);go_simp
        have P7:Pre w6.drew rb B d _:=P6.out.below (Y8 _ _).drew;rcases Z09 H2.out with ⟨⟨c,p⟩,hv,rfl⟩ | ⟨t,vs,hv,hq4⟩
        ·refine (HV.out g (by omega) w6.drew rb B d _ _ P7 hv).mono ?_;rintro e w7 ⟨⟨b,rfl,h1,h2⟩,hF7⟩;exact ⟨rfl,Z0t.pre F6.out.drew (r:=.error (c,p)) ⟨⟨b,rfl,h1,h2⟩,hF7⟩⟩
        ·have hvl := Z1h hv;have HQ4 := lh hq4;refine (HV.out g (by omega) w6.drew rb B d _ _ P7 hv).mono ?_;rintro e w7 ⟨x, rfl, hX, hR7, hF7⟩;have hF67 : RFr w6 w7 rb := (RFr.refl w6 rb).drew.trans hF7;have hN7 := G6.out.rfr hlt hF67;have hblk := hN7.at'.blkOf;simp only [ATree.b, ATree.v, ATree.kind, ATree.text, ATree.n] at hblk;have m3 : w7.cell? ⟨nb, 3, none⟩ = some (.slice p kids.length cp) := by simp [World.cell?, hblk]
         refine hK _ _ m3 ?_;clear hK K;refine Z5 (fun K hK=>?_);go_simp
         have hb1:Below w7.heap.size w7 (w7.alloc (.cells #[.pointer (some ⟨x.b,0,none⟩)] 22)):=(Y8 _ _).alloc (Y5 _) _;refine hK _ _ ((hb1.cell (p:=⟨nb,3,none⟩) (Y6.1 hblk).1).trans m3) ?_;clear hK K;refine Z5 (fun K hK=>?_);go_simp
         have hA:=Got.one (w0:=w6.drew) (w:=w7) (rb:=rb) (k:=39) (t:=s) (Ya HP.out.le F6.out.size) hF7 hX;have hb2:Below w7.heap.size w7 ((w7.alloc (.cells #[.pointer (some ⟨x.b,0,none⟩)] 22)).alloc (.cells #[.int .i64 39,.string s,.int .i64 0,.slice (some ⟨w7.heap.size,0,none⟩) 1 1] 38)):=hb1.alloc (by simp) _;refine (Z14 (w7.alloc (.cells #[.pointer (some ⟨x.b,0,none⟩)] 22)) rb 39 s (some ⟨w7.heap.size,0,none⟩) 1 1).mono ?_;rintro e w3' ⟨rfl,hw3'⟩
         have hA:Got w6.drew B w3' (.mk (w7.heap.size + 1) (.slice (some ⟨w7.heap.size,0,none⟩) 1 1) 39 s 0 [x]) (.mk 39 s 0 [t]):=by rw [hw3']; exact hA
         rw [← hw3'] at hb2;have hN3:=hN7.rfr hlt (RFr.below (rb:=rb) hb2);have hR3:=hR7.below hb2;have hF63:RFr w6 w3' rb:=hF67.trans (RFr.below hb2);clear hblk m3 hw3' hb1;have hblk:=hN3.at'.blkOf;simp only [ATree.b,ATree.v,ATree.kind,ATree.text,ATree.n] at hblk;have m3:w3'.cell? ⟨nb,3,none⟩=some (.slice p kids.length cp):=by simp [World.cell?,hblk]
         have mz:w3'.frozen? ⟨nb,3,none⟩=false:=by simp [World.frozen?,hblk]
         have hnb3:nb < w3'.heap.size:=(Y6.1 hblk).1;have hnd:=hN3.nodup;simp only [ATree.blocks,List.nodup_cons,List.mem_append,Option.mem_toList,not_or] at hnd;have hne:=hnd.1.1;have hk4:kids.length≤8:=by have:=HKL.out; have:=HL.out; omega
         have hsz7:(w7.alloc (.cells #[.pointer (some ⟨x.b,0,none⟩)] 22)).heap.size=w7.heap.size + 1:=by simp
         rw [hsz7];obtain ⟨a,ha⟩:∃ a:ATree,a=.mk (w7.heap.size + 1) (.slice (some ⟨w7.heap.size,0,none⟩) 1 1) 39 s 0 [x]:=⟨_,rfl⟩
         rw [← ha] at hA;have hap:Value.pointer (some ⟨w7.heap.size + 1,0,none⟩)=.pointer (some ⟨a.b,0,none⟩):=by rw [ha]; rfl
         rw [hap];clear ha hap hsz7;have N3:=lh hN3;have A3:=lh hA;have R3:=lh hR3;have F3':=lh (F6.out.trans hF63);have NE:=lh hne;have NA:=lh (show ∀ y∈(ATree.mk nb (.slice p kids.length cp) 38 ⟨#[]⟩ 0 kids).blocks,y < w6.drew.heap.size from fun y hy=>(G6.out.new y hy).2);have HVL:=lh hvl;refine hK _ _ m3 ?_;obtain ⟨i0,hi,hz0,hz1,hz2⟩:=info_parts Tryz.infoPtr;clear hK K hA hR3 hF63 hN3 hblk hnd hne n3 hX hR7 hF7 hF67 hN7 hb2 hv hq4 hvl P7;refine Z5 (fun K hK=>?_);go_simp
         refine hK _ _ ((Z8 hnb3).trans m3) ?_;clear hK K;refine Z5 (fun K hK=>?_)
         refine step_append_lies _ (by rfl) (.tmp 34) (.tmp 41) 36 (by rfl) B 22 i0 _ 1 8 Tryz.underlying36 hi hz0 hz1 hz2 rfl (by decide) (.slice p kids.length cp) (kids).length ((kids).map ATree.ptr) (by rfl) (N3.out.at'.rowOf.alloc _) ⟨w3'.heap.size,0,none⟩ 1 1 [a.ptr] (by rfl) rfl (Yi (cs:=#[a.ptr]) (t:=22) (fr:=(0,0)) (heap_alloc_new w3' _)) (by simp [ATree.ptr,Value.oneCell']) (by decide) (by unfold maxLen; omega) (by omega) (by simp; have:=F3'.out.size; have:=HP.out.le; omega) (w3'.heap.size + 1) (by simp) ?_;intro gg cap w4 hown4 hgrow4 hat4 hlt4
         have m4:w4.cell? ⟨nb,3,none⟩=some (.slice p kids.length cp):=(hgrow4.cell_far ⟨nb,3,none⟩ (by simp; omega) (fun e=>NE.out e.symm)).trans ((Z8 hnb3).trans m3);have mz4:w4.frozen? ⟨nb,3,none⟩=false:=(hgrow4.frozen_far ⟨nb,3,none⟩ (by simp; omega) (fun e=>NE.out e.symm)).trans ((Z0m hnb3).trans mz);refine hK _ _ m4 ?_;clear hK K;simp only [Act.put,zA,zB,zC]
         have hfin:=Got.push hlt HP.out.le N3.out (wA:=w6.drew) NA.out A3.out F3'.out R3.out ((Y8 _ _).alloc (Y5 _) _) hgrow4 hown4 (by rcases hat4 with h | h; (exact .inl h); (exact .inr (by omega))) hlt4;have FIN:=lh hfin;clear hgrow4 hown4 hat4 hlt4 hfin;refine Z6 ?_;go_wp2;go_roundw
         case rel=>
          refine ⟨g,acc ++ [.mk 39 s 0 [t]],vs,.slice (some ⟨gg,0,none⟩) (kids.length + 1) cap,kids ++ [a],by omega,HQ4.out,?_,FIN.out.2.2,FIN.out.2.1,by have:=HL.out; have:=H8.out; simp; omega,by have:=HVL.out; have:=PQ.out.2; have:=Z19 us.tail; have:=Z19 (us.tail).tail; omega⟩;have h1:=FIN.out.1;have h2:=GQ.out.tree;simp only [ATree.tree,Tree.mk.injEq,true_and] at h2;rw [h2] at h1;exact h1
         case measure=>
          rw [FIN.out.2.2.left,RL.out];have e:(us.tail).tail.length=(us.tail).length - 1:=List.length_tail;have:=HVL.out; have:=HPOS.out; have:=PL.out; have:=Z19 (us.tail).tail;omega
       ·have HC := Z3k w5 rb _ d Z2s P5.out.rd hs;unfold Z2s at HC;have HC := lh HC;clear hs;go_wp2_with fail
        refine HC.out.mono ?_;rintro e w9 ⟨⟨b,rfl,h1,h2⟩,hB⟩;exact ⟨rfl,Z0t.err F5.out ⟨b,rfl,h1,h2⟩ hB⟩
      ·have HC := lh (Z61 w4q rb us.tail d PQ.out.1.rd hk);clear hq3 hk;go_wp2_with fail
       refine HC.out.mono ?_;rintro e w9 ⟨⟨b,rfl,h1,h2⟩,hB⟩;exact ⟨rfl,Z0t.err FQ.out ⟨b,rfl,h1,h2⟩ hB⟩
    ·have hc' : isT Z1b us = false := by simpa using hc
     have hr:r=.error (3,(hdT us).at'):=by
      rw [Z1e,Y9 hc] at hq1;exact (Yk hq1).symm
     subst hr;have HC:=Z3k w3 rb us d Z1b P3.out.rd hc';unfold Z1b at HC;have HC:=lh HC;clear hq1 hc hc' HQ;go_wp2_with fail
     refine HC.out.mono ?_;rintro e w9 ⟨⟨b,rfl,h1,h2⟩,hB⟩;exact ⟨rfl,Z0t.err F3.out ⟨b,rfl,h1,h2⟩ hB⟩
theorem Z8a {p:PR} {k m:Tree→List Tok→PR}:Z0g (Z0g p k) m=Z0g p fun t ts=>Z0g (k t ts) m:=by
 rcases p with _ | e | ⟨t,ts⟩ <;> rfl
theorem Zc7 {s:ByteArray} {ts:List Tok} {k:List Tok→PR} {m:Tree→List Tok→PR}:Z0g (Z1e s ts k) m=Z1e s ts fun ts=>Z0g (k ts) m:=by
 unfold Z1e;by_cases h:isT s ts=true;·rw [Yb h,Yb h]
 ·rw [Y9 h,Y9 h]; rfl
def Zaq (g G d:Nat) (acc:List Tree) (us:List Tok):PR:=if 8 < acc.length then Z30 4 us else Z0g (Z0g (Z0 g .value d us) fun v ts=>Z0 g (.args (acc ++ [v])) d ts) fun n ts=>Z0 G (.postLoop n) d ts
theorem Zhj {g G d:Nat} {acc:List Tree} {us:List Tok} (h:isT Z0v us=false) :
 Z0g (Z0 (g + 1) (.args acc) d us) (fun n ts=>Z0 G (.postLoop n) d ts)=(if 1 < acc.length then Z1e Z1b us else fun k=>k us) fun us=>Zaq g G d acc us:=by
 have key:∀ us,Z0g (if 8 < acc.length then Z30 4 us else Z0g (Z0 g .value d us) fun v ts=>Z0 g (.args (acc ++ [v])) d ts) (fun n ts=>Z0 G (.postLoop n) d ts)=Zaq g G d acc us:=by
  intro us;unfold Zaq;by_cases h:8 < acc.length;·rw [Yb h,Yb h]; rfl
  ·rw [Y9 h,Y9 h]
 rw [Z0,Y9 (by rw [h]; simp)];by_cases h1:1 < acc.length
 ·simp only [if_pos h1];rw [Zc7];simp only [key]
 ·simp only [if_neg h1];exact key us
theorem Zba (F:Nat) (hPr:Says 147 rArg .primary F) (hV:∀ g,g < F→Says 80 rArg .value g) :
 Says 135 rArg .postfix_ (F + 1):=by
 intro w rb B d ts r hP hp;have hw:Z0g (Z0 F .primary d ts) (fun x ts=>Z0 F (.postLoop x) d ts)=some r:=hp;have HP:=lh hP;have HV:=lh hV;have H1:=lh hw;have HPR:=lh hPr;have hlt:=hP.lt;clear hP hp hV hPr hw;rcases Z09 H1.out with ⟨⟨c,p⟩,hv,rfl⟩ | ⟨t,us0,hv,h2⟩
 ·have HC := HPR.out w rb B d _ _ HP.out hv;unfold rArg at HC ⊢;have HC := lh HC;clear hv;go_enter Tryz.func135, Tryz.ntmps135
  go_wp2_with fail
  refine HC.out.mono ?_;rintro e w2 ⟨⟨b,rfl,h1,h2⟩,hF⟩;exact ⟨rfl,⟨b,rfl,h1,h2⟩,hF⟩
 have HC:=HPR.out w rb B d _ _ HP.out hv;have hul:=Z1h hv;unfold rArg at HC ⊢;have HC:=lh HC;have H2:=lh h2;clear hv h2;go_enter Tryz.func135,Tryz.ntmps135
 go_wp2_with fail
 refine HC.out.mono ?_;rintro e w1 ⟨a0,rfl,hG1,hR1,hF1⟩;have ST:Hid (∃ (G:Nat) (us:List Tok) (a:ATree) (t:Tree),G≤F∧Value.pointer (some ⟨a0.b,0,none⟩)=.pointer (some ⟨a.b,0,none⟩)∧Z0 G (.postLoop t) d us=some r∧Got w B w1 a t∧Rd w1 rb us d∧RFr w w1 rb∧us.length≤ts.length):=
  lh ⟨F,us0,a0,t,Y5 _,rfl,H2.out,hG1,hR1,hF1,hul⟩
 clear hG1 hR1 hF1 hul HC H2;go_wp2_with fail
 go_loopw [3] (fun v3 wr=>∃ (G:Nat) (us:List Tok) (a:ATree) (t:Tree),G≤F∧v3=.pointer (some ⟨a.b,0,none⟩)∧Z0 G (.postLoop t) d us=some r∧Got w B wr a t∧Rd wr rb us d∧RFr w wr rb∧us.length≤ts.length) (fun _ wr=>leftOf wr rb)
 case atStart=>exact ST.out
 case round=>
  obtain ⟨G,us,a,t,hGF,rfl,hq,hG,hR,hF,hu⟩:=hrel;obtain ⟨wo,rfl⟩:∃ wo:World,wo=wr:=⟨_,rfl⟩
  obtain ⟨ab,hab⟩:=zX a.b
  have HAB:=lh hab;rw [← hab];have G1:=lh hG;have F1:=lh hF;have RLO:=lh hR.left;have P1:Pre wo rb B d us:=⟨hR,HP.out.deep,hlt,Ya HP.out.le hF.size,Ya hu HP.out.few⟩
  have P1:=lh P1;have HU:=lh hu;clear hG hF hR hu ST hab;cases G with
  | zero=>cases hq
  | succ G=>
  rw [Z0] at hq;by_cases hd:isT Z98 us=true
  ·rw [Yb hd] at hq;have HT := Z1g wo rb us d Z98 P1.out.rd hd;unfold Z98 at HT;have HT := lh HT;have HPOS := lh (Z0j hd);have HQ := lh hq;clear hq hd;go_wp2_with fail
   refine HT.out.mono ?_;rintro e w2 ⟨rfl,hR2,hF2⟩;have P2:=lh (P1.out.tail hR2 hF2);have F2:=lh (F1.out.trans hF2);have G2:=lh (G1.out.rfr hlt hF2);clear hR2 hF2 HT;rcases Z3x HQ.out with ⟨hk,h1⟩ | ⟨hk,rfl⟩
   ·have HC := lh (Z44 w2 rb us.tail d P2.out.rd hk);obtain ⟨s, hs⟩ := zX ((hdT us.tail).text)
    rw [← hs] at HC h1;have H3:=lh h1;clear hk h1 hs;go_wp2_with fail
    refine HC.out.mono ?_;rintro e w3 ⟨rfl,hR3,hF3⟩;have F3:=F2.out.trans hF3;have G3:=G2.out.rfr hlt hF3;have hb1:Below w3.heap.size w3 (w3.alloc (.cells #[.pointer (some ⟨ab,0,none⟩)] 22)):=(Y8 _ _).alloc (Y5 _) _;have hb2:Below w3.heap.size w3 ((w3.alloc (.cells #[.pointer (some ⟨ab,0,none⟩)] 22)).alloc (.cells #[.int .i64 36,.string s,.int .i64 0,.slice (some ⟨w3.heap.size,0,none⟩) 1 1] 38)):=hb1.alloc (by simp) _;have hA:=Got.one (k:=36) (t:=s) HP.out.le F3 G3;have HA:=lh hA;have R4:=lh (hR3.below hb2)
    have F4:=lh (F3.trans (RFr.below (rb:=rb) hb2));clear hR3 hF3 F3 G3 hb1 hb2 hA HC;go_wp2_with fail
    refine (Z14 _ rb 36 s _ 1 1).mono ?_;rintro e w7 ⟨rfl,rfl⟩;go_wp2;go_roundw
    case rel=>
     refine ⟨G,us.tail.tail,.mk (w3.heap.size + 1) (.slice (some ⟨w3.heap.size,0,none⟩) 1 1) 36 s 0 [a],.mk 36 s 0 [t],by omega,by simp [ATree.b],H3.out,?_,R4.out,F4.out,by have:=HU.out; have:=Z19 us; have:=Z19 us.tail; omega⟩;rw [HAB.out];exact HA.out
    case measure=>
     rw [R4.out.left,RLO.out];have:=HPOS.out; have:=Z19 us.tail; omega
   ·have HC := lh (Z61 w2 rb us.tail d P2.out.rd hk);clear hk;go_wp2_with fail
    refine HC.out.mono ?_;rintro e w9 ⟨⟨b,rfl,h1,h2⟩,hB⟩;exact ⟨rfl,Z0t.err F2.out ⟨b,rfl,h1,h2⟩ hB⟩
  ·have hd' : isT Z98 us = false := by simpa using hd
   rw [Y9 hd] at hq;have HT:=Z22 wo rb us d Z98 P1.out.rd hd';unfold Z98 at HT;have HT:=lh HT;have HQ:=lh hq;clear hq hd hd';go_wp2_with fail
   refine HT.out.mono ?_;rintro e w2 ⟨rfl,hB2⟩;have P2:=lh (P1.out.below hB2);have F2:=lh (F1.out.trans (RFr.below (rb:=rb) hB2));have G2:=lh (G1.out.rfr hlt (RFr.below (rb:=rb) hB2));clear hB2 HT;by_cases hl:isT Z0u us=true
   ·have hq := HQ.out;rw [Yb hl] at hq;have HQ2 := lh hq;have HT := Z1g w2 rb us d Z0u P2.out.rd hl;unfold Z0u at HT;have HT := lh HT;have HPOS := lh (Z0j hl);clear hq hl HQ;go_wp2_with fail
    refine HT.out.mono ?_;rintro e w3 ⟨rfl,hR3,hF3⟩;have F3:=F2.out.trans hF3;have G3:=G2.out.rfr hlt hF3;have hb1:Below w3.heap.size w3 (w3.alloc (.cells #[.pointer (some ⟨ab,0,none⟩)] 22)):=(Y8 _ _).alloc (Y5 _) _;have hb2:Below w3.heap.size w3 ((w3.alloc (.cells #[.pointer (some ⟨ab,0,none⟩)] 22)).alloc (.cells #[.int .i64 35,.string ⟨#[]⟩,.int .i64 0,.slice (some ⟨w3.heap.size,0,none⟩) 1 1] 38)):=hb1.alloc (by simp) _;have hA:=Got.one (k:=35) (t:=⟨#[]⟩) HP.out.le F3 G3;have hR4:=hR3.below hb2;have hF4:=F3.trans (RFr.below (rb:=rb) hb2)
    have HN:=lh (Z14 (w3.alloc (.cells #[.pointer (some ⟨ab,0,none⟩)] 22)) rb 35 ⟨#[]⟩ (some ⟨w3.heap.size,0,none⟩) 1 1);clear hR3 hF3 F3 G3 hb1 HT;go_wp2_with fail
    refine HN.out.mono ?_;rintro e w4 ⟨rfl,hw4⟩;have hsz3:(w3.alloc (.cells #[.pointer (some ⟨ab,0,none⟩)] 22)).heap.size=w3.heap.size + 1:=by simp
    rw [hsz3];obtain ⟨nb,hnb⟩:=zX (w3.heap.size + 1)
    rw [← hnb];have hA':Got w B w4 (.mk nb (.slice (some ⟨w3.heap.size,0,none⟩) 1 1) 35 ⟨#[]⟩ 0 [a]) (.mk 35 ⟨#[]⟩ 0 [t]):=by rw [hw4,hnb,HAB.out]; exact hA
    rw [← hw4] at hR4 hF4;obtain ⟨us1,hus1⟩:=zX us.tail
    have ST:Hid (∃ (g:Nat) (acc:List Tree) (vs:List Tok) (v:Value) (kids:List ATree),g≤G∧Z0g (Z0 g (.args acc) d vs) (fun n ts=>Z0 G (.postLoop n) d ts)=some r∧Got w B w4 (.mk nb v 35 ⟨#[]⟩ 0 kids) (.mk 35 ⟨#[]⟩ 0 acc)∧Rd w4 rb vs d∧RFr w w4 rb∧1≤acc.length∧acc.length≤9∧vs.length≤us1.length):=
     lh ⟨G,[t],us1,_,[a],Y5 _,by rw [hus1]; exact HQ2.out,hA',by rw [hus1]; exact hR4,hF4,by simp,by simp,Y5 _⟩
    have HUS1:=lh hus1;clear hw4 hsz3 hnb hA hA' hR4 hF4 hb2 HQ2 HN hus1;go_wp2_with fail
    go_loopw [] (fun wr=>∃ (g:Nat) (acc:List Tree) (vs:List Tok) (v:Value) (kids:List ATree),g≤G∧Z0g (Z0 g (.args acc) d vs) (fun n ts=>Z0 G (.postLoop n) d ts)=some r∧Got w B wr (.mk nb v 35 ⟨#[]⟩ 0 kids) (.mk 35 ⟨#[]⟩ 0 acc)∧Rd wr rb vs d∧RFr w wr rb∧1≤acc.length∧acc.length≤9∧vs.length≤us1.length) (fun wr=>leftOf wr rb)
    case atStart=>exact ST.out
    case round=>
     obtain ⟨g,acc,vs,v,kids,hgG,hq,hG,hR,hF,hl1,hl,hu⟩:=hrel;have GG:=lh hG;have RR':=lh hR;have FF:=lh hF;have RL:=lh hR.left;cases g with
     | zero=>cases hq
     | succ g=>
     have HB:=Z4h wr rb vs d Z0v hR;have hvt:vs.length≤ts.length:=by have e1:=HUS1.out; have e2:=HU.out; have e3:=Z19 us; rw [e1] at hu; omega
     by_cases hb:isT Z0v vs=true
     ·rw [hb] at HB;rw [Z0, Yb hb] at hq;have hq : Z0 G (.postLoop (.mk 35 ByteArray.empty 0 acc)) d vs.tail = some r := hq;have HQ := lh hq;have HB := lh HB;have HI := lh hb;unfold Z0v at HB;have HVU := lh hu;have HVT := lh hvt;clear hG hR hF hq hb ST hu hvt;go_wp2_with fail
      refine HB.out.mono ?_;rintro e w5 ⟨rfl,hB5⟩;have F5:=FF.out.trans (RFr.below (rb:=rb) hB5);have G5:=GG.out.rfr hlt (RFr.below (rb:=rb) hB5);have R5:=RR'.out.below hB5;have HC:=Z2b w5 rb vs d Z0v R5 HI.out;unfold Z0v at HC;have HC:=lh HC;have F5:=lh F5;have G5:=lh G5;clear hB5 R5 FF GG RR' HB;go_wp2_with fail
      refine HC.out.mono ?_;rintro e w6 ⟨rfl,hR6,hF6⟩;have R6:=lh hR6;have F6:=lh (F5.out.trans hF6);have G6:=lh (G5.out.rfr hlt hF6);clear hR6 hF6 HC F5 G5;go_wp2;go_roundw
      case rel=>exact ⟨G,vs.tail,_,_,by omega,rfl,HQ.out,G6.out,R6.out,F6.out,by have:=HVT.out; have:=Z19 vs; omega⟩
      case measure=>
       rw [R6.out.left,RLO.out];have e1:=HUS1.out; have h2:=HVU.out; rw [e1] at h2; have:=HPOS.out; have:=Z19 vs; omega
     ·have hb' : isT Z0v vs = false := by simpa using hb
      rw [hb'] at HB;rw [Zhj hb'] at hq;have HB:=lh HB;have HQ:=lh hq;unfold Z0v at HB;have hkl:kids.length=acc.length:=by
       have:=hG.tree;simp only [ATree.tree,Tree.mk.injEq,true_and] at this;rw [← this,Z26,Yv]
      have HKL:=lh hkl;clear hG hR hF hq hb hb' ST hkl;go_wp2_with fail
      refine HB.out.mono ?_;rintro e w5 ⟨rfl,hB5⟩;have F5:=FF.out.trans (RFr.below (rb:=rb) hB5);have G5:=GG.out.rfr hlt (RFr.below (rb:=rb) hB5);have R5:=RR'.out.below hB5;have P5:Pre w5 rb B d vs:=⟨R5,HP.out.deep,hlt,Ya HP.out.le F5.size,Ya hvt HP.out.few⟩
      obtain ⟨p,cp,rfl⟩:∃ p cp,v=.slice p kids.length cp:=by
       rcases Zp G5.at'.rowOf with ⟨h1,h2⟩ | ⟨g0,cap0,h1,_⟩
       ·simp only [ATree.v,ATree.kids] at h1 h2;exact ⟨none,0,by rw [h1,h2]⟩
       ·exact ⟨_,_,h1⟩
      have hblk:=G5.at'.blkOf;simp only [ATree.b,ATree.v,ATree.kind,ATree.text,ATree.n] at hblk;have n3:w5.cell? ⟨nb,3,none⟩=some (.slice p kids.length cp):=by simp [World.cell?,hblk]
      have F5:=lh F5;have G5:=lh G5;have P5:=lh P5;have HL:=lh hl;have HL1:=lh hl1;have HVU:=lh hu;have HVT:=lh hvt;clear hB5 R5 FF GG RR' HB hblk hl hl1 hu hvt;by_cases h0:1 < acc.length
      ·have a0 : decide (1 < (kids.length : Int)) = true := by have := HKL.out; simp; omega
       have hq1:=HQ.out;rw [Yb h0] at hq1;have H0:=lh h0;clear h0;by_cases hc:isT Z1b vs=true
       ·have hq2 : Zaq g G d acc vs.tail = some r := by rw [Z1e, Yb hc] at hq1; exact hq1
        have HC:=Z2b w5 rb vs d Z1b P5.out.rd hc;unfold Z1b at HC;have HC:=lh HC;have HQ2:=lh hq2;clear hq1 hc HQ hq2;go_wp2_with fail
        refine HC.out.mono ?_;rintro e w4q ⟨rfl,hR4,hF4⟩;have PQ:=lh (show Pre w4q rb B d vs.tail∧vs.tail.length≤us1.length from ⟨P5.out.tail hR4 hF4,by have:=HVU.out; rw [List.length_tail]; omega⟩);have GQ:=lh (G5.out.rfr hlt hF4);have FQ:=lh (F5.out.trans hF4);have PL:=lh (show vs.tail.length≤vs.length by rw [List.length_tail]; omega);have hblk:=GQ.out.at'.blkOf;simp only [ATree.b,ATree.v,ATree.kind,ATree.text,ATree.n] at hblk;clear n3;have n3:w4q.cell? ⟨nb,3,none⟩=some (.slice p kids.length cp):=by simp [World.cell?,hblk]
        clear hR4 hF4 HC hblk F5 G5 P5;by_cases h8:8 < acc.length
        ·have n8 : decide (8 < (kids.length : Int)) = true := by have := HKL.out; simp; omega
         have hr:r=.error (4,(hdT vs.tail).at'):=by
          have h:=HQ2.out;unfold Zaq at h;rw [Yb h8] at h;exact (Yk h).symm
         subst hr;have HF:=lh (Z35 w4q rb vs.tail d 4 PQ.out.1.rd);clear h8;go_wp2_with fail
         refine HF.out.mono ?_;rintro e w9 ⟨⟨b,rfl,h1,h2⟩,hB⟩;exact ⟨rfl,Z0t.err FQ.out ⟨b,rfl,h1,h2⟩ hB⟩
        ·have n8 : decide (8 < (kids.length : Int)) = false := by have := HKL.out; simp; omega
         have hq3:=HQ2.out;unfold Zaq at hq3;rw [Y9 h8] at hq3;have H8:=lh h8;have H2:=lh hq3;clear h8 hq3;go_wp2_with fail
         refine Zf [0,2,4,6,8,10,13,15,17] [9,10,11] (fun W=>W.cell? ⟨nb,3,none⟩=some (.slice p kids.length cp)) n3 fun _=>?_;simp only [Zh,pD,zD,zE,zF,zG,zH,zI,zJ,zK]
         iterate 6
          first | refine Za _ ?_ | refine Zb ?_
          simp only [Act.put,zA,zB,zC]
         refine Z5 (fun K hK=>?_);go_simp
         have P7:Pre w4q.drew rb B d _:=PQ.out.1.below (Y8 _ _).drew;rw [Z8a] at H2;rcases Z09 H2.out with ⟨⟨c,p⟩,hv,rfl⟩ | ⟨t,vs,hv,hq4⟩
         ·refine (HV.out g (by omega) w4q.drew rb B d _ _ P7 hv).mono ?_;rintro e w7 ⟨⟨b,rfl,h1,h2⟩,hF7⟩;exact ⟨rfl,Z0t.pre FQ.out.drew (r:=.error (c,p)) ⟨⟨b,rfl,h1,h2⟩,hF7⟩⟩
         ·have hvl := Z24 _ _ _ _ _ _ hv;have HQ4 := lh hq4;refine (HV.out g (by omega) w4q.drew rb B d _ _ P7 hv).mono ?_;rintro e w3 ⟨a, rfl, hA, hR3, hF3⟩;have hF63 : RFr w4q w3 rb := (RFr.refl w4q rb).drew.trans hF3;have hN3 := GQ.out.rfr hlt hF63;have hblk := hN3.at'.blkOf;simp only [ATree.b, ATree.v, ATree.kind, ATree.text, ATree.n] at hblk;have m3 : w3.cell? ⟨nb, 3, none⟩ = some (.slice p kids.length cp) := by simp [World.cell?, hblk]
          have mz:w3.frozen? ⟨nb,3,none⟩=false:=by simp [World.frozen?,hblk]
          have hnb3:nb < w3.heap.size:=(Y6.1 hblk).1;have hnd:=hN3.nodup;simp only [ATree.blocks,List.nodup_cons,List.mem_append,Option.mem_toList,not_or] at hnd;have hne:=hnd.1.1;have hk4:kids.length≤9:=by have:=HKL.out; have:=HL.out; omega
          have N3:=lh hN3;have A3:=lh hA;have R3:=lh hR3;have F3:=lh (FQ.out.trans hF63);have NE:=lh hne;have NA:=lh (show ∀ y∈(ATree.mk nb (.slice p kids.length cp) 35 ⟨#[]⟩ 0 kids).blocks,y < w4q.drew.heap.size from fun y hy=>(GQ.out.new y hy).2);have HVL:=lh hvl;refine hK _ _ m3 ?_;obtain ⟨i0,hi,hz0,hz1,hz2⟩:=info_parts Tryz.infoPtr;clear hK K hA hR3 hF63 hN3 hblk hnd hne n3 hF3 hv hq4 P7 hvl;refine Z5 (fun K hK=>?_);go_simp
          refine hK _ _ ((Z8 hnb3).trans m3) ?_;clear hK K;refine Z5 (fun K hK=>?_)
          refine step_append_lies _ (by rfl) (.tmp 47) (.tmp 50) 36 (by rfl) B 22 i0 _ 1 8 Tryz.underlying36 hi hz0 hz1 hz2 rfl (by decide) (.slice p kids.length cp) (kids).length ((kids).map ATree.ptr) (by rfl) (N3.out.at'.rowOf.alloc _) ⟨w3.heap.size,0,none⟩ 1 1 [a.ptr] (by rfl) rfl (Yi (cs:=#[a.ptr]) (t:=22) (fr:=(0,0)) (heap_alloc_new w3 _)) (by simp [ATree.ptr,Value.oneCell']) (by decide) (by unfold maxLen; omega) (by omega) (by simp; have:=F3.out.size; have:=HP.out.le; omega) (w3.heap.size + 1) (by simp) ?_;intro gg cap w4 hown4 hgrow4 hat4 hlt4
          have m4:w4.cell? ⟨nb,3,none⟩=some (.slice p kids.length cp):=(hgrow4.cell_far ⟨nb,3,none⟩ (by simp; omega) (fun e=>NE.out e.symm)).trans ((Z8 hnb3).trans m3);have mz4:w4.frozen? ⟨nb,3,none⟩=false:=(hgrow4.frozen_far ⟨nb,3,none⟩ (by simp; omega) (fun e=>NE.out e.symm)).trans ((Z0m hnb3).trans mz);refine hK _ _ m4 ?_;clear hK K;simp only [Act.put,zA,zB,zC]
          have hfin:=Got.push hlt HP.out.le N3.out (wA:=w4q.drew) NA.out A3.out F3.out R3.out ((Y8 _ _).alloc (Y5 _) _) hgrow4 hown4 (by rcases hat4 with h | h; (exact .inl h); (exact .inr (by omega))) hlt4;have FIN:=lh hfin;clear hgrow4 hown4 hat4 hlt4 hfin;refine Z6 ?_;go_wp2;go_roundw
          case rel=>
           refine ⟨g,acc ++ [t],vs,.slice (some ⟨gg,0,none⟩) (kids.length + 1) cap,kids ++ [a],by omega,HQ4.out,?_,FIN.out.2.2,FIN.out.2.1,by simp,by have:=HL.out; have:=H8.out; simp; omega,by have:=HVL.out; simp only [Job.least] at this; have:=PQ.out.2; omega⟩;have h1:=FIN.out.1;have h2:=GQ.out.tree;simp only [ATree.tree,Tree.mk.injEq,true_and] at h2;rw [h2] at h1;exact h1
          case measure=>
           rw [FIN.out.2.2.left,RL.out];have:=HVL.out; simp only [Job.least] at this; have:=PL.out;omega
       ·have hc' : isT Z1b vs = false := by simpa using hc
        have hr:r=.error (3,(hdT vs).at'):=by
         rw [Z1e,Y9 hc] at hq1;exact (Yk hq1).symm
        subst hr;have HC:=Z3k w5 rb vs d Z1b P5.out.rd hc';unfold Z1b at HC;have HC:=lh HC;clear hq1 hc hc' HQ;go_wp2_with fail
        refine HC.out.mono ?_;rintro e w9 ⟨⟨b,rfl,h1,h2⟩,hB⟩;exact ⟨rfl,Z0t.err F5.out ⟨b,rfl,h1,h2⟩ hB⟩
      ·have a0 : decide (1 < (kids.length : Int)) = false := by have := HKL.out; simp; omega
       have hq2:Zaq g G d acc vs=some r:=by have h:=HQ.out; rw [Y9 h0] at h; exact h
       have PQ:=lh (show Pre w5 rb B d vs∧vs.length≤us1.length from ⟨P5.out,HVU.out⟩);have GQ:=G5;have FQ:=F5;have PL:=lh (Y5 vs.length);have HQ2:=lh hq2;have H0:=lh h0;clear HQ hq2 h0;by_cases h8:8 < acc.length
       ·have n8 : decide (8 < (kids.length : Int)) = true := by have := HKL.out; simp; omega
        have hr:r=.error (4,(hdT vs).at'):=by
         have h:=HQ2.out;unfold Zaq at h;rw [Yb h8] at h;exact (Yk h).symm
        subst hr;have HF:=lh (Z35 w5 rb vs d 4 PQ.out.1.rd);clear h8;go_wp2_with fail
        refine HF.out.mono ?_;rintro e w9 ⟨⟨b,rfl,h1,h2⟩,hB⟩;exact ⟨rfl,Z0t.err FQ.out ⟨b,rfl,h1,h2⟩ hB⟩
       ·have n8 : decide (8 < (kids.length : Int)) = false := by have := HKL.out; simp; omega
        have hq3:=HQ2.out;unfold Zaq at hq3;rw [Y9 h8] at hq3;have H8:=lh h8;have H2:=lh hq3;clear h8 hq3;go_wp2_with fail
        refine Zf [0,2,4,6,8,10,13,15,17] [9,10,11] (fun W=>W.cell? ⟨nb,3,none⟩=some (.slice p kids.length cp)) n3 fun _=>?_;simp only [Zh,pD,zD,zE,zF,zG,zH,zI,zJ,zK]
        iterate 6
         first | refine Za _ ?_ | refine Zb ?_
         simp only [Act.put,zA,zB,zC]
        refine Z5 (fun K hK=>?_);go_simp
        have P7:Pre w5.drew rb B d _:=PQ.out.1.below (Y8 _ _).drew;rw [Z8a] at H2;rcases Z09 H2.out with ⟨⟨c,p⟩,hv,rfl⟩ | ⟨t,vs,hv,hq4⟩
        ·refine (HV.out g (by omega) w5.drew rb B d _ _ P7 hv).mono ?_;rintro e w7 ⟨⟨b,rfl,h1,h2⟩,hF7⟩;exact ⟨rfl,Z0t.pre FQ.out.drew (r:=.error (c,p)) ⟨⟨b,rfl,h1,h2⟩,hF7⟩⟩
        ·have hvl := Z24 _ _ _ _ _ _ hv;have HQ4 := lh hq4;refine (HV.out g (by omega) w5.drew rb B d _ _ P7 hv).mono ?_;rintro e w3 ⟨a, rfl, hA, hR3, hF3⟩;have hF63 : RFr w5 w3 rb := (RFr.refl w5 rb).drew.trans hF3;have hN3 := GQ.out.rfr hlt hF63;have hblk := hN3.at'.blkOf;simp only [ATree.b, ATree.v, ATree.kind, ATree.text, ATree.n] at hblk;have m3 : w3.cell? ⟨nb, 3, none⟩ = some (.slice p kids.length cp) := by simp [World.cell?, hblk]
         have mz:w3.frozen? ⟨nb,3,none⟩=false:=by simp [World.frozen?,hblk]
         have hnb3:nb < w3.heap.size:=(Y6.1 hblk).1;have hnd:=hN3.nodup;simp only [ATree.blocks,List.nodup_cons,List.mem_append,Option.mem_toList,not_or] at hnd;have hne:=hnd.1.1;have hk4:kids.length≤9:=by have:=HKL.out; have:=HL.out; omega
         have N3:=lh hN3;have A3:=lh hA;have R3:=lh hR3;have F3:=lh (FQ.out.trans hF63);have NE:=lh hne;have NA:=lh (show ∀ y∈(ATree.mk nb (.slice p kids.length cp) 35 ⟨#[]⟩ 0 kids).blocks,y < w5.drew.heap.size from fun y hy=>(GQ.out.new y hy).2);have HVL:=lh hvl;refine hK _ _ m3 ?_;obtain ⟨i0,hi,hz0,hz1,hz2⟩:=info_parts Tryz.infoPtr;clear hK K hA hR3 hF63 hN3 hblk hnd hne n3 hF3 hv hq4 P7 hvl;refine Z5 (fun K hK=>?_);go_simp
         refine hK _ _ ((Z8 hnb3).trans m3) ?_;clear hK K;refine Z5 (fun K hK=>?_)
         refine step_append_lies _ (by rfl) (.tmp 47) (.tmp 50) 36 (by rfl) B 22 i0 _ 1 8 Tryz.underlying36 hi hz0 hz1 hz2 rfl (by decide) (.slice p kids.length cp) (kids).length ((kids).map ATree.ptr) (by rfl) (N3.out.at'.rowOf.alloc _) ⟨w3.heap.size,0,none⟩ 1 1 [a.ptr] (by rfl) rfl (Yi (cs:=#[a.ptr]) (t:=22) (fr:=(0,0)) (heap_alloc_new w3 _)) (by simp [ATree.ptr,Value.oneCell']) (by decide) (by unfold maxLen; omega) (by omega) (by simp; have:=F3.out.size; have:=HP.out.le; omega) (w3.heap.size + 1) (by simp) ?_;intro gg cap w4 hown4 hgrow4 hat4 hlt4
         have m4:w4.cell? ⟨nb,3,none⟩=some (.slice p kids.length cp):=(hgrow4.cell_far ⟨nb,3,none⟩ (by simp; omega) (fun e=>NE.out e.symm)).trans ((Z8 hnb3).trans m3);have mz4:w4.frozen? ⟨nb,3,none⟩=false:=(hgrow4.frozen_far ⟨nb,3,none⟩ (by simp; omega) (fun e=>NE.out e.symm)).trans ((Z0m hnb3).trans mz);refine hK _ _ m4 ?_;clear hK K;simp only [Act.put,zA,zB,zC]
         have hfin:=Got.push hlt HP.out.le N3.out (wA:=w5.drew) NA.out A3.out F3.out R3.out ((Y8 _ _).alloc (Y5 _) _) hgrow4 hown4 (by rcases hat4 with h | h; (exact .inl h); (exact .inr (by omega))) hlt4;have FIN:=lh hfin;clear hgrow4 hown4 hat4 hlt4 hfin;refine Z6 ?_;go_wp2;go_roundw
         case rel=>
          refine ⟨g,acc ++ [t],vs,.slice (some ⟨gg,0,none⟩) (kids.length + 1) cap,kids ++ [a],by omega,HQ4.out,?_,FIN.out.2.2,FIN.out.2.1,by simp,by have:=HL.out; have:=H8.out; simp; omega,by have:=HVL.out; simp only [Job.least] at this; have:=PQ.out.2; omega⟩;have h1:=FIN.out.1;have h2:=GQ.out.tree;simp only [ATree.tree,Tree.mk.injEq,true_and] at h2;rw [h2] at h1;exact h1
         case measure=>
          rw [FIN.out.2.2.left,RL.out];have:=HVL.out; simp only [Job.least] at this; have:=PL.out;omega
   ·have hl' : isT Z0u us = false := by simpa using hl
    have hq:=HQ.out;rw [Y9 hl] at hq;have hr:=Yk hq;have HRr:=lh hr.symm;have HT:=Z22 w2 rb us d Z0u P2.out.rd hl';unfold Z0u at HT;have HT:=lh HT;clear hq hl hl' hr HQ;go_wp2_with fail
    refine HT.out.mono ?_;rintro e w3 ⟨rfl,hB3⟩;have R3:=lh (P2.out.rd.below hB3);have F3:=lh (F2.out.trans (RFr.below (rb:=rb) hB3));have G3:=lh (G2.out.rfr hlt (RFr.below (rb:=rb) hB3));clear hB3 HT;go_wp2;go_ret;rw [HRr.out,HAB.out];exact ⟨a,rfl,G3.out,R3.out,F3.out⟩
end Go.Proofs.YtmeiggjboakmpaaGreatDoor
namespace Go.Proofs.YtmeiggjboakmpaaGreatDoor
open Go Go.RowKit Go.Maps
set_option maxRecDepth 100000
set_option maxHeartbeats 20000000
set_option linter.unusedVariables false
def Z3i:List (ByteArray×Int):=[(Z49,19),(Z38,20),(Z4s,21),(Z1q,22)]
def Z5j:DataW Unit:=litD Z3i
theorem Zh3:Z5j=.map [(.string Z38.data.toList,.lit (.int .i64 20)),(.string Z4s.data.toList,.lit (.int .i64 21)),(.string Z49.data.toList,.lit (.int .i64 19)),(.string Z1q.data.toList,.lit (.int .i64 22))]:=by kernel_rfl
theorem Zbb {kl:Lit} (h:Maps.has Z5j kl=true):∃ x∈Z3i,kl=.string x.1.data.toList:=by
 rw [Zh3] at h;obtain ⟨p,hp,hk⟩:=List.any_eq_true.1 h;have e:=WideAt.sameKey_eq hk;simp only [List.mem_cons,List.not_mem_nil,or_false] at hp;rcases hp with rfl | rfl | rfl | rfl;·exact ⟨(Z38,20),by simp [Z3i],e.symm⟩
 ·exact ⟨(Z4s,21),by simp [Z3i],e.symm⟩
 ·exact ⟨(Z49,19),by simp [Z3i],e.symm⟩
 ·exact ⟨(Z1q,22),by simp [Z3i],e.symm⟩
theorem Z6k {x:ByteArray×Int} (h:x∈Z3i):Maps.has Z5j (.string x.1.data.toList)=true∧Z5j.atKey (.string x.1.data.toList) (.lit (.int .i64 0))=.lit (.int .i64 x.2):=by
 simp only [Z3i,List.mem_cons,List.not_mem_nil,or_false] at h;rcases h with rfl | rfl | rfl | rfl <;> exact ⟨by kernel_rfl,by kernel_rfl⟩
theorem Zh2 {s:ByteArray} {ts:List Tok} (h:isT s ts=true):(hdT ts).text=s:=by
 simp only [isT,Bool.and_eq_true,Z15,decide_eq_true_eq] at h;exact h.2
theorem Z6w {s s':ByteArray} {ts:List Tok} (h:isT s ts=true) (hn:s≠s'):isT s' ts=false:=by
 have:=Zh2 h;simp only [isT,this];have:Z15 s s'=false:=by simp [Z15,hn]
 simp [this]
theorem Zhe {x:ByteArray×Int} {ts:List Tok} (h:x∈Z3i) (hx:isT x.1 ts=true):Z3s ts=x.2∧x.2≠0:=by
 simp only [Z3i,List.mem_cons,List.not_mem_nil,or_false] at h;rcases h with rfl | rfl | rfl | rfl;·exact ⟨by unfold Z3s; rw [Yb hx],by decide⟩
 ·exact ⟨by unfold Z3s; rw [Z6w hx (s':=Z49) (by decide)]; simp only at hx; simp [hx],by decide⟩
 ·exact ⟨by unfold Z3s; rw [Z6w hx (s':=Z49) (by decide),Z6w hx (s':=Z38) (by decide)]; simp only at hx; simp [hx],by decide⟩
 ·exact ⟨by unfold Z3s; rw [Z6w hx (s':=Z49) (by decide),Z6w hx (s':=Z38) (by decide),Z6w hx (s':=Z4s) (by decide)]; simp only at hx; simp [hx],by decide⟩
theorem Zey {ts:List Tok} (h:∀ x∈Z3i,isT x.1 ts=false):Z3s ts=0:=by
 have h1:=h (Z49,19) (by simp [Z3i]); have h2:=h (Z38,20) (by simp [Z3i]); have h3:=h (Z4s,21) (by simp [Z3i]); have h4:=h (Z1q,22) (by simp [Z3i]);simp only at h1 h2 h3 h4;simp [Z3s,h1,h2,h3,h4]
theorem keyOf_string_inv {P:Program} {k:TypeId} (hk:P.underlying k=some .string) {key:Value} {kl:Lit} (h:keyOf P k key=some kl):∃ x:ByteArray,key=.string x∧kl=.string x.data.toList:=by
 unfold keyOf at h;rw [hk] at h;simp only at h;unfold mapKey at h;rw [hk] at h;cases key <;> simp at h
 obtain ⟨_,rfl⟩:=h;exact ⟨_,rfl,rfl⟩
theorem Zb6 (f:Nat) (hA:Says 79 rArg .around f)
 (hFn:∀ s,Says 77 (fun rb=>#[.pointer (some ⟨rb,0,none⟩),.int .i64 37,.string s]) (.func 37 s) f)
 (hO:Says 156 rArg (.object []) f):Says 147 rArg .primary (f + 1):=by
 intro w rb B d ts r hP hp;have HA:=lh hA;have HFN:=lh hFn;have HO:=lh hO;have HP:=lh hP;obtain ⟨tb,off,cap,h⟩:=hP.rd;have c0:=h.c0;have z0:=h.fz 0;have t0:=h.hd (j:=0) rfl;have t1:=h.hd (j:=1) rfl;have t2:=h.hd (j:=2) rfl;have t3:=h.hd (j:=3) rfl;have hps:=h.pos;have hm:=h.most;have hle:=h.le;unfold maxLen at hm;have HH:=lh h;obtain ⟨n,hn⟩:=zX ts.length
 rw [← hn] at c0 hps hle;have HN:=lh hn;have hlt0:=h.lt;have hrt:=h.rlt;have hlt:=hP.lt;simp only [Nat.add_zero] at t0;have HQ:=lh hp;obtain ⟨kd,hkd⟩:=zX ((hdT ts).kind)
 rw [← hkd] at t0;have HKD:=lh hkd;obtain ⟨w1,hw1⟩:=zX (w.alloc (.cells #[.int .i64 kd,.string (hdT ts).text,.int .i64 (hdT ts).n,.int .i64 (hdT ts).at'] 87))
 have hB1:Below w.heap.size w w1:=by rw [hw1]; exact (Y8 _ _).alloc (Y5 _) _
 have P1:=lh (hP.below hB1);have B1:=lh hB1;have F1:=lh (RFr.below (rb:=rb) hB1);have HW1:=lh hw1;clear hP hp h hn hkd hA hFn hO hB1 hw1;unfold rArg;by_cases k1:kd=1
 ·subst k1;have hq := HQ.out;rw [Z0, Yb HKD.out.symm] at hq;have hr := Yk hq;have HR := lh hr.symm;have HC := lh (Z44 w1 rb ts d P1.out.rd HKD.out.symm);clear hq hr;go_enter Tryz.func147, Tryz.ntmps147
  go_wp2_with fail
  rw [← HW1.out];refine HC.out.mono ?_;rintro e w2 ⟨rfl,hR2,hF2⟩;have F2:=lh (F1.out.trans hF2);have R2:=lh hR2;obtain ⟨s,hs⟩:=zX ((hdT ts).text)
  rw [← hs];have HS:=lh hs;have HN:=lh (Z14 w2 rb 23 s none 0 0);have G3:=lh (Got.leaf (k:=23) (t:=s) (n:=0) HP.out.le F2.out);clear hR2 hF2 HC hs;go_wp2_with fail
  refine HN.out.mono ?_;rintro e w3 ⟨rfl,hw3⟩;have hal:Below w2.heap.size w2 w3:=by rw [hw3]; exact (Y8 _ _).alloc (Y5 _) _
  have AL:=lh hal;have HW3:=lh hw3;clear hal hw3 HN;go_wp2;go_ret;rw [HR.out,← HS.out];exact ⟨_,rfl,by rw [HW3.out]; exact G3.out,R2.out.below AL.out,F2.out.trans (RFr.below AL.out)⟩
 have n1:(kd == 1)=false:=by simpa using k1
 have K1:=lh k1;clear k1;by_cases k3:kd=3
 ·subst k3;have hq := HQ.out;rw [Z0, Y9 (by rw [← HKD.out]; exact K1.out), Yb HKD.out.symm] at hq;have hr := Yk hq;have HR := lh hr.symm;have hd6 : (hdT ts).kind ≠ 6 := by rw [← HKD.out]; decide
  have h2:=HH.out.two hd6;rw [← HN.out] at h2;have HT:=lh (HH.out.tail hd6);clear hq hr hd6;go_enter Tryz.func147,Tryz.ntmps147
  go_wp2_with fail
  refine (Z14 _ rb 17 ⟨#[]⟩ none 0 0).mono ?_;rintro e w3 ⟨rfl,rfl⟩;go_wp2;go_ret;have h4:=HT.out;rw [← HN.out] at h4;have hb:∀ o,Below (w.setCell ⟨rb,0,none⟩ (.slice (some ⟨tb,off + 4,none⟩) (n - 1) (cap - 1))).heap.size (w.setCell ⟨rb,0,none⟩ (.slice (some ⟨tb,off + 4,none⟩) (n - 1) (cap - 1))) ((w.setCell ⟨rb,0,none⟩ (.slice (some ⟨tb,off + 4,none⟩) (n - 1) (cap - 1))).alloc o):=fun o=>(Y8 _ _).alloc (Y5 _) o;have F2:=fun o=>(((RFr.refl w rb).set 0 (.slice (some ⟨tb,off + 4,none⟩) (n - 1) (cap - 1))).trans (RFr.below (rb:=rb) (hb o)))
  have hb2:∀ (W:World) o,Below W.heap.size W (W.alloc o):=fun W o=>(Y8 _ _).alloc (Y5 _) o;rw [HR.out];refine ⟨_,?pt,Got.leaf (k:=17) (t:=⟨#[]⟩) (n:=(hdT ts).n) HP.out.le (F2 _),⟨tb,off + 4,cap - 1,(h4.below (hb _)).below (hb2 _ _)⟩,(F2 _).trans (RFr.below (hb2 _ _))⟩;case pt=>simp [ATree.b]
 have n3:(kd == 3)=false:=by simpa using k3
 have K3:=lh k3;clear k3;by_cases k4:kd=4
 ·subst k4;have hq := HQ.out;rw [Z0, Y9 (by rw [← HKD.out]; exact K1.out), Y9 (by rw [← HKD.out]; exact K3.out), Yb HKD.out.symm] at hq;have hr := Yk hq;have HR := lh hr.symm;have hd6 : (hdT ts).kind ≠ 6 := by rw [← HKD.out]; decide
  have h2:=HH.out.two hd6;rw [← HN.out] at h2;have HT:=lh (HH.out.tail hd6);clear hq hr hd6;go_enter Tryz.func147,Tryz.ntmps147
  go_wp2_with fail
  refine (Z14 _ rb 18 (hdT ts).text none 0 0).mono ?_;rintro e w3 ⟨rfl,rfl⟩;go_wp2;go_ret;have h4:=HT.out;rw [← HN.out] at h4;have hb:∀ o,Below (w.setCell ⟨rb,0,none⟩ (.slice (some ⟨tb,off + 4,none⟩) (n - 1) (cap - 1))).heap.size (w.setCell ⟨rb,0,none⟩ (.slice (some ⟨tb,off + 4,none⟩) (n - 1) (cap - 1))) ((w.setCell ⟨rb,0,none⟩ (.slice (some ⟨tb,off + 4,none⟩) (n - 1) (cap - 1))).alloc o):=fun o=>(Y8 _ _).alloc (Y5 _) o;have F2:=fun o=>(((RFr.refl w rb).set 0 (.slice (some ⟨tb,off + 4,none⟩) (n - 1) (cap - 1))).trans (RFr.below (rb:=rb) (hb o)))
  have hb2:∀ (W:World) o,Below W.heap.size W (W.alloc o):=fun W o=>(Y8 _ _).alloc (Y5 _) o;rw [HR.out];refine ⟨_,?pt,Got.leaf (k:=18) (t:=(hdT ts).text) (n:=0) HP.out.le (F2 _),⟨tb,off + 4,cap - 1,(h4.below (hb _)).below (hb2 _ _)⟩,(F2 _).trans (RFr.below (hb2 _ _))⟩;case pt=>simp [ATree.b]
 have n4:(kd == 4)=false:=by simpa using k4
 have K4:=lh k4;clear k4;have hq0:=HQ.out;rw [Z0,Y9 (by rw [← HKD.out]; exact K1.out),Y9 (by rw [← HKD.out]; exact K3.out),Y9 (by rw [← HKD.out]; exact K4.out)] at hq0;have HQ0:=lh hq0;clear hq0;have hmm:=@run_makeMap Tryz.prog;have h0:=World.ownsMap_made (H:=Unit) w1 Tryz.prog 9 (plainElem Tryz.prog 3);have hB0:Below w1.heap.size w1 (w1.alloc (.map #[] 0)):=(Y8 _ _).alloc (Y5 _) _;have HB0:=lh hB0;rw [HW1.out,World.size_alloc] at h0;clear hB0;go_enter Tryz.func147,Tryz.ntmps147
 go_wp2_with (first | (refine Z9 _ rfl _ _ _ 82 rfl 9 3 Tryz.keyedS Tryz.underlying82 _ _ 0 _ rfl h0 (by unfold maxLen; omega) _ _ _ rfl rfl (Yw Yr (by decide)) _ [] (plainElem_int Ys (by decide)) ?_; intro v1 h1 g1) | (refine Z9 _ rfl _ _ _ 82 rfl 9 3 Tryz.keyedS Tryz.underlying82 _ _ 1 _ rfl h1 (by unfold maxLen; omega) _ _ _ rfl rfl (Yw Yr (by decide)) _ [] (plainElem_int Ys (by decide)) ?_; intro v2 h2 g2) | (refine Z9 _ rfl _ _ _ 82 rfl 9 3 Tryz.keyedS Tryz.underlying82 _ _ 2 _ rfl h2 (by unfold maxLen; omega) _ _ _ rfl rfl (Yw Yr (by decide)) _ [] (plainElem_int Ys (by decide)) ?_; intro v3 h3 g3) | (refine Z9 _ rfl _ _ _ 82 rfl 9 3 Tryz.keyedS Tryz.underlying82 _ _ 3 _ rfl h3 (by unfold maxLen; omega) _ _ _ rfl rfl (Yw Yr (by decide)) _ [] (plainElem_int Ys (by decide)) ?_; intro v4 h4 g4) | (at_range; refine wpList_range_own _ rfl _ 82 rfl 9 3 Tryz.keyedS Tryz.underlying82 _ _ _ _ rfl h4 ?_; intro v5 hrg0 hg5 hs5))
 obtain ⟨mb,hmb⟩:=zX (w.heap.size + 1)
 have hz1:w1.heap.size=mb:=by rw [HW1.out,hmb]; simp
 obtain ⟨it,hit⟩:=zX v4.heap.size
 have B1':=Z00 HB0.out (by rw [← HW1.out] at g1; exact g1) (by omega) HB0.out.size;have B2:=Z00 B1' g2 (by omega) B1'.size;have B3:=Z00 B2 g3 (by omega) B2.size;have B4:=Z00 B3 g4 (by omega) B3.size;have B5:Below w1.heap.size w1 v5:=B4.grown hg5 B4.size (fun j hj=>by cases hj);have hitl:w1.heap.size≤it:=by rw [hit]; exact B4.size
 have hrg:v5.ranges Tryz.prog 9 (plainElem Tryz.prog 3) mb it 4 Z5j (Maps.has Z5j) (Maps.size Z5j):=by rw [hmb,hit]; exact hrg0
 have HRG:=lh hrg;have B5:=lh B5;rw [← hmb,← hit];have HMB:=lh hmb;have HIT:=lh hit;have HZ1:=lh hz1;have HITL:=lh hitl;clear hrg0 hg5 hs5 h0 h1 h2 h3 h4 g1 g2 g3 g4 B1' B2 B3 B4 hrg hmb hit hz1 hitl HB0 hmm
 go_loopw [] (fun wr=>∃ (left:Lit→Bool) (cnt:Nat),wr.ranges Tryz.prog 9 (plainElem Tryz.prog 3) mb it 4 Z5j left cnt∧Hid (∀ kl,left kl=true→Maps.has Z5j kl=true) ∧
  Hid (∀ s:ByteArray,Maps.has Z5j (.string s.data.toList)=true→left (.string s.data.toList)=false→isT s ts=false)∧Hid (Below w1.heap.size w1 wr)) (fun wr=>wr.rangeLeft mb it)
 case atStart=>exact ⟨_,_,HRG.out,lh (fun _ h=>h),lh (fun s h1 h2=>by rw [h1] at h2; cases h2),B5⟩
 case round=>
  obtain ⟨left,cnt,hrg,HLE,HNO,BW⟩:=hrel;go_wp2_with (at_next; refine wpList_next_ranges _ rfl _ rfl 9 Tryz.keyedS _ (fun x:ByteArray=>Value.string x) (fun c:Int=>Value.int .i64 c) (fun key kl h=>by obtain ⟨x,h,_⟩:=keyOf_string_inv Yr h; exact ⟨x,h⟩) (fun v y h=>by obtain ⟨c,h,_⟩:=plainElem_int_inv Ys h; exact ⟨c,h⟩) mb it 4 _ left cnt rfl hrg ?_ ?_)
  ·intro _ hl0;have hnone : Z3s ts = 0 := Zey fun x hx => HNO.out x.1 (Z6k hx).1 (hl0 _);have hq := HQ0.out;rw [Y9 (fun h => h hnone)] at hq;have HQ1 := lh hq;have P5 := lh (P1.out.below BW.out);have F5 := lh (F1.out.trans (RFr.below (rb := rb) BW.out));clear hl0 hnone hq hrg;by_cases h1 : isT Z0u ts = true
   ·have hq := HQ1.out;rw [Yb h1] at hq;have HB := Z4h wr rb ts d Z0u P5.out.rd;rw [h1] at HB;unfold Z0u at HB;have HB := lh HB;have HQ2 := lh hq;clear h1 hq;go_wp2_with fail
    refine HB.out.mono ?_;rintro e w2 ⟨rfl,hB2⟩;have HC:=HA.out w2 rb B d ts r (P5.out.below hB2) HQ2.out;unfold rArg at HC;have HC:=lh HC;have F2:=lh (F5.out.trans (RFr.below (rb:=rb) hB2));clear hB2 HB;go_wp2_with fail
    refine HC.out.mono ?_;rcases r with ⟨c,p⟩ | ⟨t,ts'⟩
    ·rintro e w3 ⟨⟨b,rfl,h1,h2⟩,hF⟩;exact ⟨rfl,Z0t.pre F2.out (r:=.error (c,p)) ⟨⟨b,rfl,h1,h2⟩,hF⟩⟩
    ·rintro e w3 ⟨a,rfl,hG,hR,hF⟩;have HG:=lh (hG.pre F2.out);have HR:=lh hR;have HF:=lh (F2.out.trans hF);clear hG hR hF HC;go_wp2;go_ret;exact ⟨a,rfl,HG.out,HR.out,HF.out⟩
   have h1':isT Z0u ts=false:=by simpa using h1
   have hq:=HQ1.out;rw [Y9 h1] at hq;have HQ2:=lh hq;have HB:=Z4h wr rb ts d Z0u P5.out.rd;rw [h1'] at HB;unfold Z0u at HB;have HB:=lh HB;clear h1 h1' hq;go_wp2_with fail
   refine HB.out.mono ?_;rintro e w2 ⟨rfl,hB2⟩;have P2:=lh (P5.out.below hB2);have F2:=lh (F5.out.trans (RFr.below (rb:=rb) hB2));clear hB2 HB;by_cases h2:isT Ze ts=true
   ·have hq := HQ2.out;rw [Yb h2] at hq;have HT := Z1g w2 rb ts d Ze P2.out.rd h2;unfold Ze at HT;have HT := lh HT;have HQ3 := lh hq;clear h2 hq;go_wp2_with fail
    refine HT.out.mono ?_;rintro e w3 ⟨rfl,hR3,hF3⟩;have P3:=lh (P2.out.tail hR3 hF3);have F3:=lh (F2.out.trans hF3);obtain ⟨tb2,off2,cap2,hh⟩:=hR3;have q0:=hh.c0;have q1:=hh.hd (j:=0) (x:=.int .i64 (hdT ts.tail).kind) rfl;rw [Nat.add_zero] at q1;have q2:=hh.pos;obtain ⟨n2,hn2⟩:=zX ts.tail.length
    rw [← hn2] at q0 q2;clear hh hF3 HT hn2;by_cases hk:(hdT ts.tail).kind=1
    ·have e1 : ((hdT ts.tail).kind == 1) = true := by simpa using hk
     have hq:=HQ3.out;rw [Yb hk] at hq;have HC:=lh (Z44 w3 rb ts.tail d P3.out.rd hk);obtain ⟨s,hs⟩:=zX ((hdT ts.tail).text)
     rw [← hs] at HC hq;have HQ4:=lh hq;clear hk hq hs;go_wp2_with fail
     refine HC.out.mono ?_;rintro e w4 ⟨rfl,hR4,hF4⟩;have HC2:=HFN.out s w4 rb B d _ r (P3.out.tail hR4 hF4) HQ4.out;simp only at HC2;have HC2:=lh HC2;have F4:=lh (F3.out.trans hF4);clear hR4 hF4 HC;go_wp2_with fail
     refine HC2.out.mono ?_;rcases r with ⟨c,p⟩ | ⟨t,ts'⟩
     ·rintro e w3 ⟨⟨b,rfl,h1,h2⟩,hF⟩;exact ⟨rfl,Z0t.pre F4.out (r:=.error (c,p)) ⟨⟨b,rfl,h1,h2⟩,hF⟩⟩
     ·rintro e w3 ⟨a,rfl,hG,hR,hF⟩;have HG:=lh (hG.pre F4.out);have HR:=lh hR;have HF:=lh (F4.out.trans hF);clear hG hR hF HC2;go_wp2;go_ret;exact ⟨a,rfl,HG.out,HR.out,HF.out⟩
    ·have e1 : ((hdT ts.tail).kind == 1) = false := by simpa using hk
     have hq:=HQ3.out;rw [Y9 hk] at hq;have HC2:=HFN.out ByteArray.empty w3 rb B d _ r P3.out hq;simp only at HC2;have HC2:Calls Tryz.prog 77 #[.pointer (some ⟨rb,0,none⟩),.int .i64 37,.string ⟨#[]⟩] w3 (Z0t w3 rb B d r):=HC2;have HC2:=lh HC2;clear hk hq;go_wp2_with fail
     refine HC2.out.mono ?_;rcases r with ⟨c,p⟩ | ⟨t,ts'⟩
     ·rintro e w4 ⟨⟨b,rfl,h1,h2⟩,hF⟩;exact ⟨rfl,Z0t.pre F3.out (r:=.error (c,p)) ⟨⟨b,rfl,h1,h2⟩,hF⟩⟩
     ·rintro e w4 ⟨a,rfl,hG,hR,hF⟩;have HG:=lh (hG.pre F3.out);have HR:=lh hR;have HF:=lh (F3.out.trans hF);clear hG hR hF HC2;go_wp2;go_ret;exact ⟨a,rfl,HG.out,HR.out,HF.out⟩
   have h2':isT Ze ts=false:=by simpa using h2
   have hq:=HQ2.out;rw [Y9 h2] at hq;have HQ3:=lh hq;have HT:=Z22 w2 rb ts d Ze P2.out.rd h2';unfold Ze at HT;have HT:=lh HT;clear h2 h2' hq;go_wp2_with fail
   refine HT.out.mono ?_;rintro e w3 ⟨rfl,hB3⟩;have P3:=lh (P2.out.below hB3);have F3:=lh (F2.out.trans (RFr.below (rb:=rb) hB3));clear hB3 HT;by_cases h3:isT Zi ts=true
   ·have hq := HQ3.out;rw [Yb h3] at hq;have HT := Z1g w3 rb ts d Zi P3.out.rd h3;unfold Zi at HT;have HT := lh HT;have HQ4 := lh hq;clear h3 hq;go_wp2_with fail
    refine HT.out.mono ?_;rintro e w4 ⟨rfl,hR4,hF4⟩;have HC:=HO.out w4 rb B d _ r (P3.out.tail hR4 hF4) HQ4.out;unfold rArg at HC;have HC:=lh HC;have F4:=lh (F3.out.trans hF4);clear hR4 hF4 HT;go_wp2_with fail
    refine HC.out.mono ?_;rcases r with ⟨c,p⟩ | ⟨t,ts'⟩
    ·rintro e w5 ⟨⟨b,rfl,h1,h2⟩,hF⟩;exact ⟨rfl,Z0t.pre F4.out (r:=.error (c,p)) ⟨⟨b,rfl,h1,h2⟩,hF⟩⟩
    ·rintro e w5 ⟨a,rfl,hG,hR,hF⟩;have HG:=lh (hG.pre F4.out);have HR:=lh hR;have HF:=lh (F4.out.trans hF);clear hG hR hF HC;go_wp2;go_ret;exact ⟨a,rfl,HG.out,HR.out,HF.out⟩
   have h3':isT Zi ts=false:=by simpa using h3
   have hq:=HQ3.out;rw [Y9 h3] at hq;obtain rfl:=Yk hq;have HT:=Z22 w3 rb ts d Zi P3.out.rd h3';unfold Zi at HT;have HT:=lh HT;clear h3 h3' hq;go_wp2_with fail
   refine HT.out.mono ?_;rintro e w4 ⟨rfl,hB4⟩;have HF:=lh (Z35 w4 rb ts d 3 (P3.out.rd.below hB4));have F4:=lh (F3.out.trans (RFr.below (rb:=rb) hB4));clear hB4 HT;go_wp2_with fail
   refine HF.out.mono ?_;rintro e w5 ⟨⟨b,rfl,h1,h2⟩,hB⟩;exact ⟨rfl,Z0t.err F4.out ⟨b,rfl,h1,h2⟩ hB⟩
  ·intro x c kl y ys w2 cnt2 hkx hlx hvx hat hrg2 hcnt hg2 hs2 hen;have hb2 : Below w1.heap.size w1 w2 := Z00 BW.out hg2 HITL.out BW.out.size;have B2 := lh hb2;obtain ⟨x', e, rfl⟩ := keyOf_string_inv Yr hkx;obtain rfl : x = x' := by cases e; rfl
   obtain ⟨z,hz,hzx⟩:=Zbb (HLE.out _ hlx);have hxz:x=z.1:=by
    have:x.data.toList=z.1.data.toList:=by simpa using hzx
    exact Z25 (by rw [Lib.toList_data,Lib.toList_data]; exact this)
   obtain ⟨c',e1,e2,_⟩:=plainElem_int_inv Ys hvx;obtain rfl:c=c':=by cases e1; rfl
   have hcz:c=z.2:=by
    have h1:=hat (.lit (.int .i64 0));simp only [Prod.mk.injEq] at e2;rw [hxz,(Z6k hz).2,e2.1] at h1;simpa using h1.symm
   have HZ:=lh hz;have HXZ:=lh hxz;have HCZ:=lh hcz;have HRG2:=lh hrg2;have HRG:=lh hrg;have HLT:=lh hcnt;have P2:=P1.out.below hb2;clear e hzx hxz e1 e2 hcz hz hb2 hrg2 hrg hlx hvx hat hkx hcnt hg2 hs2;by_cases hs:isT x ts=true
   ·have hh := Zhe HZ.out (ts := ts) (by rw [← HXZ.out]; exact hs);have hq := HQ0.out;rw [Yb (by rw [hh.1]; exact hh.2), hh.1] at hq;have hr := Yk hq;have HR := lh hr.symm;have HT := lh (Z1g w2 rb ts d x P2.rd hs);clear hs hh hq hr P2;go_wp2_with fail
    refine HT.out.mono ?_;rintro e w3 ⟨rfl,hR3,hF3⟩;have R3:=lh hR3;have F3:=lh ((F1.out.trans (RFr.below (rb:=rb) B2.out)).trans hF3);have HN:=lh (Z14 w3 rb c ⟨#[]⟩ none 0 0);have G3:=lh (Got.leaf (k:=c) (t:=⟨#[]⟩) (n:=0) HP.out.le F3.out);clear hR3 hF3 HT;go_wp2_with fail
    refine HN.out.mono ?_;rintro e w4 ⟨rfl,hw4⟩;have hal:Below w3.heap.size w3 w4:=by rw [hw4]; exact (Y8 _ _).alloc (Y5 _) _
    have AL:=lh hal;have HW4:=lh hw4;clear hal hw4 HN;go_wp2;go_ret;rw [HR.out,← HCZ.out];exact ⟨_,rfl,by rw [HW4.out]; exact G3.out,R3.out.below AL.out,F3.out.trans (RFr.below AL.out)⟩
   ·have hs' : isT x ts = false := by simpa using hs
    have HT:=lh (Z22 w2 rb ts d x P2.rd hs');have HS:=lh hs';clear hs hs' P2;go_wp2_with fail
    refine HT.out.mono ?_;rintro e w3 ⟨rfl,hB3⟩;have B3:=lh hB3;have hg3:w2.grownBy w3 none:=⟨hB3.os,hB3.tape,hB3.output,hB3.size,fun i hi _=>hB3.block i hi⟩
    have HRG3:=lh (HRG2.out.kept hg3 (by simp) (by simp));clear hB3 hg3;go_wp2;go_roundw
    case rel=>
     refine ⟨_,cnt2,HRG3.out,lh (fun kl hkl=>HLE.out kl (by simp only [Bool.and_eq_true] at hkl; exact hkl.1)),lh (fun s h1 h2=>?_),lh (B2.out.trans (B3.out.mono B2.out.size))⟩;by_cases hl:left (.string s.data.toList)=true
     ·rw [hl] at h2;simp only [Bool.true_and,Bool.not_eq_false'] at h2;have e:=WideAt.sameKey_eq h2;have:s=x:=Z25 (by rw [Lib.toList_data,Lib.toList_data]; simpa using e);rw [this]; exact HS.out
     ·exact HNO.out s h1 (by simpa using hl)
    case measure=>rw [HRG3.out.left_eq,HRG.out.left_eq]; exact HLT.out
end Go.Proofs.YtmeiggjboakmpaaGreatDoor
