/- Package tree: object. -/
import Derived.Test.YtjcgkdfeplbajaaGreatDoorJ18
namespace Go.Proofs.YtjcgkdfeplbajaaGreatDoor
open Go Go.RowKit
set_option maxRecDepth 100000
set_option maxHeartbeats 20000000
set_option linter.unusedVariables false
def Za3 (g d:Nat) (acc:List Tree) (us:List Tok):PR:=if acc.length=8 then Z1k 4 us else Z1m us fun s ts=>Z0i Z37 ts fun ts=>Zz (Z0 g .value d ts) fun v ts=>Z0 g (.object (acc ++ [.mk 39 s 0 [v]])) d ts
theorem Z97 (F:Nat) (hV:∀ g,g < F→Says 52 rArg .value g) :
 Says 103 rArg (.object []) F:=by
 intro w rb B d ts r hP hp;have HP:=lh hP;have HV:=lh hV;have H1:=lh hp;have HN:=lh (Z0a w rb 38 ⟨#[]⟩ none 0 0);obtain ⟨nb,hnb⟩:=zX w.heap.size
 have G0:=Got.leaf (k:=38) (t:=⟨#[]⟩) (n:=0) hP.le (RFr.refl w rb);have hal:Below w.heap.size w (w.alloc (.cells #[.int .i64 38,.string ⟨#[]⟩,.int .i64 0,.slice none 0 0] 34)):=(Y2 _ _).alloc (Y0 _) _;have R0:=hP.rd.below hal;have F0:RFr w (w.alloc (.cells #[.int .i64 38,.string ⟨#[]⟩,.int .i64 0,.slice none 0 0] 34)) rb:=RFr.below hal;rw [← hnb] at G0 HN;unfold rArg;clear hP hp hV hal;go_enter Tryz.func103,Tryz.ntmps103
 go_wp2_with fail
 refine HN.out.mono ?_;rintro e w2 ⟨rfl,hw2⟩;rw [← hw2] at G0 R0 F0;have hst:∃ (g:Nat) (acc:List Tree) (us:List Tok) (v:Value) (kids:List ATree),g≤F∧Z0 g (.object acc) d us=some r∧Got w B w2 (.mk nb v 38 ⟨#[]⟩ 0 kids) (.mk 38 ⟨#[]⟩ 0 acc)∧Rd w2 rb us d∧RFr w w2 rb∧acc.length≤8∧us.length≤ts.length:=
  ⟨F,[],ts,_,[],Y0 _,H1.out,G0,R0,F0,by simp,Y0 _⟩
 have ST:=lh hst;have HNB:=lh hnb;clear hst hw2 G0 R0 F0 HN hnb H1;go_wp2_with fail
 go_loopw [] (fun wr=>∃ (g:Nat) (acc:List Tree) (us:List Tok) (v:Value) (kids:List ATree),g≤F∧Z0 g (.object acc) d us=some r∧Got w B wr (.mk nb v 38 ⟨#[]⟩ 0 kids) (.mk 38 ⟨#[]⟩ 0 acc)∧Rd wr rb us d∧RFr w wr rb∧acc.length≤8∧us.length≤ts.length) (fun wr=>leftOf wr rb)
 case atStart=>exact ST.out
 case round=>
  obtain ⟨g,acc,us,v,kids,hg,hq,hG,hR,hF,hl,hu⟩:=hrel;have G:=lh hG;have R:=lh hR;have FF:=lh hF;have RL:=lh hR.left;cases g with
  | zero=>cases hq
  | succ g=>
  rw [Z0] at hq;have HB:=Z2k wr rb us d Z03 hR;have hlt:=HP.out.lt;by_cases hb:isT Z03 us=true
  ·rw [hb] at HB;rw [Y5 hb] at hq;have hr := Yc hq;have HRr := lh hr.symm;have HB := lh HB;have HI := lh hb;unfold Z03 at HB;clear hG hR hF hq hr hb ST;go_wp2_with fail
   refine HB.out.mono ?_;rintro e w3 ⟨rfl,hB3⟩;have F3:=FF.out.trans (RFr.below (rb:=rb) hB3);have G3:=G.out.rfr hlt (RFr.below (rb:=rb) hB3);have R3:=R.out.below hB3;have HC:=Z19 w3 rb us d Z03 R3 HI.out;unfold Z03 at HC;have HC:=lh HC;have F3:=lh F3;have G3:=lh G3;clear hB3 R3 FF G R HB;go_wp2_with fail
   refine HC.out.mono ?_;rintro e w4 ⟨rfl,hR4,hF4⟩;have R4:=lh hR4;have F4:=lh (F3.out.trans hF4);have G4:=lh (G3.out.rfr hlt hF4);clear hR4 hF4 HC F3 G3;go_wp2;go_ret;rw [HRr.out];exact ⟨_,rfl,G4.out,R4.out,F4.out⟩
  ·have hb' : isT Z03 us = false := by simpa using hb
   rw [hb'] at HB;rw [Y3 hb] at hq;have HB:=lh HB;have HQ:=lh hq;unfold Z03 at HB;have hkl:kids.length=acc.length:=by
    have:=hG.tree;simp only [ATree.tree,Tree.mk.injEq,true_and] at this;rw [← this,Z1i,Yl]
   have HKL:=lh hkl;clear hG hR hF hq hb hb' ST hkl;go_wp2_with fail
   refine HB.out.mono ?_;rintro e w3 ⟨rfl,hB3⟩;have F3:=FF.out.trans (RFr.below (rb:=rb) hB3);have G3:=G.out.rfr hlt (RFr.below (rb:=rb) hB3);have R3:=R.out.below hB3;have P3:Pre w3 rb B d us:=⟨R3,HP.out.deep,hlt,Y4 HP.out.le F3.size,Y4 hu HP.out.few⟩
   obtain ⟨p,cp,rfl⟩:∃ p cp,v=.slice p kids.length cp:=by
    rcases Zm G3.at'.rowOf with ⟨h1,h2⟩ | ⟨g0,cap0,h1,_⟩
    ·simp only [ATree.v,ATree.kids] at h1 h2;exact ⟨none,0,by rw [h1,h2]⟩
    ·exact ⟨_,_,h1⟩
   have hblk:=G3.at'.blkOf;simp only [ATree.b,ATree.v,ATree.kind,ATree.text,ATree.n] at hblk;have n3:w3.cell? ⟨nb,3,none⟩=some (.slice p kids.length cp):=by simp [World.cell?,hblk]
   have F3:=lh F3;have G3:=lh G3;have P3:=lh P3;have HU:=lh hu;have HL:=lh hl;clear hB3 R3 FF G R HB hblk hu hl;by_cases h0:acc.length=0
   ·have a0 : decide (0 < kids.length) = false := by have := HKL.out; simp; exact List.eq_nil_of_length_eq_zero (by omega)
    have hq2:Za3 g d acc us=some r:=by have h:=HQ.out; rw [Y3 (by omega)] at h; exact h
    have PQ:=lh (show Pre w3 rb B d us∧us.length≤ts.length from ⟨P3.out,HU.out⟩);have GQ:=G3;have FQ:=F3;have PL:=lh (Y0 us.length);have HQ2:=lh hq2;have H0:=lh h0;clear HQ hq2 h0;by_cases h8:acc.length=8
    ·have n8 : ((kids.length : Int) == 8) = true := by have := HKL.out; simp; omega
     have hr:r=.error (4,(hdT us).at'):=by
      have h:=HQ2.out;unfold Za3 at h;rw [Y5 h8] at h;exact (Yc h).symm
     subst hr;have HF:=lh (Z1r w3 rb us d 4 PQ.out.1.rd);clear h8;go_wp2_with fail
     refine HF.out.mono ?_;rintro e w9 ⟨⟨b,rfl,h1,h2⟩,hB⟩;exact ⟨rfl,Z01.err FQ.out ⟨b,rfl,h1,h2⟩ hB⟩
    ·have n8 : ((kids.length : Int) == 8) = false := by have := HKL.out; simp; omega
     have hq3:=HQ2.out;unfold Za3 at hq3;rw [Y3 h8] at hq3;have H8:=lh h8;clear h8;rcases Z2a hq3 with ⟨hk,h1⟩ | ⟨hk,rfl⟩
     ·have HC := lh (Z2c w3 rb us d PQ.out.1.rd hk);obtain ⟨s, hs⟩ := zX ((hdT us).text)
      rw [← hs] at HC h1;have H1:=lh h1;have HPOS:=lh (Z4p hk);clear hq3 hk h1 hs;go_wp2_with fail
      refine HC.out.mono ?_;rintro e w5 ⟨rfl,hR5,hF5⟩;have P5:=lh (PQ.out.1.tail hR5 hF5);have F5:=lh (FQ.out.trans hF5);have G5:=lh (GQ.out.rfr hlt hF5);clear hR5 hF5 HC;rcases Z17 H1.out with ⟨hs,h2⟩ | ⟨hs,rfl⟩
      ·have HC := Z19 w5 rb _ d Z37 P5.out.rd hs;unfold Z37 at HC;have HC := lh HC;have H2 := lh h2;clear hs h2;go_wp2_with fail
       refine HC.out.mono ?_;rintro e w6 ⟨rfl,hR6,hF6⟩;have P6:=P5.out.tail hR6 hF6;have F6:=F5.out.trans hF6;have G6:=G5.out.rfr hlt hF6;have hblk:=G6.at'.blkOf;simp only [ATree.b,ATree.v,ATree.kind,ATree.text,ATree.n] at hblk;clear n3;have n3:w6.cell? ⟨nb,3,none⟩=some (.slice p kids.length cp):=by simp [World.cell?,hblk]
       have P6:=lh P6;have F6:=lh F6;have G6:=lh G6;clear hR6 hF6 hblk HC P5 F5 G5;go_wp2_with fail
       refine Z4 [(true,0),(true,1),(true,2),(true,3),(true,4),(true,5),(true,6),(true,7),(false,8),(false,9),(false,10),(false,11),(false,12)] [13,14,15] (fun W=>W.cell? ⟨nb,3,none⟩=some (.slice p kids.length cp)) (by kernel_rfl) (by kernel_rfl) (fun _ _ d _ _ h=>by cases d <;> exact h) n3 (fun hS0=>?_);simp only [Zj,zD,zE,zF,zG,zH,zI]
       iterate 8
        first
         | (refine Z7 ?_ (by rfl) (fun w' hS'=>?_) ?_; rotate_left; (have s0:=hS'; go_simp; first | done | with_reducible rfl); simp only [Act.put,zA,zB,zC])
         | (refine Z6 (by rfl) ?_; simp only [Act.put,zA,zB,zC])
       refine Zd (fun K hK=>?_);go_simp
       have P7:Pre w6.drew rb B d _:=P6.out.below (Y2 _ _).drew;rcases Zp H2.out with ⟨⟨c,p⟩,hv,rfl⟩ | ⟨t,vs,hv,hq4⟩
       ·refine (HV.out g (by omega) w6.drew rb B d _ _ P7 hv).mono ?_;rintro e w7 ⟨⟨b,rfl,h1,h2⟩,hF7⟩;exact ⟨rfl,Z01.pre F6.out.drew (r:=.error (c,p)) ⟨⟨b,rfl,h1,h2⟩,hF7⟩⟩
       ·have hvl := Z0k hv;have HQ4 := lh hq4;refine (HV.out g (by omega) w6.drew rb B d _ _ P7 hv).mono ?_;rintro e w7 ⟨x, rfl, hX, hR7, hF7⟩;have hF67 : RFr w6 w7 rb := (RFr.refl w6 rb).drew.trans hF7;have hN7 := G6.out.rfr hlt hF67;have hblk := hN7.at'.blkOf;simp only [ATree.b, ATree.v, ATree.kind, ATree.text, ATree.n] at hblk;have m3 : w7.cell? ⟨nb, 3, none⟩ = some (.slice p kids.length cp) := by simp [World.cell?, hblk]
        refine hK _ _ m3 ?_;clear hK K;refine Zd (fun K hK=>?_);go_simp
        have hb1:Below w7.heap.size w7 (w7.alloc (.cells #[.pointer (some ⟨x.b,0,none⟩)] 22)):=(Y2 _ _).alloc (Y0 _) _;refine hK _ _ ((hb1.cell (p:=⟨nb,3,none⟩) (Y1.1 hblk).1).trans m3) ?_;clear hK K;refine Zd (fun K hK=>?_);go_simp
        have hA:=Got.one (w0:=w6.drew) (w:=w7) (rb:=rb) (k:=39) (t:=s) (Y4 HP.out.le F6.out.size) hF7 hX;have hb2:Below w7.heap.size w7 ((w7.alloc (.cells #[.pointer (some ⟨x.b,0,none⟩)] 22)).alloc (.cells #[.int .i64 39,.string s,.int .i64 0,.slice (some ⟨w7.heap.size,0,none⟩) 1 1] 34)):=hb1.alloc (by simp) _;refine (Z0a (w7.alloc (.cells #[.pointer (some ⟨x.b,0,none⟩)] 22)) rb 39 s (some ⟨w7.heap.size,0,none⟩) 1 1).mono ?_;rintro e w3' ⟨rfl,hw3'⟩
        have hA:Got w6.drew B w3' (.mk (w7.heap.size + 1) (.slice (some ⟨w7.heap.size,0,none⟩) 1 1) 39 s 0 [x]) (.mk 39 s 0 [t]):=by rw [hw3']; exact hA
        rw [← hw3'] at hb2;have hN3:=hN7.rfr hlt (RFr.below (rb:=rb) hb2);have hR3:=hR7.below hb2;have hF63:RFr w6 w3' rb:=hF67.trans (RFr.below hb2);clear hblk m3 hw3' hb1;have hblk:=hN3.at'.blkOf;simp only [ATree.b,ATree.v,ATree.kind,ATree.text,ATree.n] at hblk;have m3:w3'.cell? ⟨nb,3,none⟩=some (.slice p kids.length cp):=by simp [World.cell?,hblk]
        have mz:w3'.frozen? ⟨nb,3,none⟩=false:=by simp [World.frozen?,hblk]
        have hnb3:nb < w3'.heap.size:=(Y1.1 hblk).1;have hnd:=hN3.nodup;simp only [ATree.blocks,List.nodup_cons,List.mem_append,Option.mem_toList,not_or] at hnd;have hne:=hnd.1.1;have hk4:kids.length≤8:=by have:=HKL.out; have:=HL.out; omega
        have hsz7:(w7.alloc (.cells #[.pointer (some ⟨x.b,0,none⟩)] 22)).heap.size=w7.heap.size + 1:=by simp
        rw [hsz7];obtain ⟨a,ha⟩:∃ a:ATree,a=.mk (w7.heap.size + 1) (.slice (some ⟨w7.heap.size,0,none⟩) 1 1) 39 s 0 [x]:=⟨_,rfl⟩
        rw [← ha] at hA;have hap:Value.pointer (some ⟨w7.heap.size + 1,0,none⟩)=.pointer (some ⟨a.b,0,none⟩):=by rw [ha]; rfl
        rw [hap];clear ha hap hsz7;have N3:=lh hN3;have A3:=lh hA;have R3:=lh hR3;have F3':=lh (F6.out.trans hF63);have NE:=lh hne;have NA:=lh (show ∀ y∈(ATree.mk nb (.slice p kids.length cp) 38 ⟨#[]⟩ 0 kids).blocks,y < w6.drew.heap.size from fun y hy=>(G6.out.new y hy).2);have HVL:=lh hvl;refine hK _ _ m3 ?_;obtain ⟨i0,hi,hz0,hz1,hz2⟩:=info_parts Tryz.infoPtr;clear hK K hA hR3 hF63 hN3 hblk hnd hne n3 hX hR7 hF7 hF67 hN7 hb2 hv hq4 hvl P7;refine Zd (fun K hK=>?_);go_simp
        refine hK _ _ ((Zu hnb3).trans m3) ?_;clear hK K;refine Zd (fun K hK=>?_)
        refine step_append_lies _ (by rfl) (.tmp 34) (.tmp 41) 32 (by rfl) B 22 i0 _ 1 8 Tryz.underlying32 hi hz0 hz1 hz2 rfl (by decide) (.slice p kids.length cp) (kids).length ((kids).map ATree.ptr) (by rfl) (N3.out.at'.rowOf.alloc _) ⟨w3'.heap.size,0,none⟩ 1 1 [a.ptr] (by rfl) rfl (Ya (cs:=#[a.ptr]) (t:=22) (fr:=(0,0)) (heap_alloc_new w3' _)) (by simp [ATree.ptr,Value.oneCell']) (by decide) (by unfold maxLen; omega) (by omega) (by simp; have:=F3'.out.size; have:=HP.out.le; omega) (w3'.heap.size + 1) (by simp) ?_;intro gg cap w4 hown4 hgrow4 hat4 hlt4
        have m4:w4.cell? ⟨nb,3,none⟩=some (.slice p kids.length cp):=(hgrow4.cell_far ⟨nb,3,none⟩ (by simp; omega) (fun e=>NE.out e.symm)).trans ((Zu hnb3).trans m3);have mz4:w4.frozen? ⟨nb,3,none⟩=false:=(hgrow4.frozen_far ⟨nb,3,none⟩ (by simp; omega) (fun e=>NE.out e.symm)).trans ((Z0o hnb3).trans mz);refine hK _ _ m4 ?_;clear hK K;simp only [Act.put,zA,zB,zC]
        have hfin:=Got.push hlt HP.out.le N3.out (wA:=w6.drew) NA.out A3.out F3'.out R3.out ((Y2 _ _).alloc (Y0 _) _) hgrow4 hown4 (by rcases hat4 with h | h; (exact .inl h); (exact .inr (by omega))) hlt4;have FIN:=lh hfin;clear hgrow4 hown4 hat4 hlt4 hfin;refine Zb ?_;go_wp2;go_roundw
        case rel=>
         refine ⟨g,acc ++ [.mk 39 s 0 [t]],vs,.slice (some ⟨gg,0,none⟩) (kids.length + 1) cap,kids ++ [a],by omega,HQ4.out,?_,FIN.out.2.2,FIN.out.2.1,by have:=HL.out; have:=H8.out; simp; omega,by have:=HVL.out; have:=PQ.out.2; have:=Z0e us; have:=Z0e (us).tail; omega⟩;have h1:=FIN.out.1;have h2:=GQ.out.tree;simp only [ATree.tree,Tree.mk.injEq,true_and] at h2;rw [h2] at h1;exact h1
        case measure=>
         rw [FIN.out.2.2.left,RL.out];have e:(us).tail.length=(us).length - 1:=List.length_tail;have:=HVL.out; have:=HPOS.out; have:=PL.out; have:=Z0e (us).tail;omega
      ·have HC := Z25 w5 rb _ d Z37 P5.out.rd hs;unfold Z37 at HC;have HC := lh HC;clear hs;go_wp2_with fail
       refine HC.out.mono ?_;rintro e w9 ⟨⟨b,rfl,h1,h2⟩,hB⟩;exact ⟨rfl,Z01.err F5.out ⟨b,rfl,h1,h2⟩ hB⟩
     ·have HC := lh (Z3o w3 rb us d PQ.out.1.rd hk);clear hq3 hk;go_wp2_with fail
      refine HC.out.mono ?_;rintro e w9 ⟨⟨b,rfl,h1,h2⟩,hB⟩;exact ⟨rfl,Z01.err FQ.out ⟨b,rfl,h1,h2⟩ hB⟩
   ·have a0 : decide (0 < kids.length) = true := by have := HKL.out; simp; omega
    have hq1:=HQ.out;rw [Y5 (by omega)] at hq1;have H0:=lh h0;clear h0;by_cases hc:isT Z0n us=true
    ·have hq2 : Za3 g d acc us.tail = some r := by rw [Z0i, Y5 hc] at hq1; exact hq1
     have HC:=Z19 w3 rb us d Z0n P3.out.rd hc;unfold Z0n at HC;have HC:=lh HC;have HQ2:=lh hq2;clear hq1 hc HQ hq2;go_wp2_with fail
     refine HC.out.mono ?_;rintro e w4q ⟨rfl,hR4,hF4⟩;have PQ:=lh (show Pre w4q rb B d us.tail∧us.tail.length≤ts.length from ⟨P3.out.tail hR4 hF4,by have:=HU.out; rw [List.length_tail]; omega⟩);have GQ:=lh (G3.out.rfr hlt hF4);have FQ:=lh (F3.out.trans hF4);have PL:=lh (show us.tail.length≤us.length by rw [List.length_tail]; omega);have hblk:=GQ.out.at'.blkOf;simp only [ATree.b,ATree.v,ATree.kind,ATree.text,ATree.n] at hblk;clear n3;have n3:w4q.cell? ⟨nb,3,none⟩=some (.slice p kids.length cp):=by simp [World.cell?,hblk]
     clear hR4 hF4 HC hblk F3 G3 P3;by_cases h8:acc.length=8
     ·have n8 : ((kids.length : Int) == 8) = true := by have := HKL.out; simp; omega
      have hr:r=.error (4,(hdT us.tail).at'):=by
       have h:=HQ2.out;unfold Za3 at h;rw [Y5 h8] at h;exact (Yc h).symm
      subst hr;have HF:=lh (Z1r w4q rb us.tail d 4 PQ.out.1.rd);clear h8;go_wp2_with fail
      refine HF.out.mono ?_;rintro e w9 ⟨⟨b,rfl,h1,h2⟩,hB⟩;exact ⟨rfl,Z01.err FQ.out ⟨b,rfl,h1,h2⟩ hB⟩
     ·have n8 : ((kids.length : Int) == 8) = false := by have := HKL.out; simp; omega
      have hq3:=HQ2.out;unfold Za3 at hq3;rw [Y3 h8] at hq3;have H8:=lh h8;clear h8;rcases Z2a hq3 with ⟨hk,h1⟩ | ⟨hk,rfl⟩
      ·have HC := lh (Z2c w4q rb us.tail d PQ.out.1.rd hk);obtain ⟨s, hs⟩ := zX ((hdT us.tail).text)
       rw [← hs] at HC h1;have H1:=lh h1;have HPOS:=lh (Z4p hk);clear hq3 hk h1 hs;go_wp2_with fail
       refine HC.out.mono ?_;rintro e w5 ⟨rfl,hR5,hF5⟩;have P5:=lh (PQ.out.1.tail hR5 hF5);have F5:=lh (FQ.out.trans hF5);have G5:=lh (GQ.out.rfr hlt hF5);clear hR5 hF5 HC;rcases Z17 H1.out with ⟨hs,h2⟩ | ⟨hs,rfl⟩
       ·have HC := Z19 w5 rb _ d Z37 P5.out.rd hs;unfold Z37 at HC;have HC := lh HC;have H2 := lh h2;clear hs h2;go_wp2_with fail
        refine HC.out.mono ?_;rintro e w6 ⟨rfl,hR6,hF6⟩;have P6:=P5.out.tail hR6 hF6;have F6:=F5.out.trans hF6;have G6:=G5.out.rfr hlt hF6;have hblk:=G6.at'.blkOf;simp only [ATree.b,ATree.v,ATree.kind,ATree.text,ATree.n] at hblk;clear n3;have n3:w6.cell? ⟨nb,3,none⟩=some (.slice p kids.length cp):=by simp [World.cell?,hblk]
        have P6:=lh P6;have F6:=lh F6;have G6:=lh G6;clear hR6 hF6 hblk HC P5 F5 G5;go_wp2_with fail
        refine Z4 [(true,0),(true,1),(true,2),(true,3),(true,4),(true,5),(true,6),(true,7),(false,8),(false,9),(false,10),(false,11),(false,12)] [13,14,15] (fun W=>W.cell? ⟨nb,3,none⟩=some (.slice p kids.length cp)) (by kernel_rfl) (by kernel_rfl) (fun _ _ d _ _ h=>by cases d <;> exact h) n3 (fun hS0=>?_);simp only [Zj,zD,zE,zF,zG,zH,zI]
        iterate 8
         first
          | (refine Z7 ?_ (by rfl) (fun w' hS'=>?_) ?_; rotate_left; (have s0:=hS'; go_simp; first | done | with_reducible rfl); simp only [Act.put,zA,zB,zC])
          | (refine Z6 (by rfl) ?_; simp only [Act.put,zA,zB,zC])
        refine Zd (fun K hK=>?_);go_simp
        have P7:Pre w6.drew rb B d _:=P6.out.below (Y2 _ _).drew;rcases Zp H2.out with ⟨⟨c,p⟩,hv,rfl⟩ | ⟨t,vs,hv,hq4⟩
        ·refine (HV.out g (by omega) w6.drew rb B d _ _ P7 hv).mono ?_;rintro e w7 ⟨⟨b,rfl,h1,h2⟩,hF7⟩;exact ⟨rfl,Z01.pre F6.out.drew (r:=.error (c,p)) ⟨⟨b,rfl,h1,h2⟩,hF7⟩⟩
        ·have hvl := Z0k hv;have HQ4 := lh hq4;refine (HV.out g (by omega) w6.drew rb B d _ _ P7 hv).mono ?_;rintro e w7 ⟨x, rfl, hX, hR7, hF7⟩;have hF67 : RFr w6 w7 rb := (RFr.refl w6 rb).drew.trans hF7;have hN7 := G6.out.rfr hlt hF67;have hblk := hN7.at'.blkOf;simp only [ATree.b, ATree.v, ATree.kind, ATree.text, ATree.n] at hblk;have m3 : w7.cell? ⟨nb, 3, none⟩ = some (.slice p kids.length cp) := by simp [World.cell?, hblk]
         refine hK _ _ m3 ?_;clear hK K;refine Zd (fun K hK=>?_);go_simp
         have hb1:Below w7.heap.size w7 (w7.alloc (.cells #[.pointer (some ⟨x.b,0,none⟩)] 22)):=(Y2 _ _).alloc (Y0 _) _;refine hK _ _ ((hb1.cell (p:=⟨nb,3,none⟩) (Y1.1 hblk).1).trans m3) ?_;clear hK K;refine Zd (fun K hK=>?_);go_simp
         have hA:=Got.one (w0:=w6.drew) (w:=w7) (rb:=rb) (k:=39) (t:=s) (Y4 HP.out.le F6.out.size) hF7 hX;have hb2:Below w7.heap.size w7 ((w7.alloc (.cells #[.pointer (some ⟨x.b,0,none⟩)] 22)).alloc (.cells #[.int .i64 39,.string s,.int .i64 0,.slice (some ⟨w7.heap.size,0,none⟩) 1 1] 34)):=hb1.alloc (by simp) _;refine (Z0a (w7.alloc (.cells #[.pointer (some ⟨x.b,0,none⟩)] 22)) rb 39 s (some ⟨w7.heap.size,0,none⟩) 1 1).mono ?_;rintro e w3' ⟨rfl,hw3'⟩
         have hA:Got w6.drew B w3' (.mk (w7.heap.size + 1) (.slice (some ⟨w7.heap.size,0,none⟩) 1 1) 39 s 0 [x]) (.mk 39 s 0 [t]):=by rw [hw3']; exact hA
         rw [← hw3'] at hb2;have hN3:=hN7.rfr hlt (RFr.below (rb:=rb) hb2);have hR3:=hR7.below hb2;have hF63:RFr w6 w3' rb:=hF67.trans (RFr.below hb2);clear hblk m3 hw3' hb1;have hblk:=hN3.at'.blkOf;simp only [ATree.b,ATree.v,ATree.kind,ATree.text,ATree.n] at hblk;have m3:w3'.cell? ⟨nb,3,none⟩=some (.slice p kids.length cp):=by simp [World.cell?,hblk]
         have mz:w3'.frozen? ⟨nb,3,none⟩=false:=by simp [World.frozen?,hblk]
         have hnb3:nb < w3'.heap.size:=(Y1.1 hblk).1;have hnd:=hN3.nodup;simp only [ATree.blocks,List.nodup_cons,List.mem_append,Option.mem_toList,not_or] at hnd;have hne:=hnd.1.1;have hk4:kids.length≤8:=by have:=HKL.out; have:=HL.out; omega
         have hsz7:(w7.alloc (.cells #[.pointer (some ⟨x.b,0,none⟩)] 22)).heap.size=w7.heap.size + 1:=by simp
         rw [hsz7];obtain ⟨a,ha⟩:∃ a:ATree,a=.mk (w7.heap.size + 1) (.slice (some ⟨w7.heap.size,0,none⟩) 1 1) 39 s 0 [x]:=⟨_,rfl⟩
         rw [← ha] at hA;have hap:Value.pointer (some ⟨w7.heap.size + 1,0,none⟩)=.pointer (some ⟨a.b,0,none⟩):=by rw [ha]; rfl
         rw [hap];clear ha hap hsz7;have N3:=lh hN3;have A3:=lh hA;have R3:=lh hR3;have F3':=lh (F6.out.trans hF63);have NE:=lh hne;have NA:=lh (show ∀ y∈(ATree.mk nb (.slice p kids.length cp) 38 ⟨#[]⟩ 0 kids).blocks,y < w6.drew.heap.size from fun y hy=>(G6.out.new y hy).2);have HVL:=lh hvl;refine hK _ _ m3 ?_;obtain ⟨i0,hi,hz0,hz1,hz2⟩:=info_parts Tryz.infoPtr;clear hK K hA hR3 hF63 hN3 hblk hnd hne n3 hX hR7 hF7 hF67 hN7 hb2 hv hq4 hvl P7;refine Zd (fun K hK=>?_);go_simp
         refine hK _ _ ((Zu hnb3).trans m3) ?_;clear hK K;refine Zd (fun K hK=>?_)
         refine step_append_lies _ (by rfl) (.tmp 34) (.tmp 41) 32 (by rfl) B 22 i0 _ 1 8 Tryz.underlying32 hi hz0 hz1 hz2 rfl (by decide) (.slice p kids.length cp) (kids).length ((kids).map ATree.ptr) (by rfl) (N3.out.at'.rowOf.alloc _) ⟨w3'.heap.size,0,none⟩ 1 1 [a.ptr] (by rfl) rfl (Ya (cs:=#[a.ptr]) (t:=22) (fr:=(0,0)) (heap_alloc_new w3' _)) (by simp [ATree.ptr,Value.oneCell']) (by decide) (by unfold maxLen; omega) (by omega) (by simp; have:=F3'.out.size; have:=HP.out.le; omega) (w3'.heap.size + 1) (by simp) ?_;intro gg cap w4 hown4 hgrow4 hat4 hlt4
         have m4:w4.cell? ⟨nb,3,none⟩=some (.slice p kids.length cp):=(hgrow4.cell_far ⟨nb,3,none⟩ (by simp; omega) (fun e=>NE.out e.symm)).trans ((Zu hnb3).trans m3);have mz4:w4.frozen? ⟨nb,3,none⟩=false:=(hgrow4.frozen_far ⟨nb,3,none⟩ (by simp; omega) (fun e=>NE.out e.symm)).trans ((Z0o hnb3).trans mz);refine hK _ _ m4 ?_;clear hK K;simp only [Act.put,zA,zB,zC]
         have hfin:=Got.push hlt HP.out.le N3.out (wA:=w6.drew) NA.out A3.out F3'.out R3.out ((Y2 _ _).alloc (Y0 _) _) hgrow4 hown4 (by rcases hat4 with h | h; (exact .inl h); (exact .inr (by omega))) hlt4;have FIN:=lh hfin;clear hgrow4 hown4 hat4 hlt4 hfin;refine Zb ?_;go_wp2;go_roundw
         case rel=>
          refine ⟨g,acc ++ [.mk 39 s 0 [t]],vs,.slice (some ⟨gg,0,none⟩) (kids.length + 1) cap,kids ++ [a],by omega,HQ4.out,?_,FIN.out.2.2,FIN.out.2.1,by have:=HL.out; have:=H8.out; simp; omega,by have:=HVL.out; have:=PQ.out.2; have:=Z0e us.tail; have:=Z0e (us.tail).tail; omega⟩;have h1:=FIN.out.1;have h2:=GQ.out.tree;simp only [ATree.tree,Tree.mk.injEq,true_and] at h2;rw [h2] at h1;exact h1
         case measure=>
          rw [FIN.out.2.2.left,RL.out];have e:(us.tail).tail.length=(us.tail).length - 1:=List.length_tail;have:=HVL.out; have:=HPOS.out; have:=PL.out; have:=Z0e (us.tail).tail;omega
       ·have HC := Z25 w5 rb _ d Z37 P5.out.rd hs;unfold Z37 at HC;have HC := lh HC;clear hs;go_wp2_with fail
        refine HC.out.mono ?_;rintro e w9 ⟨⟨b,rfl,h1,h2⟩,hB⟩;exact ⟨rfl,Z01.err F5.out ⟨b,rfl,h1,h2⟩ hB⟩
      ·have HC := lh (Z3o w4q rb us.tail d PQ.out.1.rd hk);clear hq3 hk;go_wp2_with fail
       refine HC.out.mono ?_;rintro e w9 ⟨⟨b,rfl,h1,h2⟩,hB⟩;exact ⟨rfl,Z01.err FQ.out ⟨b,rfl,h1,h2⟩ hB⟩
    ·have hc' : isT Z0n us = false := by simpa using hc
     have hr:r=.error (3,(hdT us).at'):=by
      rw [Z0i,Y3 hc] at hq1;exact (Yc hq1).symm
     subst hr;have HC:=Z25 w3 rb us d Z0n P3.out.rd hc';unfold Z0n at HC;have HC:=lh HC;clear hq1 hc hc' HQ;go_wp2_with fail
     refine HC.out.mono ?_;rintro e w9 ⟨⟨b,rfl,h1,h2⟩,hB⟩;exact ⟨rfl,Z01.err F3.out ⟨b,rfl,h1,h2⟩ hB⟩
end Go.Proofs.YtjcgkdfeplbajaaGreatDoor
