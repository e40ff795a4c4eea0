/- Package tree: function. -/
import Derived.Test.YtmjfllklcpjddaaGreatDoorJ10
namespace Go.Proofs.YtmjfllklcpjddaaGreatDoor
open Go Go.RowKit
set_option maxRecDepth 100000
set_option maxHeartbeats 20000000
set_option linter.unusedVariables false
def Zha (f d:Nat) (kind:Int) (text:ByteArray) (p:Tree) (ts:List Tok):PR:=Z0p Z07 ts fun ts=>Zx (Z0 f (.block true) d ts) fun b ts=>okT (.mk kind text 0 [p,b]) ts
theorem Z96 {ts:List Tok} {k:ByteArray→List Tok→PR} {kk:Tree→List Tok→PR} {r:Except (Int×Nat) (Tree×List Tok)} (h:Zx (Z2w ts k) kk=some r):((hdT ts).kind=1∧Zx (k (hdT ts).text ts.tail) kk=some r)∨((hdT ts).kind≠1∧r=.error (3,(hdT ts).at')):=by
 unfold Z2w at h;by_cases hk:(hdT ts).kind=1;·rw [Yb hk] at h; exact .inl ⟨hk,h⟩
 ·rw [Y9 hk] at h; exact .inr ⟨hk,(Yk h).symm⟩
theorem Z76 {ts:List Tok} (h:(hdT ts).kind=1):0 < ts.length:=by
 cases ts with
 | nil=>simp [hdT] at h
 | cons t l=>simp
def Zh3 (g f d:Nat) (kind:Int) (text:ByteArray) (acc:List Tree) (us:List Tok):PR:=Zx (if acc.length=8 then Z2c 4 us else Z2w us fun s ts=>Z0 g (.params (acc ++ [.mk 23 s 0 []])) d ts) (Zha f d kind text)
theorem Zfu (F:Nat) (kind:Int) (text:ByteArray) (hB:Says 94 (fun rb=>#[.pointer (some ⟨rb,0,none⟩),.bool true]) (.block true) F) :
 Says 98 (fun rb=>#[.pointer (some ⟨rb,0,none⟩),.int .i64 kind,.string text]) (.func kind text) (F + 1):=by
 intro w rb B d ts r hP hp;have hw:Z0p Z08 ts (fun ts=>Zx (Z0 F (.params []) d ts) (Zha F d kind text))=some r:=hp;have HP:=lh hP;have HBL:=lh hB;simp only;rcases Z1q hw with ⟨hs,h1⟩ | ⟨hs,rfl⟩
 ·have HC := lh (Z1v w rb ts d Z08 hP.rd hs);have H1 := lh h1;clear hP hp hw hs h1 hB;go_enter Tryz.func98, Tryz.ntmps98
  go_wp2_with fail
  refine HC.out.mono ?_;rintro e w1 ⟨rfl,hR1,hF1⟩;have P1:=lh (HP.out.tail hR1 hF1);have HN:=lh (Z0g w1 rb 40 ⟨#[]⟩ none 0 0);obtain ⟨nb,hnb⟩:=zX w1.heap.size
  have G0:=Got.leaf (k:=40) (t:=⟨#[]⟩) (n:=0) HP.out.le hF1;have hal:Below w1.heap.size w1 (w1.alloc (.cells #[.int .i64 40,.string ⟨#[]⟩,.int .i64 0,.slice none 0 0] 46)):=(Y8 _ _).alloc (Y5 _) _;have R0:=hR1.below hal;have F0:=hF1.trans (RFr.below (rb:=rb) hal);rw [← hnb] at G0 HN;obtain ⟨us0,hus0⟩:=zX ts.tail
  have hul:us0.length≤ts.length:=by rw [hus0]; simp
  rw [← hus0] at R0 H1;clear hus0;go_wp2_with fail
  refine HN.out.mono ?_;rintro e w2 ⟨rfl,hw2⟩;rw [← hw2] at G0 R0 F0;have hst:∃ (g:Nat) (acc:List Tree) (us:List Tok) (v:Value) (kids:List ATree),g≤F∧Zx (Z0 g (.params acc) d us) (Zha F d kind text)=some r∧Got w B w2 (.mk nb v 40 ⟨#[]⟩ 0 kids) (.mk 40 ⟨#[]⟩ 0 acc)∧Rd w2 rb us d∧RFr w w2 rb∧acc.length≤8∧us.length≤ts.length:=
   ⟨F,[],us0,_,[],Y5 _,H1.out,G0,R0,F0,by simp,hul⟩
  have ST:=lh hst;have HNB:=lh hnb;clear hst hw2 G0 R0 F0 HC HN hnb hF1 hR1 P1 H1 hal hul;go_wp2_with fail
  go_loopw [] (fun wr=>∃ (g:Nat) (acc:List Tree) (us:List Tok) (v:Value) (kids:List ATree),g≤F∧Zx (Z0 g (.params acc) d us) (Zha F d kind text)=some r∧Got w B wr (.mk nb v 40 ⟨#[]⟩ 0 kids) (.mk 40 ⟨#[]⟩ 0 acc)∧Rd wr rb us d∧RFr w wr rb∧acc.length≤8∧us.length≤ts.length) (fun wr=>leftOf wr rb)
  case atStart=>exact ST.out
  case round=>
   obtain ⟨g,acc,us,v,kids,hg,hq,hG,hR,hF,hl,hu⟩:=hrel;have G:=lh hG;have R:=lh hR;have FF:=lh hF;have RL:=lh hR.left;cases g with
   | zero=>cases hq
   | succ g=>
   rw [Z0] at hq;have HB:=Z3x wr rb us d Z07 hR;by_cases hb:isT Z07 us=true
   ·rw [hb] at HB;rw [Yb hb] at hq;have hq : Zha F d kind text (.mk 40 ByteArray.empty 0 acc) us = some r := hq;have HB := lh HB;have HQ := lh hq;have HI := lh hb;unfold Z07 at HB;clear hG hR hF hq hb ST;go_wp2_with fail
    refine HB.out.mono ?_;rintro e w3 ⟨rfl,hB3⟩;have hlt:=HP.out.lt;have F3:=FF.out.trans (RFr.below (rb:=rb) hB3);have G3:=G.out.rfr hlt (RFr.below (rb:=rb) hB3);have R3:=R.out.below hB3;have P3:Pre w3 rb B d us:=⟨R3,HP.out.deep,hlt,Ya HP.out.le F3.size,Ya hu HP.out.few⟩
    have HC:=Z1v w3 rb us d Z07 R3 HI.out;unfold Z07 at HC;have HC:=lh HC;have F3:=lh F3;have G3:=lh G3;have P3:=lh P3;obtain ⟨_,h3⟩:isT Z07 us=true∧Zx (Z0 F (.block true) d us.tail) (fun b ts=>okT (.mk kind text 0 [.mk 40 ByteArray.empty 0 acc,b]) ts)=some r:=by
     rcases Z1q HQ.out with h | ⟨hs,_⟩;·exact h
     ·rw [HI.out] at hs; cases hs
    have H3:=lh h3;clear hB3 R3 h3 FF G R HB HQ;go_wp2_with fail
    refine HC.out.mono ?_;rintro e w4 ⟨rfl,hR4,hF4⟩;have P4:=lh (P3.out.tail hR4 hF4);have F4:=lh (F3.out.trans hF4);have G4:=lh (G3.out.rfr hlt hF4);clear hR4 hF4 HC F3 G3;rcases Zr H3.out with ⟨⟨c,p⟩,hv,rfl⟩ | ⟨t,ts2,hv,h4⟩
    ·have HV := lh (HBL.out w4 rb B d _ _ P4.out hv);clear hv;go_wp2_with fail
     refine HV.out.mono ?_;rintro e w5 ⟨⟨b,rfl,h1,h2⟩,hF⟩;exact ⟨rfl,Z05.pre F4.out (r:=.error (c,p)) ⟨⟨b,rfl,h1,h2⟩,hF⟩⟩
    ·have HV := lh (HBL.out w4 rb B d _ _ P4.out hv);obtain rfl := Yk h4;clear hv;go_wp2_with fail
     refine HV.out.mono ?_;rintro e w5 ⟨a,rfl,hG5,hR5,hF5⟩;have G5:=lh hG5;have R5:=lh hR5;have F5:=lh hF5;clear hG5 hR5 hF5 HV;have HN:=lh (Z0g (w5.alloc (.cells #[.pointer (some ⟨nb,0,none⟩),.pointer (some ⟨a.b,0,none⟩)] 22)) rb kind text (some ⟨w5.heap.size,0,none⟩) 2 2);go_wp2_with fail
     refine HN.out.mono ?_;rintro e w6 ⟨rfl,hw6⟩;have hfin:=Got.two (k:=kind) (t:=text) HP.out.le (F4.out.trans F5.out) (G4.out.rfr hlt F5.out) (wA:=w4) (fun x hx=>(G4.out.new x hx).2) F4.out.size G5.out;have hal6:=((Y8 w5.heap.size w5).alloc (Y5 _) (.cells #[.pointer (some ⟨nb,0,none⟩),.pointer (some ⟨a.b,0,none⟩)] 22))
     have hR6:Rd w6 rb ts2 d:=by rw [hw6]; exact (R5.out.below hal6).below ((Y8 _ _).alloc (Y5 _) _)
     have hF6:RFr w w6 rb:=by rw [hw6]; exact ((F4.out.trans F5.out).trans (RFr.below hal6)).trans (RFr.below ((Y8 _ _).alloc (Y5 _) _))
     have FIN:=lh hfin;have HW6:=lh hw6;have R6:=lh hR6;have F6:=lh hF6;clear hfin hw6 hR6 hF6 hal6 HN;go_wp2;go_ret;refine ⟨_,?pt,(by rw [HW6.out]; exact FIN.out),R6.out,F6.out⟩;case pt=>simp [ATree.b]
   ·have hb' : isT Z07 us = false := by simpa using hb
    rw [hb'] at HB;rw [Y9 hb] at hq;have HB:=lh HB;have HQ:=lh hq;unfold Z07 at HB;have hkl:kids.length=acc.length:=by
     have:=hG.tree;simp only [ATree.tree,Tree.mk.injEq,true_and] at this;rw [← this,Z21,Yv]
    have HKL:=lh hkl;clear hG hR hF hq hb hb' ST hkl;go_wp2_with fail
    refine HB.out.mono ?_;rintro e w3 ⟨rfl,hB3⟩;have hlt:=HP.out.lt;have F3:=FF.out.trans (RFr.below (rb:=rb) hB3);have G3:=G.out.rfr hlt (RFr.below (rb:=rb) hB3);have R3:=R.out.below hB3;have P3:Pre w3 rb B d us:=⟨R3,HP.out.deep,hlt,Ya HP.out.le F3.size,Ya hu HP.out.few⟩
    obtain ⟨p,cp,rfl⟩:∃ p cp,v=.slice p kids.length cp:=by
     rcases Za G3.at'.rowOf with ⟨h1,h2⟩ | ⟨g0,cap0,h1,_⟩
     ·simp only [ATree.v,ATree.kids] at h1 h2;exact ⟨none,0,by rw [h1,h2]⟩
     ·exact ⟨_,_,h1⟩
    have hblk:=G3.at'.blkOf;simp only [ATree.b,ATree.v,ATree.kind,ATree.text,ATree.n] at hblk;have n3:w3.cell? ⟨nb,3,none⟩=some (.slice p kids.length cp):=by simp [World.cell?,hblk]
    have F3:=lh F3;have G3:=lh G3;have P3:=lh P3;have HU:=lh hu;have HL:=lh hl;clear hB3 R3 FF G R HB hblk hu hl;by_cases h0:acc.length=0
    ·have a0 : decide (0 < kids.length) = false := by have := HKL.out; simp; exact List.eq_nil_of_length_eq_zero (by omega)
     have hq2:Zh3 g F d kind text acc us=some r:=by have h:=HQ.out; rw [Y9 (by omega)] at h; exact h
     have h8:¬ acc.length=8:=by omega
     have PQ:=lh (show Pre w3 rb B d us∧us.length≤ts.length from ⟨P3.out,HU.out⟩);have GQ:=G3;have FQ:=F3;have PL:=lh (Y5 us.length);clear HQ;have n8:((kids.length:Int) == 8)=false:=by have:=HKL.out; simp; omega
     have HQ2:=hq2;unfold Zh3 at HQ2;rw [Y9 h8] at HQ2;have HQ2:=lh HQ2;clear hq2;go_wp2_with fail
     refine Z1 [(true,0),(true,1),(true,2),(true,3),(true,4),(true,5),(true,6),(false,7),(false,8),(false,9),(false,10)] [11,12,13] (fun W=>W.cell? ⟨nb,3,none⟩=some (.slice p kids.length cp)) (by kernel_rfl) (by kernel_rfl) (fun _ _ d _ _ h=>by cases d <;> exact h) n3 (fun hS0=>?_);simp only [Zf,zD,zE,zF,zG,zH,zI]
     iterate 7
      first
       | (refine Z2 ?_ (by rfl) (fun w' hS'=>?_) ?_; rotate_left; (have s0:=hS'; go_simp; first | done | with_reducible rfl); simp only [Act.put,zA,zB,zC])
       | (refine Z3 (by rfl) ?_; simp only [Act.put,zA,zB,zC])
     refine Z5 (fun K hK=>?_);go_simp
     have hus:us.length≤ts.length:=PQ.out.2;rcases Z96 HQ2.out with ⟨hk,h1⟩ | ⟨hk,rfl⟩
     ·refine (Z3o w3.drew rb us d PQ.out.1.rd.drew hk).mono ?_;rintro e wa ⟨rfl, hRa, hFa⟩;have hFwa : RFr w3 wa rb := (RFr.refl w3 rb).drew.trans hFa;have hNa := GQ.out.rfr hlt hFwa;have hblk := hNa.at'.blkOf;simp only [ATree.b, ATree.v, ATree.kind, ATree.text, ATree.n] at hblk;have m3 : wa.cell? ⟨nb, 3, none⟩ = some (.slice p kids.length cp) := by simp [World.cell?, hblk]
      refine hK _ _ m3 ?_;clear hK K;refine Z5 (fun K hK=>?_);go_simp
      have hala:Below wa.heap.size wa (wa.alloc (.cells #[.int .i64 23,.string (hdT us).text,.int .i64 0,.slice none 0 0] 46)):=(Y8 _ _).alloc (Y5 _) _;have hA:=Got.leaf (w0:=wa) (w:=wa) (rb:=rb) (B:=B) (k:=23) (t:=(hdT us).text) (n:=0) (Ya HP.out.le (FQ.out.trans hFwa).size) (RFr.refl _ _);refine (Z0g wa rb 23 (hdT us).text none 0 0).mono ?_;rintro e w3' ⟨rfl,hw3'⟩;rw [← hw3'] at hA hala;have hF23:RFr w3 w3' rb:=hFwa.trans (RFr.below hala);have hN3:=hNa.rfr hlt (RFr.below (rb:=rb) hala);have hR3:=hRa.below hala
      have hblk:=hN3.at'.blkOf;simp only [ATree.b,ATree.v,ATree.kind,ATree.text,ATree.n] at hblk;have m3:w3'.cell? ⟨nb,3,none⟩=some (.slice p kids.length cp):=by simp [World.cell?,hblk]
      have mz:w3'.frozen? ⟨nb,3,none⟩=false:=by simp [World.frozen?,hblk]
      have hnb3:nb < w3'.heap.size:=(Y6.1 hblk).1;have hnd:=hN3.nodup;simp only [ATree.blocks,List.nodup_cons,List.mem_append,Option.mem_toList,not_or] at hnd;have hne:=hnd.1.1;have hk4:kids.length≤8:=by have:=HKL.out; have:=HL.out; omega
      obtain ⟨a,ha⟩:∃ a:ATree,a=.mk wa.heap.size (.slice none 0 0) 23 (hdT us).text 0 []:=⟨_,rfl⟩
      rw [← ha] at hA;have hap:Value.pointer (some ⟨wa.heap.size,0,none⟩)=.pointer (some ⟨a.b,0,none⟩):=by rw [ha]; rfl
      rw [hap];clear ha hap;have N3:=lh hN3;have A3:=lh hA;have R3:=lh hR3;have F3':=lh (FQ.out.trans hF23);have NE:=lh hne;have NA:=lh (fun x hx=>(hNa.new x hx).2);have HQ3:=lh h1;refine hK _ _ m3 ?_;obtain ⟨i0,hi,hz0,hz1,hz2⟩:=info_parts Tryz.infoPtr;clear hK K hA hR3 hF23 hN3 hblk hnd hne h1 n3 hFa hFwa hNa hRa hala hw3';refine Z5 (fun K hK=>?_);go_simp
      refine hK _ _ ((Z4 hnb3).trans m3) ?_;clear hK K;refine Z5 (fun K hK=>?_)
      refine step_append_lies _ (by rfl) (.tmp 35) (.tmp 40) 44 (by rfl) B 22 i0 _ 1 8 Tryz.underlying44 hi hz0 hz1 hz2 rfl (by decide) (.slice p kids.length cp) kids.length (kids.map ATree.ptr) (by rfl) (N3.out.at'.rowOf.alloc _) ⟨w3'.heap.size,0,none⟩ 1 1 [a.ptr] (by rfl) rfl (Yi (cs:=#[a.ptr]) (t:=22) (fr:=(0,0)) (heap_alloc_new w3' _)) (by simp [ATree.ptr,Value.oneCell']) (by decide) (by unfold maxLen; omega) (by omega) (by simp; have:=F3'.out.size; have:=HP.out.le; omega) (w3'.heap.size + 1) (by simp) ?_;intro gg cap w4 hown4 hgrow4 hat4 hlt4
      have m4:w4.cell? ⟨nb,3,none⟩=some (.slice p kids.length cp):=(hgrow4.cell_far ⟨nb,3,none⟩ (by simp; omega) (fun e=>NE.out e.symm)).trans ((Z4 hnb3).trans m3);have mz4:w4.frozen? ⟨nb,3,none⟩=false:=(hgrow4.frozen_far ⟨nb,3,none⟩ (by simp; omega) (fun e=>NE.out e.symm)).trans ((Z01 hnb3).trans mz);refine hK _ _ m4 ?_;clear hK K;simp only [Act.put,zA,zB,zC]
      have hfin:=Got.push hlt HP.out.le N3.out (wA:=wa) NA.out A3.out F3'.out R3.out ((Y8 _ _).alloc (Y5 _) _) hgrow4 hown4 (by rcases hat4 with h | h; (exact .inl h); (exact .inr (by omega))) hlt4;have FIN:=lh hfin;clear hgrow4 hown4 hat4 hlt4 hfin;refine Z6 ?_;go_wp2;go_roundw
      case rel=>
       refine ⟨g,acc ++ [.mk 23 (hdT us).text 0 []],us.tail,.slice (some ⟨gg,0,none⟩) (kids.length + 1) cap,kids ++ [a],by omega,HQ3.out,?_,FIN.out.2.2,FIN.out.2.1,by have:=HL.out; simp; omega,by rw [List.length_tail]; omega⟩;have h1:=FIN.out.1;have h2:=GQ.out.tree;simp only [ATree.tree,Tree.mk.injEq,true_and] at h2;rw [h2] at h1;exact h1
      case measure=>
       rw [FIN.out.2.2.left,RL.out];exact Ye (by have:=Z76 hk; rw [List.length_tail]; omega) PL.out
     ·refine (Z5k w3.drew rb us d PQ.out.1.rd.drew hk).mono ?_;rintro e w9 ⟨⟨b,rfl,h1,h2⟩,hB⟩;exact ⟨rfl,Z05.err FQ.out.drew ⟨b,rfl,h1,h2⟩ hB⟩
    ·have a0 : decide (0 < kids.length) = true := by have := HKL.out; simp; omega
     have hq1:=HQ.out;rw [Yb (by omega)] at hq1;by_cases hc:isT Z0l us=true
     ·have hq2 : Zh3 g F d kind text acc us.tail = some r := by rw [Z0p, Yb hc] at hq1; exact hq1
      have HC:=Z1v w3 rb us d Z0l P3.out.rd hc;unfold Z0l at HC;have HC:=lh HC;clear hq1 hc HQ;go_wp2_with fail
      refine HC.out.mono ?_;rintro e w4q ⟨rfl,hR4,hF4⟩;have PQ:=lh (show Pre w4q rb B d us.tail∧us.tail.length≤ts.length from ⟨P3.out.tail hR4 hF4,by have:=HU.out; rw [List.length_tail]; omega⟩);have GQ:=lh (G3.out.rfr hlt hF4);have FQ:=lh (F3.out.trans hF4);have PL:=lh (show us.tail.length≤us.length by rw [List.length_tail]; omega);have hblk:=GQ.out.at'.blkOf;simp only [ATree.b,ATree.v,ATree.kind,ATree.text,ATree.n] at hblk;clear n3;have n3:w4q.cell? ⟨nb,3,none⟩=some (.slice p kids.length cp):=by simp [World.cell?,hblk]
      clear hR4 hF4 HC hblk F3 G3 P3;by_cases h8:acc.length=8
      ·have n8 : ((kids.length : Int) == 8) = true := by have := HKL.out; simp; omega
       have hr:r=.error (4,(hdT us.tail).at'):=by
        unfold Zh3 at hq2;rw [Yb h8] at hq2;exact (Yk hq2).symm
       subst hr;have HE:=lh (Z2u w4q rb us.tail d 4 PQ.out.1.rd);clear hq2;go_wp2_with fail
       refine HE.out.mono ?_;rintro e w9 ⟨⟨b,rfl,h1,h2⟩,hB⟩;exact ⟨rfl,Z05.err FQ.out ⟨b,rfl,h1,h2⟩ hB⟩
      ·skip
       have n8:((kids.length:Int) == 8)=false:=by have:=HKL.out; simp; omega
       have HQ2:=hq2;unfold Zh3 at HQ2;rw [Y9 h8] at HQ2;have HQ2:=lh HQ2;clear hq2;go_wp2_with fail
       refine Z1 [(true,0),(true,1),(true,2),(true,3),(true,4),(true,5),(true,6),(false,7),(false,8),(false,9),(false,10)] [11,12,13] (fun W=>W.cell? ⟨nb,3,none⟩=some (.slice p kids.length cp)) (by kernel_rfl) (by kernel_rfl) (fun _ _ d _ _ h=>by cases d <;> exact h) n3 (fun hS0=>?_);simp only [Zf,zD,zE,zF,zG,zH,zI]
       iterate 7
        first
         | (refine Z2 ?_ (by rfl) (fun w' hS'=>?_) ?_; rotate_left; (have s0:=hS'; go_simp; first | done | with_reducible rfl); simp only [Act.put,zA,zB,zC])
         | (refine Z3 (by rfl) ?_; simp only [Act.put,zA,zB,zC])
       refine Z5 (fun K hK=>?_);go_simp
       have hus:us.tail.length≤ts.length:=PQ.out.2;rcases Z96 HQ2.out with ⟨hk,h1⟩ | ⟨hk,rfl⟩
       ·refine (Z3o w4q.drew rb us.tail d PQ.out.1.rd.drew hk).mono ?_;rintro e wa ⟨rfl, hRa, hFa⟩;have hFwa : RFr w4q wa rb := (RFr.refl w4q rb).drew.trans hFa;have hNa := GQ.out.rfr hlt hFwa;have hblk := hNa.at'.blkOf;simp only [ATree.b, ATree.v, ATree.kind, ATree.text, ATree.n] at hblk;have m3 : wa.cell? ⟨nb, 3, none⟩ = some (.slice p kids.length cp) := by simp [World.cell?, hblk]
        refine hK _ _ m3 ?_;clear hK K;refine Z5 (fun K hK=>?_);go_simp
        have hala:Below wa.heap.size wa (wa.alloc (.cells #[.int .i64 23,.string (hdT us.tail).text,.int .i64 0,.slice none 0 0] 46)):=(Y8 _ _).alloc (Y5 _) _;have hA:=Got.leaf (w0:=wa) (w:=wa) (rb:=rb) (B:=B) (k:=23) (t:=(hdT us.tail).text) (n:=0) (Ya HP.out.le (FQ.out.trans hFwa).size) (RFr.refl _ _);refine (Z0g wa rb 23 (hdT us.tail).text none 0 0).mono ?_;rintro e w3' ⟨rfl,hw3'⟩;rw [← hw3'] at hA hala;have hF23:RFr w4q w3' rb:=hFwa.trans (RFr.below hala);have hN3:=hNa.rfr hlt (RFr.below (rb:=rb) hala);have hR3:=hRa.below hala
        have hblk:=hN3.at'.blkOf;simp only [ATree.b,ATree.v,ATree.kind,ATree.text,ATree.n] at hblk;have m3:w3'.cell? ⟨nb,3,none⟩=some (.slice p kids.length cp):=by simp [World.cell?,hblk]
        have mz:w3'.frozen? ⟨nb,3,none⟩=false:=by simp [World.frozen?,hblk]
        have hnb3:nb < w3'.heap.size:=(Y6.1 hblk).1;have hnd:=hN3.nodup;simp only [ATree.blocks,List.nodup_cons,List.mem_append,Option.mem_toList,not_or] at hnd;have hne:=hnd.1.1;have hk4:kids.length≤8:=by have:=HKL.out; have:=HL.out; omega
        obtain ⟨a,ha⟩:∃ a:ATree,a=.mk wa.heap.size (.slice none 0 0) 23 (hdT us.tail).text 0 []:=⟨_,rfl⟩
        rw [← ha] at hA;have hap:Value.pointer (some ⟨wa.heap.size,0,none⟩)=.pointer (some ⟨a.b,0,none⟩):=by rw [ha]; rfl
        rw [hap];clear ha hap;have N3:=lh hN3;have A3:=lh hA;have R3:=lh hR3;have F3':=lh (FQ.out.trans hF23);have NE:=lh hne;have NA:=lh (fun x hx=>(hNa.new x hx).2);have HQ3:=lh h1;refine hK _ _ m3 ?_;obtain ⟨i0,hi,hz0,hz1,hz2⟩:=info_parts Tryz.infoPtr;clear hK K hA hR3 hF23 hN3 hblk hnd hne h1 n3 hFa hFwa hNa hRa hala hw3';refine Z5 (fun K hK=>?_);go_simp
        refine hK _ _ ((Z4 hnb3).trans m3) ?_;clear hK K;refine Z5 (fun K hK=>?_)
        refine step_append_lies _ (by rfl) (.tmp 35) (.tmp 40) 44 (by rfl) B 22 i0 _ 1 8 Tryz.underlying44 hi hz0 hz1 hz2 rfl (by decide) (.slice p kids.length cp) kids.length (kids.map ATree.ptr) (by rfl) (N3.out.at'.rowOf.alloc _) ⟨w3'.heap.size,0,none⟩ 1 1 [a.ptr] (by rfl) rfl (Yi (cs:=#[a.ptr]) (t:=22) (fr:=(0,0)) (heap_alloc_new w3' _)) (by simp [ATree.ptr,Value.oneCell']) (by decide) (by unfold maxLen; omega) (by omega) (by simp; have:=F3'.out.size; have:=HP.out.le; omega) (w3'.heap.size + 1) (by simp) ?_;intro gg cap w4 hown4 hgrow4 hat4 hlt4
        have m4:w4.cell? ⟨nb,3,none⟩=some (.slice p kids.length cp):=(hgrow4.cell_far ⟨nb,3,none⟩ (by simp; omega) (fun e=>NE.out e.symm)).trans ((Z4 hnb3).trans m3);have mz4:w4.frozen? ⟨nb,3,none⟩=false:=(hgrow4.frozen_far ⟨nb,3,none⟩ (by simp; omega) (fun e=>NE.out e.symm)).trans ((Z01 hnb3).trans mz);refine hK _ _ m4 ?_;clear hK K;simp only [Act.put,zA,zB,zC]
        have hfin:=Got.push hlt HP.out.le N3.out (wA:=wa) NA.out A3.out F3'.out R3.out ((Y8 _ _).alloc (Y5 _) _) hgrow4 hown4 (by rcases hat4 with h | h; (exact .inl h); (exact .inr (by omega))) hlt4;have FIN:=lh hfin;clear hgrow4 hown4 hat4 hlt4 hfin;refine Z6 ?_;go_wp2;go_roundw
        case rel=>
         refine ⟨g,acc ++ [.mk 23 (hdT us.tail).text 0 []],us.tail.tail,.slice (some ⟨gg,0,none⟩) (kids.length + 1) cap,kids ++ [a],by omega,HQ3.out,?_,FIN.out.2.2,FIN.out.2.1,by have:=HL.out; simp; omega,by rw [List.length_tail]; omega⟩;have h1:=FIN.out.1;have h2:=GQ.out.tree;simp only [ATree.tree,Tree.mk.injEq,true_and] at h2;rw [h2] at h1;exact h1
        case measure=>
         rw [FIN.out.2.2.left,RL.out];exact Ye (by have:=Z76 hk; rw [List.length_tail]; omega) PL.out
       ·refine (Z5k w4q.drew rb us.tail d PQ.out.1.rd.drew hk).mono ?_;rintro e w9 ⟨⟨b,rfl,h1,h2⟩,hB⟩;exact ⟨rfl,Z05.err FQ.out.drew ⟨b,rfl,h1,h2⟩ hB⟩
     ·have hr : r = .error (3, (hdT us).at') := by rw [Z0p, Y9 hc] at hq1; exact (Yk hq1).symm
      subst hr;have HC:=Z3d w3 rb us d Z0l P3.out.rd (by simpa using hc);unfold Z0l at HC;have HC:=lh HC;clear hq1 hc HQ;go_wp2_with fail
      refine HC.out.mono ?_;rintro e w9 ⟨⟨b,rfl,h1,h2⟩,hB⟩;exact ⟨rfl,Z05.err F3.out ⟨b,rfl,h1,h2⟩ hB⟩
 ·have HC := lh (Z3d w rb ts d Z08 hP.rd hs);clear hP hp hw hs;go_enter Tryz.func98, Tryz.ntmps98
  go_wp2_with fail
  refine HC.out.mono ?_;rintro e w3 ⟨⟨b,rfl,h1,h2⟩,hB⟩;exact ⟨rfl,Z05.err (RFr.refl _ _) ⟨b,rfl,h1,h2⟩ hB⟩
theorem Zgj (F:Nat) (hS:∀ g,g < F→Says 66 rArg .stmt g) :
 Says 27 (fun rb=>#[.pointer (some ⟨rb,0,none⟩),.int .i64 1,.string ⟨#[]⟩]) (.stmts 1 []) F:=by
 intro w rb B d ts r hP hp;have HC:=lh (Z0g w rb 1 ⟨#[]⟩ none 0 0);have HP:=lh hP;have HQ:=lh hp;have HS:=lh hS;have hmf:∀ (fn:Fn) (first cap:Array Value) (w:World),(Instr.makeFunc fn first cap).run Tryz.prog w=.ok (.func fn first cap) w:=fun _ _ _ _=>rfl;obtain ⟨nb,hnb⟩:=zX w.heap.size
 have G0:=Got.leaf (k:=1) (t:=⟨#[]⟩) (n:=0) hP.le (RFr.refl w rb);have R0:=hP.rd.below ((Y8 _ _).alloc (Y5 _) (.cells #[.int .i64 1,.string ⟨#[]⟩,.int .i64 0,.slice none 0 0] 46));have F0:RFr w (w.alloc (.cells #[.int .i64 1,.string ⟨#[]⟩,.int .i64 0,.slice none 0 0] 46)) rb:=RFr.below ((Y8 _ _).alloc (Y5 _) _);rw [← hnb] at G0 HC;clear hP hp hS;simp only;go_enter Tryz.func27,Tryz.ntmps27
 go_wp2_with fail
 refine HC.out.mono ?_;rintro e w1 ⟨rfl,hw1⟩;rw [← hw1] at G0 R0 F0;have hst:∃ (g:Nat) (acc:List Tree) (us:List Tok) (v:Value) (kids:List ATree),g≤F∧Z0 g (.stmts 1 acc) d us=some r∧Got w B w1 (.mk nb v 1 ⟨#[]⟩ 0 kids) (.mk 1 ⟨#[]⟩ 0 acc)∧Rd w1 rb us d∧RFr w w1 rb∧acc.length + us.length≤ts.length∧(∀ x∈acc,x.kind=15→x.kids≠[]):=
  ⟨F,[],ts,_,[],Y5 _,HQ.out,G0,R0,F0,by simp,fun x hx=>by cases hx⟩
 have ST:=lh hst;have HNB:=lh hnb;clear hst hw1 G0 R0 F0 HC hnb;go_wp2_with fail
 go_loopw [] (fun wr=>∃ (g:Nat) (acc:List Tree) (us:List Tok) (v:Value) (kids:List ATree),g≤F∧Z0 g (.stmts 1 acc) d us=some r∧Got w B wr (.mk nb v 1 ⟨#[]⟩ 0 kids) (.mk 1 ⟨#[]⟩ 0 acc)∧Rd wr rb us d∧RFr w wr rb∧acc.length + us.length≤ts.length∧(∀ x∈acc,x.kind=15→x.kids≠[])) (fun wr=>leftOf wr rb)
 case atStart=>exact ST.out
 case round=>
  obtain ⟨g,acc,us,v,kids,hg,hq,hG,hR,hF,hl,hx⟩:=hrel;have G:=lh hG;have R:=lh hR;have FF:=lh hF;have HX:=lh hx;have RL:=lh hR.left;cases g with
  | zero=>cases hq
  | succ g=>
  rw [Z0] at hq;obtain ⟨tb,off,cpp,hh⟩:=hR;have c0:=hh.c0;have k0:=hh.hd (j:=0) (x:=.int .i64 (hdT us).kind) rfl;rw [Nat.add_zero] at k0;have hps:=hh.pos;clear hh;by_cases hb:(hdT us).kind=6
  ·have nk : ((hdT us).kind != 6) = false := by simp [hb]
   rw [Yb (by rw [Yb rfl]; simpa using hb)] at hq;have hr:=Yk hq;have HRr:=lh hr.symm;clear hG hF hq hr hb hx ST;have hB2:Below wr.heap.size wr wr:=Y8 _ _;have hlt:=HP.out.lt;have F2:=lh (FF.out.trans (RFr.below (rb:=rb) hB2));have G2:=lh (G.out.rfr hlt (RFr.below (rb:=rb) hB2));have R2:=lh (R.out.below hB2);have hblk:=G2.out.at'.blkOf;have hrow:=G2.out.at'.rowOf;simp only [ATree.b,ATree.v,ATree.kind,ATree.text,ATree.n,ATree.kids] at hblk hrow;have n3:wr.cell? ⟨nb,3,none⟩=some v:=by simp [World.cell?,hblk]
   have nz:wr.frozen? ⟨nb,1,none⟩=false:=by simp [World.frozen?,hblk]
   have nc1:wr.cell? ⟨nb,1,none⟩=some (.string ⟨#[]⟩):=by simp [World.cell?,hblk]
   have htr:=G2.out.tree;simp only [ATree.tree,Tree.mk.injEq,true_and] at htr;have fin0:Z1p acc=false→Z05 w rb B d r (.returned (.pointer (some ⟨nb,0,none⟩))) wr:=fun h=>by
    rw [HRr.out,h];exact ⟨_,rfl,G2.out,R2.out,F2.out⟩
   have FIN0:=lh fin0;have fin1:Z1p acc=true→Z05 w rb B d r (.returned (.pointer (some ⟨nb,0,none⟩))) (wr.setCell ⟨nb,1,none⟩ (.string Z27)):=fun h=>by
    rw [HRr.out,h];obtain ⟨h1,h2,h3⟩:=Got.text (t':=Z27) hlt HP.out.le G2.out F2.out R2.out;exact ⟨_,rfl,h1,h3,h2⟩
   have FIN1:=lh fin1;have HTR:=lh htr;have hks:∀ a∈kids,TreeAt wr B a:=fun a ha=>G2.out.at'.kid (k:=a) ha;have HKS:=lh hks;clear hB2 hblk fin0 fin1 htr hks FF G R;cases kids with
   | nil =>
     have hs0:Z1p acc=false:=by rw [← HTR.out]; rfl
     have H0:=lh (FIN0.out hs0);clear hs0;rcases Za hrow with ⟨rfl,_⟩ | ⟨g0,cap0,rfl,_,_,_⟩
     all_goals
      clear hrow;go_wp2;go_ret;exact H0.out
   | cons a0 ks =>
     rcases Za hrow with ⟨_,h0⟩ | ⟨g0,cap0,rfl,k1,k2,k3⟩;·simp at h0
     have p0:=Zl hrow (g:=g0) rfl (i:=0) (x:=a0.ptr) rfl;have hT0:=HKS.out a0 (by simp);have hb0:=hT0.blkOf;have hr0:=hT0.rowOf;have hx0:=HX.out a0.tree (by rw [← HTR.out]; simp [Z0r]);obtain ⟨b0,v0,kd0,t0,n0,l0⟩:=a0;simp only [ATree.b,ATree.v,ATree.kind,ATree.text,ATree.n,ATree.kids,ATree.ptr,List.length_cons] at hb0 hr0 p0 k1 n3 ⊢;unfold maxLen at k2;have d0:wr.cell? ⟨b0,0,none⟩=some (.int .i64 kd0):=by simp [World.cell?,hb0]
     have d3:wr.cell? ⟨b0,3,none⟩=some v0:=by simp [World.cell?,hb0]
     by_cases h15:kd0=15
     ·subst h15;cases l0 with
      | nil=>exact absurd rfl (hx0 rfl)
      | cons x xs=>
      rcases Za hr0 with ⟨_,h0⟩ | ⟨g1,cap1,rfl,j1,j2,j3⟩;·simp at h0
      have p1:=Zl hr0 (g:=g1) rfl (i:=0) (x:=x.ptr) rfl;have hb1:=(hT0.kid (k:=x) (by simp [ATree.kids])).blkOf;obtain ⟨b1,v1,kd1,t1,n1,l1⟩:=x;simp only [ATree.b,ATree.v,ATree.kind,ATree.text,ATree.n,ATree.ptr,List.length_cons] at hb1 p1 j1 d3;unfold maxLen at j2;have e0:wr.cell? ⟨b1,0,none⟩=some (.int .i64 kd1):=by simp [World.cell?,hb1]
      have e1:wr.cell? ⟨b1,1,none⟩=some (.string t1):=by simp [World.cell?,hb1]
      have hstr:Z1p acc=(decide (kd1=18) && Z0n t1 Z0b):=by rw [← HTR.out]; rfl
      have HST:=lh hstr;clear hrow hr0 hT0 hb0 hb1 hx0 hstr;by_cases h18:kd1=18
      ·subst h18;by_cases hus : t1 = Z0b
       ·subst hus;have H1:=lh (FIN1.out (by rw [HST.out]; simp [Z0n]));unfold Z0b at e1;go_wp2;go_ret;exact H1.out
       ·have H0 := lh (FIN0.out (by rw [HST.out]; simp [Z0n, hus]));have hne : ¬ t1.toList = Z0b.toList := fun h => hus (Z2f h);have hne2 : (t1.toList == Z0b.toList) = false := by simpa using hne
        have hl:Z0b.toList=[117,115,101,32,115,116,114,105,99,116]:=by rw [Lib.toList_data]; rfl
        have hne3:¬ t1.toList=[117,115,101,32,115,116,114,105,99,116]:=by rw [← hl]; exact hne
        have hne4:(t1.toList == [117,115,101,32,115,116,114,105,99,116])=false:=by simpa using hne3
        unfold Z0b at hne hne2;clear hus hl;go_wp2;go_ret;exact H0.out
      ·have n18 : (kd1 == 18) = false := by simpa using h18
       have H0:=lh (FIN0.out (by rw [HST.out]; simp [h18]));clear h18;go_wp2;go_ret;exact H0.out
     ·have n15 : (kd0 == 15) = false := by simpa using h15
      have H0:=lh (FIN0.out (by rw [← HTR.out]; cases l0 <;> simp [Z0r,ATree.tree,Z1p,h15]));clear hrow hr0 hT0 hb0 hx0 h15;go_wp2;go_ret;exact H0.out
  ·have nk : ((hdT us).kind != 6) = true := by simpa using hb
   rw [Y9 (by rw [Yb rfl]; simpa using hb)] at hq;have HQ2:=lh hq;clear hG hF hq hb hx ST;have hB2:Below wr.heap.size wr wr:=Y8 _ _;have F2:=FF.out.trans (RFr.below (rb:=rb) hB2);have G2:=G.out.rfr HP.out.lt (RFr.below (rb:=rb) hB2);have R2:=R.out.below hB2;have n3:wr.cell? ⟨nb,3,none⟩=some v:=by have:=G2.at'.blkOf; simp only [ATree.b,ATree.v,ATree.kind,ATree.text,ATree.n] at this; simp [World.cell?,this]
   have F2:=lh F2;have G2:=lh G2;have R2:=lh R2;clear hB2 FF G R;go_wp2_with fail
   refine Z1 [(true,0),(true,1),(true,2),(true,3),(true,4),(true,5),(true,6),(true,7),(false,8),(false,9),(false,10)] [11,12,13] (fun W=>W.cell? ⟨nb,3,none⟩=some v) (by kernel_rfl) (by kernel_rfl) (fun _ _ d _ _ h=>by cases d <;> exact h) n3 (fun hS0=>?_);simp only [Zf,zD,zE,zF,zG,zH,zI]
   iterate 8
    first
     | (refine Z2 ?_ (by rfl) (fun w' hS'=>?_) ?_; rotate_left; (have s0:=hS'; go_simp; first | done | with_reducible rfl); simp only [Act.put,zA,zB,zC])
     | (refine Z3 (by rfl) ?_; simp only [Act.put,zA,zB,zC])
   refine Z5 (fun K hK=>?_);go_simp
   have hlt:=HP.out.lt;have hRF2:RFr wr wr.drew rb:=(RFr.refl wr rb).drew;have hus:us.length≤4000:=by have:=HP.out.few; omega
   have hle2:B≤wr.drew.heap.size:=Ya HP.out.le F2.out.size;rcases Zr HQ2.out with ⟨⟨c,p⟩,hv,rfl⟩ | ⟨t,vs,hv,hq3⟩
   ·refine (Z0a wr.drew rb B us d _ _ R2.out.drew (by have:=HP.out.deep; omega) hlt hv fun hd h1 w1 hR1 hs=>HS.out g (by omega) w1 rb B (d + 1) us _ ⟨hR1,hd,hlt,by omega,hus⟩ h1).mono ?_;rintro e w3 ⟨⟨b,rfl,h1,h2⟩,hF3⟩;exact ⟨rfl,Z05.pre F2.out.drew (r:=.error (c,p)) ⟨⟨b,rfl,h1,h2⟩,hF3⟩⟩
   ·have hvl:vs.length < us.length:=Leaves.within (Z1j g .stmt (d + 1) us) t vs hv;have hvx:t.kind=15→t.kids≠[]:=by
     unfold Z0e at hv;by_cases h30:30 < d + 1;·rw [Yb h30] at hv; cases hv
     ·rw [Y9 h30] at hv;cases g with
      | zero=>cases hv
      | succ g=>exact Zb5 hv
    have HVX:=lh hvx;have HQ3:=lh hq3;refine (Z0a wr.drew rb B us d _ _ R2.out.drew (by have:=HP.out.deep; omega) hlt hv fun hd h1 w1 hR1 hs=>HS.out g (by omega) w1 rb B (d + 1) us _ ⟨hR1,hd,hlt,by omega,hus⟩ h1).mono ?_;rintro e w3 ⟨a,rfl,hA,hR3,hF3⟩;have hF23:RFr wr w3 rb:=hRF2.trans hF3;have hN3:=G2.out.rfr hlt hF23;have hblk:=hN3.at'.blkOf;simp only [ATree.b,ATree.v,ATree.kind,ATree.text,ATree.n] at hblk;have m3:w3.cell? ⟨nb,3,none⟩=some v:=by simp [World.cell?,hblk]
    have mz:w3.frozen? ⟨nb,3,none⟩=false:=by simp [World.frozen?,hblk]
    have hnb3:nb < w3.heap.size:=(Y6.1 hblk).1;have hnd:=hN3.nodup;simp only [ATree.blocks,List.nodup_cons,List.mem_append,Option.mem_toList,not_or] at hnd;have hne:v.ownBlock≠some nb:=hnd.1.1;have hkl:kids.length=acc.length:=by
     have:=hN3.tree;simp only [ATree.tree,Tree.mk.injEq,true_and] at this;rw [← this,Z21,Yv]
    have hk4:kids.length≤4000:=by have:=HP.out.few; omega
    have N3:=lh hN3;have A3:=lh hA;have R3:=lh hR3;have F3:=lh (F2.out.trans hF23);have NE:=lh hne;have HKL:=lh hkl;refine hK _ _ m3 ?_;obtain ⟨i0,hi,hz0,hz1,hz2⟩:=info_parts Tryz.infoPtr;clear hK K hA hR3 hF3 hF23 hN3 hblk hnd hne hvx hq3 hv hkl n3 hRF2;refine Z5 (fun K hK=>?_);go_simp
    refine hK _ _ ((Z4 hnb3).trans m3) ?_;clear hK K;refine Z5 (fun K hK=>?_);refine step_append_lies _ (by rfl) (.tmp 37) (.tmp 42) 44 (by rfl) B 22 i0 _ 1 8 Tryz.underlying44 hi hz0 hz1 hz2 rfl (by decide) v kids.length (kids.map ATree.ptr) (by rfl) (N3.out.at'.rowOf.alloc _) ⟨w3.heap.size,0,none⟩ 1 1 [a.ptr] (by rfl) rfl (Yi (cs:=#[a.ptr]) (t:=22) (fr:=(0,0)) (heap_alloc_new w3 _)) (by simp [ATree.ptr,Value.oneCell']) (by decide) (by unfold maxLen; omega) (by omega) (by simp; have:=F3.out.size; have:=HP.out.le; omega) (w3.heap.size + 1) (by simp) ?_
    intro gg cap w4 hown4 hgrow4 hat4 hlt4;have m4:w4.cell? ⟨nb,3,none⟩=some v:=(hgrow4.cell_far ⟨nb,3,none⟩ (by simp; omega) (fun e=>NE.out e.symm)).trans ((Z4 hnb3).trans m3);have mz4:w4.frozen? ⟨nb,3,none⟩=false:=(hgrow4.frozen_far ⟨nb,3,none⟩ (by simp; omega) (fun e=>NE.out e.symm)).trans ((Z01 hnb3).trans mz);refine hK _ _ m4 ?_;clear hK K;simp only [Act.put,zA,zB,zC]
    have hfin:=Got.push hlt HP.out.le N3.out (wA:=wr.drew) (fun x hx=>(G2.out.new x hx).2) A3.out F3.out R3.out ((Y8 _ _).alloc (Y5 _) _) hgrow4 hown4 (by rcases hat4 with h | h; (exact .inl h); (exact .inr (by omega))) hlt4;have FIN:=lh hfin;clear hgrow4 hown4 hat4 hlt4 hfin;refine Z6 ?_;go_wp2;go_roundw
    case rel=>
     refine ⟨g,acc ++ [t],vs,.slice (some ⟨gg,0,none⟩) (kids.length + 1) cap,kids ++ [a],by omega,HQ3.out,?_,FIN.out.2.2,FIN.out.2.1,by simp; omega,fun x hx=>?_⟩
     ·have h1:=FIN.out.1;have h2:=G2.out.tree;simp only [ATree.tree,Tree.mk.injEq,true_and] at h2;rw [h2] at h1;exact h1
     ·rcases List.mem_append.1 hx with hx | hx;·exact HX.out x hx
      ·simp only [List.mem_singleton] at hx; subst hx; exact HVX.out
    case measure=>
     rw [FIN.out.2.2.left,RL.out];exact hvl
def Z0z (ts:List Tree):ByteArray:=if Z1p ts then Z27 else ByteArray.empty
theorem Z4p (w0 w:World) (B:Nat) (v:Value) (kids:List ATree) (ts:List Tree) (L:ListAt w0 B w v kids ts) (hx:∀ x∈ts,x.kind=15→x.kids≠[]) :
 Calls Tryz.prog 22 #[v] w fun e w'=>e=.returned (.string (Z0z ts))∧Below w.heap.size w w':=by
 have HTR:=lh L.ks.tree;have HX:=lh hx;have hrow:=L.row;have HKS:=lh L.ks.at';clear hx L;cases kids with
 | nil =>
   have hs0:Z0z ts=ByteArray.empty:=by rw [← HTR.out]; rfl
   rw [hs0];clear HTR HX HKS hs0;rcases Za hrow with ⟨rfl,_⟩ | ⟨g0,cap0,rfl,_,_,_⟩
   all_goals
    clear hrow;go_enter Tryz.func22,Tryz.ntmps22
    go_wp2;go_ret;exact ⟨rfl,Y8 _ _⟩
 | cons a0 ks =>
   rcases Za hrow with ⟨_,h0⟩ | ⟨g0,cap0,rfl,k1,k2,k3⟩;·simp at h0
   have p0:=Zl hrow (g:=g0) rfl (i:=0) (x:=a0.ptr) rfl;have hT0:=HKS.out a0 (by simp);have hb0:=hT0.blkOf;have hr0:=hT0.rowOf;have hx0:=HX.out a0.tree (by rw [← HTR.out]; simp [Z0r]);obtain ⟨b0,v0,kd0,t0,n0,l0⟩:=a0;simp only [ATree.b,ATree.v,ATree.kind,ATree.text,ATree.n,ATree.kids,ATree.ptr,List.length_cons] at hb0 hr0 p0 k1 ⊢;unfold maxLen at k2;have d0:w.cell? ⟨b0,0,none⟩=some (.int .i64 kd0):=by simp [World.cell?,hb0]
   have d3:w.cell? ⟨b0,3,none⟩=some v0:=by simp [World.cell?,hb0]
   by_cases h15:kd0=15
   ·subst h15;cases l0 with
    | nil=>exact absurd rfl (hx0 rfl)
    | cons x xs=>
    rcases Za hr0 with ⟨_,h0⟩ | ⟨g1,cap1,rfl,j1,j2,j3⟩;·simp at h0
    have p1:=Zl hr0 (g:=g1) rfl (i:=0) (x:=x.ptr) rfl;have hb1:=(hT0.kid (k:=x) (by simp [ATree.kids])).blkOf;obtain ⟨b1,v1,kd1,t1,n1,l1⟩:=x;simp only [ATree.b,ATree.v,ATree.kind,ATree.text,ATree.n,ATree.ptr,List.length_cons] at hb1 p1 j1 d3;unfold maxLen at j2;have e0:w.cell? ⟨b1,0,none⟩=some (.int .i64 kd1):=by simp [World.cell?,hb1]
    have e1:w.cell? ⟨b1,1,none⟩=some (.string t1):=by simp [World.cell?,hb1]
    have hstr:Z1p ts=(decide (kd1=18) && Z0n t1 Z0b):=by rw [← HTR.out]; rfl
    have HST:=lh hstr;clear hrow hr0 hT0 hb0 hb1 hx0 hstr HTR HX HKS;by_cases h18:kd1=18
    ·subst h18;by_cases hus : t1 = Z0b
     ·subst hus;rw [show Z0z ts = Z27 from by unfold Z0z; rw [HST.out]; simp [Z0n]];unfold Z0b at e1;go_enter Tryz.func22, Tryz.ntmps22
      go_wp2;go_ret;exact ⟨rfl,Y8 _ _⟩
     ·rw [show Z0z ts = ByteArray.empty from by unfold Z0z; rw [HST.out]; simp [Z0n, hus]];have hne : ¬ t1.toList = Z0b.toList := fun h => hus (Z2f h);have hl : Z0b.toList = [117, 115, 101, 32, 115, 116, 114, 105, 99, 116] := by rw [Lib.toList_data]; rfl
      have hne3:¬ t1.toList=[117,115,101,32,115,116,114,105,99,116]:=by rw [← hl]; exact hne
      have hne4:(t1.toList == [117,115,101,32,115,116,114,105,99,116])=false:=by simpa using hne3
      clear hus hl hne;go_enter Tryz.func22,Tryz.ntmps22
      go_wp2;go_ret;exact ⟨rfl,Y8 _ _⟩
    ·have n18 : (kd1 == 18) = false := by simpa using h18
     rw [show Z0z ts=ByteArray.empty from by unfold Z0z; rw [HST.out]; simp [h18]];clear h18;go_enter Tryz.func22,Tryz.ntmps22
     go_wp2;go_ret;exact ⟨rfl,Y8 _ _⟩
   ·have n15 : (kd0 == 15) = false := by simpa using h15
    rw [show Z0z ts=ByteArray.empty from by unfold Z0z; rw [← HTR.out]; cases l0 <;> simp [Z0r,ATree.tree,Z1p,h15]];clear hrow hr0 hT0 hb0 hx0 h15 HTR HX HKS;go_enter Tryz.func22,Tryz.ntmps22
    go_wp2;go_ret;exact ⟨rfl,Y8 _ _⟩
end Go.Proofs.YtmjfllklcpjddaaGreatDoor
