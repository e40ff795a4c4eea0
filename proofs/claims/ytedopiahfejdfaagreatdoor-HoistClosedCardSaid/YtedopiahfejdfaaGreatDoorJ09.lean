/- Package tree: declared. -/
import Derived.Test.YtedopiahfejdfaaGreatDoorJ08
namespace Go.Proofs.YtedopiahfejdfaaGreatDoor
open Go Go.RowKit
set_option maxRecDepth 100000
set_option maxHeartbeats 20000000
set_option linter.unusedVariables false
theorem Zdq (f:Nat) (kind:Int) (must:Bool) (hV:Says 84 rArg .value f) :
 Says 80 (fun rb=>#[.pointer (some ⟨rb,0,none⟩),.int .i64 kind,.bool must]) (.decl kind must) (f + 1):=by
 intro w rb B d ts r hP hp;have hw:Z13 ts (fun s ts=>if must && !isT s_eq ts then Z11 3 ts else if isT s_eq ts then Zh (Z0 f .value d ts.tail) fun x ts=>okT (.mk kind s 0 [x]) ts else okT (.mk kind s 0 []) ts)=some r:=hp;have HP:=lh hP;simp only;rcases Z1v hw with ⟨hk,h1⟩ | ⟨hk,rfl⟩
 ·have HC := lh (Z1z w rb ts d hP.rd hk);obtain ⟨s, hs⟩ := zX ((hdT ts).text)
  rw [← hs] at HC h1;have H1:=lh h1;clear hP hp hw hk h1 hs;go_enter Tryz.func80,Tryz.ntmps80
  go_wp2_with fail
  refine HC.out.mono ?_;rintro e w1 ⟨rfl,hR1,hF1⟩;have P1:=HP.out.tail hR1 hF1;have HN:=lh (Zw w1 rb kind s none 0 0);have hal:Below w1.heap.size w1 (w1.alloc (.cells #[.int .i64 kind,.string s,.int .i64 0,.slice none 0 0] 37)):=(Y2 _ _).alloc (Y0 _) _;obtain ⟨nb,hnb⟩:=zX w1.heap.size
  have G2:=Got.leaf (k:=kind) (t:=s) (n:=0) HP.out.le hF1;have P2:=P1.below hal;have F2:=hF1.trans (RFr.below (rb:=rb) hal);rw [← hnb] at G2 HN;go_wp2_with fail
  refine HN.out.mono ?_;rintro e w2 ⟨rfl,hw2⟩;rw [← hw2] at G2 P2 F2;have HNB:=lh hnb;have G2:=lh G2;have P2:=lh P2;have F2:=lh F2;clear hR1 hF1 HC P1 HN hal hnb hw2;obtain ⟨us,hus⟩:=zX ts.tail
  rw [← hus] at P2 H1;have HUS:=lh hus;clear hus;by_cases he:isT s_eq us=true
  ·have h1 := H1.out;rw [Y3 (by rw [he]; simp), Y5 he] at h1;have HI := Z27 w2 rb us d s_eq P2.out.rd;rw [he] at HI;unfold s_eq at HI;have HI := lh HI;have HE := lh he;have H2 := lh h1;clear h1 he;have key : ∀ w3, Below w2.heap.size w2 w3 → Hid (Pre w3 rb B d us ∧ Got w B w3 (.mk nb (.slice none 0 0) kind s 0 []) (.mk kind s 0 []) ∧ RFr w w3 rb) := fun w3 hB => lh ⟨P2.out.below hB, G2.out.rfr HP.out.lt (RFr.below (rb := rb) hB), F2.out.trans (RFr.below hB)⟩;have KEY := lh key;clear key;cases must
   ·have PX := lh P2.out;have GX := lh G2.out;have FX := lh F2.out;clear KEY HI;have HX := HP.out.lt;have hlt := HP.out.lt;have HT := Z05 w2 rb us d s_eq PX.out.rd HE.out;unfold s_eq at HT;have HT := lh HT;go_wp2_with fail
    refine HT.out.mono ?_;rintro e w5 ⟨rfl,hR5,hF5⟩;have P5:=PX.out.tail hR5 hF5;have G5:=GX.out.rfr hlt hF5;have F5:=FX.out.trans hF5;have hblk5:=G5.at'.blkOf;simp only [ATree.b,ATree.v,ATree.kind,ATree.text,ATree.n] at hblk5;have n3:w5.cell? ⟨nb,3,none⟩=some (.slice none 0 0):=by simp [World.cell?,hblk5]
    have P5:=lh P5;have G5:=lh G5;have F5:=lh F5;clear hR5 hF5 hblk5 HT PX GX FX;go_wp2_with fail
    refine Z1 [(true,0),(true,1),(true,2),(true,3),(true,4),(true,5),(false,6),(false,7),(false,8)] [9,10,11] (fun W=>W.cell? ⟨nb,3,none⟩=some (.slice none 0 0)) (by kernel_rfl) (by kernel_rfl) (fun _ _ d _ _ h=>by cases d <;> exact h) n3 (fun hS0=>?_);simp only [Zc,zD,zE,zF,zG,zH,zI]
    iterate 6
     first
      | (refine Z3 ?_ (by rfl) (fun w' hS'=>?_) ?_; rotate_left; (have s0:=hS'; go_simp; first | done | with_reducible rfl); simp only [Act.put,zA,zB,zC])
      | (refine Z4 (by rfl) ?_; simp only [Act.put,zA,zB,zC])
    refine Z5 (fun K hK=>?_);go_simp
    have P6:Pre w5.drew rb B d us.tail:=P5.out.below (Y2 _ _).drew;rcases Zb H2.out with ⟨⟨c,p⟩,hv,rfl⟩ | ⟨t,vs,hv,hq3⟩
    ·refine (hV w5.drew rb B d _ _ P6 hv).mono ?_;rintro e w3 ⟨⟨b,rfl,h1,h2⟩,hF3⟩;exact ⟨rfl,Zo.pre F5.out.drew (r:=.error (c,p)) ⟨⟨b,rfl,h1,h2⟩,hF3⟩⟩
    ·obtain rfl := Yc hq3;refine (hV w5.drew rb B d _ _ P6 hv).mono ?_;rintro e w3 ⟨a, rfl, hA, hR3, hF3⟩;have hF53 : RFr w5 w3 rb := (RFr.refl w5 rb).drew.trans hF3;have hN3 := G5.out.rfr hlt hF53;have hblk := hN3.at'.blkOf;simp only [ATree.b, ATree.v, ATree.kind, ATree.text, ATree.n] at hblk;have m3 : w3.cell? ⟨nb, 3, none⟩ = some (.slice none 0 0) := by simp [World.cell?, hblk]
     have mz:w3.frozen? ⟨nb,3,none⟩=false:=by simp [World.frozen?,hblk]
     have hnb3:nb < w3.heap.size:=(Y1.1 hblk).1;have hk4:([]:List ATree).length≤4000:=by simp
     have NE:Hid ((Value.slice none 0 0).ownBlock≠some nb):=lh (by simp [Value.ownBlock]);have N3:=lh hN3;have A3:=lh hA;have R3:=lh hR3;have F3:=lh (F5.out.trans hF53);refine hK _ _ m3 ?_;obtain ⟨i0,hi,hz0,hz1,hz2⟩:=info_parts Tryz.infoPtr;clear hK K hA hR3 hF3 hF53 hN3 hblk hv hq3 n3;refine Z5 (fun K hK=>?_);go_simp
     refine hK _ _ ((Zd hnb3).trans m3) ?_;clear hK K;refine Z5 (fun K hK=>?_)
     refine step_append_lies _ (by rfl) (.tmp 27) (.tmp 30) 35 (by rfl) B 22 i0 _ 1 8 Tryz.underlying35 hi hz0 hz1 hz2 rfl (by decide) (.slice none 0 0) (([]:List ATree)).length ((([]:List ATree)).map ATree.ptr) (by rfl) (N3.out.at'.rowOf.alloc _) ⟨w3.heap.size,0,none⟩ 1 1 [a.ptr] (by rfl) rfl (Ya (cs:=#[a.ptr]) (t:=22) (fr:=(0,0)) (heap_alloc_new w3 _)) (by simp [ATree.ptr,Value.oneCell']) (by decide) (by unfold maxLen; omega) (by omega) (by simp; have:=F3.out.size; have:=HP.out.le; omega) (w3.heap.size + 1) (by simp) ?_;intro gg cap w4 hown4 hgrow4 hat4 hlt4
     have m4:w4.cell? ⟨nb,3,none⟩=some (.slice none 0 0):=(hgrow4.cell_far ⟨nb,3,none⟩ (by simp; omega) (fun e=>NE.out e.symm)).trans ((Zd hnb3).trans m3);have mz4:w4.frozen? ⟨nb,3,none⟩=false:=(hgrow4.frozen_far ⟨nb,3,none⟩ (by simp; omega) (fun e=>NE.out e.symm)).trans ((Z0b hnb3).trans mz);refine hK _ _ m4 ?_;clear hK K;simp only [Act.put,zA,zB,zC]
     have hfin:=Got.push hlt HP.out.le N3.out (wA:=w5.drew) (fun x hx=>(G5.out.new x hx).2) A3.out F3.out R3.out ((Y2 _ _).alloc (Y0 _) _) hgrow4 hown4 (by rcases hat4 with h | h; (exact .inl h); (exact .inr (by omega))) hlt4;have FIN:=lh hfin;clear hgrow4 hown4 hat4 hlt4 hfin;refine Z6 ?_;go_wp2;go_ret;exact ⟨_,rfl,FIN.out.1,FIN.out.2.2,FIN.out.2.1⟩
   ·go_wp2_with fail
    refine HI.out.mono ?_;rintro e wq ⟨rfl,hBq⟩;have hk:=KEY.out wq hBq;have PX:=lh hk.out.1;have GX:=lh hk.out.2.1;have FX:=lh hk.out.2.2;clear KEY HI hBq hk P2 G2 F2;have HX:=HP.out.lt;have hlt:=HP.out.lt;have HT:=Z05 wq rb us d s_eq PX.out.rd HE.out;unfold s_eq at HT;have HT:=lh HT;go_wp2_with fail
    refine HT.out.mono ?_;rintro e w5 ⟨rfl,hR5,hF5⟩;have P5:=PX.out.tail hR5 hF5;have G5:=GX.out.rfr hlt hF5;have F5:=FX.out.trans hF5;have hblk5:=G5.at'.blkOf;simp only [ATree.b,ATree.v,ATree.kind,ATree.text,ATree.n] at hblk5;have n3:w5.cell? ⟨nb,3,none⟩=some (.slice none 0 0):=by simp [World.cell?,hblk5]
    have P5:=lh P5;have G5:=lh G5;have F5:=lh F5;clear hR5 hF5 hblk5 HT PX GX FX;go_wp2_with fail
    refine Z1 [(true,0),(true,1),(true,2),(true,3),(true,4),(true,5),(false,6),(false,7),(false,8)] [9,10,11] (fun W=>W.cell? ⟨nb,3,none⟩=some (.slice none 0 0)) (by kernel_rfl) (by kernel_rfl) (fun _ _ d _ _ h=>by cases d <;> exact h) n3 (fun hS0=>?_);simp only [Zc,zD,zE,zF,zG,zH,zI]
    iterate 6
     first
      | (refine Z3 ?_ (by rfl) (fun w' hS'=>?_) ?_; rotate_left; (have s0:=hS'; go_simp; first | done | with_reducible rfl); simp only [Act.put,zA,zB,zC])
      | (refine Z4 (by rfl) ?_; simp only [Act.put,zA,zB,zC])
    refine Z5 (fun K hK=>?_);go_simp
    have P6:Pre w5.drew rb B d us.tail:=P5.out.below (Y2 _ _).drew;rcases Zb H2.out with ⟨⟨c,p⟩,hv,rfl⟩ | ⟨t,vs,hv,hq3⟩
    ·refine (hV w5.drew rb B d _ _ P6 hv).mono ?_;rintro e w3 ⟨⟨b,rfl,h1,h2⟩,hF3⟩;exact ⟨rfl,Zo.pre F5.out.drew (r:=.error (c,p)) ⟨⟨b,rfl,h1,h2⟩,hF3⟩⟩
    ·obtain rfl := Yc hq3;refine (hV w5.drew rb B d _ _ P6 hv).mono ?_;rintro e w3 ⟨a, rfl, hA, hR3, hF3⟩;have hF53 : RFr w5 w3 rb := (RFr.refl w5 rb).drew.trans hF3;have hN3 := G5.out.rfr hlt hF53;have hblk := hN3.at'.blkOf;simp only [ATree.b, ATree.v, ATree.kind, ATree.text, ATree.n] at hblk;have m3 : w3.cell? ⟨nb, 3, none⟩ = some (.slice none 0 0) := by simp [World.cell?, hblk]
     have mz:w3.frozen? ⟨nb,3,none⟩=false:=by simp [World.frozen?,hblk]
     have hnb3:nb < w3.heap.size:=(Y1.1 hblk).1;have hk4:([]:List ATree).length≤4000:=by simp
     have NE:Hid ((Value.slice none 0 0).ownBlock≠some nb):=lh (by simp [Value.ownBlock]);have N3:=lh hN3;have A3:=lh hA;have R3:=lh hR3;have F3:=lh (F5.out.trans hF53);refine hK _ _ m3 ?_;obtain ⟨i0,hi,hz0,hz1,hz2⟩:=info_parts Tryz.infoPtr;clear hK K hA hR3 hF3 hF53 hN3 hblk hv hq3 n3;refine Z5 (fun K hK=>?_);go_simp
     refine hK _ _ ((Zd hnb3).trans m3) ?_;clear hK K;refine Z5 (fun K hK=>?_)
     refine step_append_lies _ (by rfl) (.tmp 27) (.tmp 30) 35 (by rfl) B 22 i0 _ 1 8 Tryz.underlying35 hi hz0 hz1 hz2 rfl (by decide) (.slice none 0 0) (([]:List ATree)).length ((([]:List ATree)).map ATree.ptr) (by rfl) (N3.out.at'.rowOf.alloc _) ⟨w3.heap.size,0,none⟩ 1 1 [a.ptr] (by rfl) rfl (Ya (cs:=#[a.ptr]) (t:=22) (fr:=(0,0)) (heap_alloc_new w3 _)) (by simp [ATree.ptr,Value.oneCell']) (by decide) (by unfold maxLen; omega) (by omega) (by simp; have:=F3.out.size; have:=HP.out.le; omega) (w3.heap.size + 1) (by simp) ?_;intro gg cap w4 hown4 hgrow4 hat4 hlt4
     have m4:w4.cell? ⟨nb,3,none⟩=some (.slice none 0 0):=(hgrow4.cell_far ⟨nb,3,none⟩ (by simp; omega) (fun e=>NE.out e.symm)).trans ((Zd hnb3).trans m3);have mz4:w4.frozen? ⟨nb,3,none⟩=false:=(hgrow4.frozen_far ⟨nb,3,none⟩ (by simp; omega) (fun e=>NE.out e.symm)).trans ((Z0b hnb3).trans mz);refine hK _ _ m4 ?_;clear hK K;simp only [Act.put,zA,zB,zC]
     have hfin:=Got.push hlt HP.out.le N3.out (wA:=w5.drew) (fun x hx=>(G5.out.new x hx).2) A3.out F3.out R3.out ((Y2 _ _).alloc (Y0 _) _) hgrow4 hown4 (by rcases hat4 with h | h; (exact .inl h); (exact .inr (by omega))) hlt4;have FIN:=lh hfin;clear hgrow4 hown4 hat4 hlt4 hfin;refine Z6 ?_;go_wp2;go_ret;exact ⟨_,rfl,FIN.out.1,FIN.out.2.2,FIN.out.2.1⟩
  ·have he' : isT s_eq us = false := by simpa using he
   have h1:=H1.out;cases must
   ·rw [Y3 (by simp), Y3 he] at h1;obtain rfl := Yc h1;have HT := Z0m w2 rb us d s_eq P2.out.rd he';unfold s_eq at HT;have HT := lh HT;clear h1 he he' H1;go_wp2_with fail
    refine HT.out.mono ?_;rintro e w3 ⟨rfl,hB3⟩;have R3:=lh (P2.out.rd.below hB3);have G3:=lh (G2.out.rfr HP.out.lt (RFr.below (rb:=rb) hB3));have F3:=lh (F2.out.trans (RFr.below (rb:=rb) hB3));clear hB3;go_wp2;go_ret;exact ⟨_,rfl,G3.out,R3.out,F3.out⟩
   ·rw [Y5 (by rw [he']; rfl)] at h1;obtain rfl := Yc h1;have HI := Z27 w2 rb us d s_eq P2.out.rd;rw [he'] at HI;unfold s_eq at HI;have HI := lh HI;clear h1 he he' H1;go_wp2_with fail
    refine HI.out.mono ?_;rintro e w3 ⟨rfl,hB3⟩;have HF:=lh (Z1e w3 rb us d 3 (P2.out.rd.below hB3));have F3:=lh (F2.out.trans (RFr.below (rb:=rb) hB3));clear hB3;go_wp2_with fail
    refine HF.out.mono ?_;rintro e w4 ⟨⟨b,rfl,h1,h2⟩,hB⟩;exact ⟨rfl,Zo.err F3.out ⟨b,rfl,h1,h2⟩ hB⟩
 ·have HC := lh (Z3s w rb ts d hP.rd hk);clear hP hp hw hk;go_enter Tryz.func80, Tryz.ntmps80
  go_wp2_with fail
  refine HC.out.mono ?_;rintro e w3 ⟨⟨b,rfl,h1,h2⟩,hB⟩;exact ⟨rfl,Zo.err (RFr.refl _ _) ⟨b,rfl,h1,h2⟩ hB⟩
theorem Z9q (f:Nat) (hBn:Says 107 (fun rb=>#[.pointer (some ⟨rb,0,none⟩),.int .i64 0]) (.bin 0) f) (hV:Says 84 rArg .value f) :
 Says 101 rArg .assign (f + 1):=by
 intro w rb B d ts r hP hp;have hw:Zh (Z0 f (.bin 0) d ts) (fun x ts'=>if isT s_eq ts' then (if x.kind=23∨x.kind=36 then Zh (Z0 f .value d ts'.tail) fun y ts=>okT (.mk 24 ByteArray.empty 0 [x,y]) ts else some (.error (1,(hdT ts).at'))) else okT x ts')=some r:=hp;have HP:=lh hP;obtain ⟨tb,off,cap,h⟩:=hP.rd;have c0:=h.c0;have t3:=h.hd (j:=3) rfl;have hpos:=h.pos;have hm:=h.most;have hle:=h.le;unfold maxLen at hm;obtain ⟨n,hn⟩:=zX ts.length
 rw [← hn] at c0 hpos hle;have H1:=lh hw;unfold rArg;obtain ⟨pl,hpl⟩:=zX ((hdT ts).at')
 rw [← hpl] at t3;have HPL:=lh hpl;clear hP hp hw h hn hpl;have hlt:=HP.out.lt;rcases Zb H1.out with ⟨⟨c,p⟩,hv,rfl⟩ | ⟨t,us,hv,h2⟩
 ·have HV := lh (hBn w rb B d _ _ HP.out hv);clear hv;go_enter Tryz.func101, Tryz.ntmps101
  go_wp2_with fail
  refine HV.out.mono ?_;rintro e w2 ⟨⟨b,rfl,h1,h2⟩,hF⟩;exact ⟨rfl,⟨b,rfl,h1,h2⟩,hF⟩
 ·have HV := lh (hBn w rb B d _ _ HP.out hv);have hl := Z08 hv;have H2 := lh h2;clear hv h2;go_enter Tryz.func101, Tryz.ntmps101
  go_wp2_with fail
  refine HV.out.mono ?_;rintro e w2 ⟨a,rfl,hG,hR2,hF2⟩;have hblk:=hG.at'.blkOf;have d0:w2.cell? ⟨a.b,0,none⟩=some (.int .i64 a.kind):=by simp [World.cell?,hblk]
  have hka:a.kind=t.kind:=by rw [← hG.tree]; cases a; rfl
  have HKA:=lh hka;have P2:=lh (HP.out.next hR2 hF2 hl);have G2:=lh hG;have F2:=lh hF2;obtain ⟨ab,hab⟩:=zX a.b
  obtain ⟨ak,hak⟩:=zX a.kind
  have hal:=G2.out.at'.lt;rw [← hab] at d0 hal ⊢;rw [← hak] at d0;have HAB:=lh hab;have HAK:=lh hak;clear hR2 hF2 hG HV hl hblk hka hab hak c0 t3;by_cases he:isT s_eq us=true
  ·have h3 := H2.out;rw [Y5 he] at h3;have HI := Z27 w2 rb us d s_eq P2.out.rd;rw [he] at HI;unfold s_eq at HI;have HI := lh HI;have HE := lh he;clear he;go_wp2_with fail
   refine HI.out.mono ?_;rintro e w3 ⟨rfl,hB3⟩;have P3:=lh (P2.out.below hB3);have G3:=lh (G2.out.rfr hlt (RFr.below (rb:=rb) hB3));have F3:=lh (F2.out.trans (RFr.below (rb:=rb) hB3));have d0':=(hB3.cell (p:=⟨ab,0,none⟩) hal).trans d0;clear hB3 HI;by_cases hk:t.kind=23∨t.kind=36
   ·rw [Y5 hk] at h3;have H3 := lh h3;clear h3;have HT := Z05 w3 rb us d s_eq P3.out.rd HE.out;unfold s_eq at HT;have HT := lh HT;have hak2 : ak = 23 ∨ ak = 36 := by rw [HAK.out, HKA.out]; exact hk
    clear hk;rcases hak2 with rfl | rfl
    all_goals
     go_wp2_with fail
     refine HT.out.mono ?_;rintro e w5 ⟨rfl,hR5,hF5⟩;have P5:=P3.out.tail hR5 hF5;have G5:=lh (G3.out.rfr hlt hF5);have F5:=lh (F3.out.trans hF5);rcases Zb H3.out with ⟨⟨c,p⟩,hv,rfl⟩ | ⟨y,vs,hv,h4⟩
     ·have HV := lh (hV w5 rb B d _ _ P5 hv);clear hv hR5 hF5;go_wp2_with fail
      refine HV.out.mono ?_;rintro e w6 ⟨⟨b,rfl,h1,h2⟩,hF⟩;exact ⟨rfl,Zo.pre F5.out (r:=.error (c,p)) ⟨⟨b,rfl,h1,h2⟩,hF⟩⟩
     ·obtain rfl := Yc h4;have HV := lh (hV w5 rb B d _ _ P5 hv);clear hv hR5 hF5 h4;go_wp2_with fail
      refine HV.out.mono ?_;rintro e w6 ⟨c,rfl,hC,hR6,hF6⟩;have G6:=G5.out.rfr hlt hF6;have FIN:=lh (Got.two (k:=24) (t:=⟨#[]⟩) HP.out.le (F5.out.trans hF6) G6 (wA:=w5) (fun x hx=>(G5.out.new x hx).2) F5.out.size hC);have hb1:Below w6.heap.size w6 (w6.alloc (.cells #[.pointer (some ⟨ab,0,none⟩),.pointer (some ⟨c.b,0,none⟩)] 22)):=(Y2 _ _).alloc (Y0 _) _
      have hb2:Below w6.heap.size w6 ((w6.alloc (.cells #[.pointer (some ⟨ab,0,none⟩),.pointer (some ⟨c.b,0,none⟩)] 22)).alloc (.cells #[.int .i64 24,.string ⟨#[]⟩,.int .i64 0,.slice (some ⟨w6.heap.size,0,none⟩) 2 2] 37)):=hb1.alloc (by simp) _;have R6:=lh (hR6.below hb2);have F6:=lh ((F5.out.trans hF6).trans (RFr.below (rb:=rb) hb2));clear hC hR6 hF6 G6 HV hb1 hb2;go_wp2_with fail
      refine (Zw _ rb 24 ⟨#[]⟩ _ 2 2).mono ?_;rintro e w7 ⟨rfl,rfl⟩;go_wp2;go_ret;refine ⟨.mk (w6.heap.size + 1) (.slice (some ⟨w6.heap.size,0,none⟩) 2 2) 24 ⟨#[]⟩ 0 [a,c],rfl,?_,R6.out,F6.out⟩;rw [HAB.out];exact FIN.out
   ·rw [Y3 hk] at h3;obtain rfl := Yc h3;have n23 : (ak != 23) = true := by rw [HAK.out, HKA.out]; simp; omega
    have n36:(ak != 36)=true:=by rw [HAK.out,HKA.out]; simp; omega
    clear h3 hk;go_wp2;refine ⟨rfl,?_⟩;rw [← HPL.out];exact Zo.err F3.out (Z7x (Y0 _)) ((Y2 _ _).alloc (Y0 _) _)
  ·have he' : isT s_eq us = false := by simpa using he
   have h3:=H2.out;rw [Y3 he] at h3;obtain rfl:=Yc h3;have HI:=Z27 w2 rb us d s_eq P2.out.rd;rw [he'] at HI;unfold s_eq at HI;have HI:=lh HI;clear h3 he he';go_wp2_with fail
   refine HI.out.mono ?_;rintro e w3 ⟨rfl,hB3⟩;have R3:=lh (P2.out.rd.below hB3);have G3:=lh (G2.out.rfr hlt (RFr.below (rb:=rb) hB3));have F3:=lh (F2.out.trans (RFr.below (rb:=rb) hB3));clear hB3;go_wp2;go_ret;rw [HAB.out];exact ⟨a,rfl,G3.out,R3.out,F3.out⟩
theorem Z4e (w0 w:World) (rb B d:Nat) (ts:List Tok) (a:ATree) (t:Tree) (r:Except (Int×Nat) (Tree×List Tok)) (hP:Pre w rb B d ts) (hG:Got w0 B w a t) (hF:RFr w0 w rb) (hr:endT t ts=some r) :
 Calls Tryz.prog 79 #[.pointer (some ⟨rb,0,none⟩),.pointer (some ⟨a.b,0,none⟩)] w (Zo w0 rb B d r):=by
 have HP:=lh hP;have HG:=lh hG;have HF:=lh hF;rcases Z0s hr with ⟨hs,h1⟩ | ⟨hs,rfl⟩
 ·obtain rfl := Yc h1;have HC := lh (Z0w w rb ts d Zk hP.rd hs);clear hP hG hF hr hs h1;go_enter Tryz.func79, Tryz.ntmps79
  go_wp2_with fail
  refine HC.out.mono ?_;rintro e w3 ⟨rfl,hR3,hF3⟩;have R3:=lh hR3;have F3:=lh hF3;clear hR3 hF3 HC;go_wp2;go_ret;exact ⟨a,rfl,HG.out.rfr HP.out.lt F3.out,R3.out,HF.out.trans F3.out⟩
 ·have HC := lh (Z1n w rb ts d Zk hP.rd hs);clear hP hG hF hr hs;go_enter Tryz.func79, Tryz.ntmps79
  go_wp2_with fail
  refine HC.out.mono ?_;rintro e w3 ⟨⟨b,rfl,h1,h2⟩,hB⟩;exact ⟨rfl,Zo.err HF.out ⟨b,rfl,h1,h2⟩ hB⟩
def Zcq (f d:Nat) (kind:Int) (text:ByteArray) (p:Tree) (ts:List Tok):PR:=Z00 Z0p ts fun ts=>Zh (Z0 f (.block true) d ts) fun b ts=>okT (.mk kind text 0 [p,b]) ts
theorem Z6v {ts:List Tok} {k:ByteArray→List Tok→PR} {kk:Tree→List Tok→PR} {r:Except (Int×Nat) (Tree×List Tok)} (h:Zh (Z13 ts k) kk=some r):((hdT ts).kind=1∧Zh (k (hdT ts).text ts.tail) kk=some r)∨((hdT ts).kind≠1∧r=.error (3,(hdT ts).at')):=by
 unfold Z13 at h;by_cases hk:(hdT ts).kind=1;·rw [Y5 hk] at h; exact .inl ⟨hk,h⟩
 ·rw [Y3 hk] at h; exact .inr ⟨hk,(Yc h).symm⟩
theorem Z4z {ts:List Tok} (h:(hdT ts).kind=1):0 < ts.length:=by
 cases ts with
 | nil=>simp [hdT] at h
 | cons t l=>simp
def Zby (g f d:Nat) (kind:Int) (text:ByteArray) (acc:List Tree) (us:List Tok):PR:=Zh (if acc.length=8 then Z11 4 us else Z13 us fun s ts=>Z0 g (.params (acc ++ [.mk 23 s 0 []])) d ts) (Zcq f d kind text)
theorem Zc4 (F:Nat) (kind:Int) (text:ByteArray) (hB:Says 77 (fun rb=>#[.pointer (some ⟨rb,0,none⟩),.bool true]) (.block true) F) :
 Says 81 (fun rb=>#[.pointer (some ⟨rb,0,none⟩),.int .i64 kind,.string text]) (.func kind text) (F + 1):=by
 intro w rb B d ts r hP hp;have hw:Z00 Z0q ts (fun ts=>Zh (Z0 F (.params []) d ts) (Zcq F d kind text))=some r:=hp;have HP:=lh hP;have HBL:=lh hB;simp only;rcases Z0s hw with ⟨hs,h1⟩ | ⟨hs,rfl⟩
 ·have HC := lh (Z0w w rb ts d Z0q hP.rd hs);have H1 := lh h1;clear hP hp hw hs h1 hB;go_enter Tryz.func81, Tryz.ntmps81
  go_wp2_with fail
  refine HC.out.mono ?_;rintro e w1 ⟨rfl,hR1,hF1⟩;have P1:=lh (HP.out.tail hR1 hF1);have HN:=lh (Zw w1 rb 40 ⟨#[]⟩ none 0 0);obtain ⟨nb,hnb⟩:=zX w1.heap.size
  have G0:=Got.leaf (k:=40) (t:=⟨#[]⟩) (n:=0) HP.out.le hF1;have hal:Below w1.heap.size w1 (w1.alloc (.cells #[.int .i64 40,.string ⟨#[]⟩,.int .i64 0,.slice none 0 0] 37)):=(Y2 _ _).alloc (Y0 _) _;have R0:=hR1.below hal;have F0:=hF1.trans (RFr.below (rb:=rb) hal);rw [← hnb] at G0 HN;obtain ⟨us0,hus0⟩:=zX ts.tail
  have hul:us0.length≤ts.length:=by rw [hus0]; simp
  rw [← hus0] at R0 H1;clear hus0;go_wp2_with fail
  refine HN.out.mono ?_;rintro e w2 ⟨rfl,hw2⟩;rw [← hw2] at G0 R0 F0;have hst:∃ (g:Nat) (acc:List Tree) (us:List Tok) (v:Value) (kids:List ATree),g≤F∧Zh (Z0 g (.params acc) d us) (Zcq F d kind text)=some r∧Got w B w2 (.mk nb v 40 ⟨#[]⟩ 0 kids) (.mk 40 ⟨#[]⟩ 0 acc)∧Rd w2 rb us d∧RFr w w2 rb∧acc.length≤8∧us.length≤ts.length:=
   ⟨F,[],us0,_,[],Y0 _,H1.out,G0,R0,F0,by simp,hul⟩
  have ST:=lh hst;have HNB:=lh hnb;clear hst hw2 G0 R0 F0 HC HN hnb hF1 hR1 P1 H1 hal hul;go_wp2_with fail
  go_loopw [] (fun wr=>∃ (g:Nat) (acc:List Tree) (us:List Tok) (v:Value) (kids:List ATree),g≤F∧Zh (Z0 g (.params acc) d us) (Zcq F d kind text)=some r∧Got w B wr (.mk nb v 40 ⟨#[]⟩ 0 kids) (.mk 40 ⟨#[]⟩ 0 acc)∧Rd wr rb us d∧RFr w wr rb∧acc.length≤8∧us.length≤ts.length) (fun wr=>leftOf wr rb)
  case atStart=>exact ST.out
  case round=>
   obtain ⟨g,acc,us,v,kids,hg,hq,hG,hR,hF,hl,hu⟩:=hrel;have G:=lh hG;have R:=lh hR;have FF:=lh hF;have RL:=lh hR.left;cases g with
   | zero=>cases hq
   | succ g=>
   rw [Z0] at hq;have HB:=Z27 wr rb us d Z0p hR;by_cases hb:isT Z0p us=true
   ·rw [hb] at HB;rw [Y5 hb] at hq;have hq : Zcq F d kind text (.mk 40 ByteArray.empty 0 acc) us = some r := hq;have HB := lh HB;have HQ := lh hq;have HI := lh hb;unfold Z0p at HB;clear hG hR hF hq hb ST;go_wp2_with fail
    refine HB.out.mono ?_;rintro e w3 ⟨rfl,hB3⟩;have hlt:=HP.out.lt;have F3:=FF.out.trans (RFr.below (rb:=rb) hB3);have G3:=G.out.rfr hlt (RFr.below (rb:=rb) hB3);have R3:=R.out.below hB3;have P3:Pre w3 rb B d us:=⟨R3,HP.out.deep,hlt,Y4 HP.out.le F3.size,Y4 hu HP.out.few⟩
    have HC:=Z0w w3 rb us d Z0p R3 HI.out;unfold Z0p at HC;have HC:=lh HC;have F3:=lh F3;have G3:=lh G3;have P3:=lh P3;obtain ⟨_,h3⟩:isT Z0p us=true∧Zh (Z0 F (.block true) d us.tail) (fun b ts=>okT (.mk kind text 0 [.mk 40 ByteArray.empty 0 acc,b]) ts)=some r:=by
     rcases Z0s HQ.out with h | ⟨hs,_⟩;·exact h
     ·rw [HI.out] at hs; cases hs
    have H3:=lh h3;clear hB3 R3 h3 FF G R HB HQ;go_wp2_with fail
    refine HC.out.mono ?_;rintro e w4 ⟨rfl,hR4,hF4⟩;have P4:=lh (P3.out.tail hR4 hF4);have F4:=lh (F3.out.trans hF4);have G4:=lh (G3.out.rfr hlt hF4);clear hR4 hF4 HC F3 G3;rcases Zb H3.out with ⟨⟨c,p⟩,hv,rfl⟩ | ⟨t,ts2,hv,h4⟩
    ·have HV := lh (HBL.out w4 rb B d _ _ P4.out hv);clear hv;go_wp2_with fail
     refine HV.out.mono ?_;rintro e w5 ⟨⟨b,rfl,h1,h2⟩,hF⟩;exact ⟨rfl,Zo.pre F4.out (r:=.error (c,p)) ⟨⟨b,rfl,h1,h2⟩,hF⟩⟩
    ·have HV := lh (HBL.out w4 rb B d _ _ P4.out hv);obtain rfl := Yc h4;clear hv;go_wp2_with fail
     refine HV.out.mono ?_;rintro e w5 ⟨a,rfl,hG5,hR5,hF5⟩;have G5:=lh hG5;have R5:=lh hR5;have F5:=lh hF5;clear hG5 hR5 hF5 HV;have HN:=lh (Zw (w5.alloc (.cells #[.pointer (some ⟨nb,0,none⟩),.pointer (some ⟨a.b,0,none⟩)] 22)) rb kind text (some ⟨w5.heap.size,0,none⟩) 2 2);go_wp2_with fail
     refine HN.out.mono ?_;rintro e w6 ⟨rfl,hw6⟩;have hfin:=Got.two (k:=kind) (t:=text) HP.out.le (F4.out.trans F5.out) (G4.out.rfr hlt F5.out) (wA:=w4) (fun x hx=>(G4.out.new x hx).2) F4.out.size G5.out;have hal6:=((Y2 w5.heap.size w5).alloc (Y0 _) (.cells #[.pointer (some ⟨nb,0,none⟩),.pointer (some ⟨a.b,0,none⟩)] 22))
     have hR6:Rd w6 rb ts2 d:=by rw [hw6]; exact (R5.out.below hal6).below ((Y2 _ _).alloc (Y0 _) _)
     have hF6:RFr w w6 rb:=by rw [hw6]; exact ((F4.out.trans F5.out).trans (RFr.below hal6)).trans (RFr.below ((Y2 _ _).alloc (Y0 _) _))
     have FIN:=lh hfin;have HW6:=lh hw6;have R6:=lh hR6;have F6:=lh hF6;clear hfin hw6 hR6 hF6 hal6 HN;go_wp2;go_ret;refine ⟨_,?pt,(by rw [HW6.out]; exact FIN.out),R6.out,F6.out⟩;case pt=>simp [ATree.b]
   ·have hb' : isT Z0p us = false := by simpa using hb
    rw [hb'] at HB;rw [Y3 hb] at hq;have HB:=lh HB;have HQ:=lh hq;unfold Z0p at HB;have hkl:kids.length=acc.length:=by
     have:=hG.tree;simp only [ATree.tree,Tree.mk.injEq,true_and] at this;rw [← this,Z20,Ym]
    have HKL:=lh hkl;clear hG hR hF hq hb hb' ST hkl;go_wp2_with fail
    refine HB.out.mono ?_;rintro e w3 ⟨rfl,hB3⟩;have hlt:=HP.out.lt;have F3:=FF.out.trans (RFr.below (rb:=rb) hB3);have G3:=G.out.rfr hlt (RFr.below (rb:=rb) hB3);have R3:=R.out.below hB3;have P3:Pre w3 rb B d us:=⟨R3,HP.out.deep,hlt,Y4 HP.out.le F3.size,Y4 hu HP.out.few⟩
    obtain ⟨p,cp,rfl⟩:∃ p cp,v=.slice p kids.length cp:=by
     rcases Z8 G3.at'.rowOf with ⟨h1,h2⟩ | ⟨g0,cap0,h1,_⟩
     ·simp only [ATree.v,ATree.kids] at h1 h2;exact ⟨none,0,by rw [h1,h2]⟩
     ·exact ⟨_,_,h1⟩
    have hblk:=G3.at'.blkOf;simp only [ATree.b,ATree.v,ATree.kind,ATree.text,ATree.n] at hblk;have n3:w3.cell? ⟨nb,3,none⟩=some (.slice p kids.length cp):=by simp [World.cell?,hblk]
    have F3:=lh F3;have G3:=lh G3;have P3:=lh P3;have HU:=lh hu;have HL:=lh hl;clear hB3 R3 FF G R HB hblk hu hl;by_cases h0:acc.length=0
    ·have a0 : decide (0 < kids.length) = false := by have := HKL.out; simp; exact List.eq_nil_of_length_eq_zero (by omega)
     have hq2:Zby g F d kind text acc us=some r:=by have h:=HQ.out; rw [Y3 (by omega)] at h; exact h
     have h8:¬ acc.length=8:=by omega
     have PQ:=lh (show Pre w3 rb B d us∧us.length≤ts.length from ⟨P3.out,HU.out⟩);have GQ:=G3;have FQ:=F3;have PL:=lh (Y0 us.length);clear HQ;have n8:((kids.length:Int) == 8)=false:=by have:=HKL.out; simp; omega
     have HQ2:=hq2;unfold Zby at HQ2;rw [Y3 h8] at HQ2;have HQ2:=lh HQ2;clear hq2;go_wp2_with fail
     refine Z1 [(true,0),(true,1),(true,2),(true,3),(true,4),(true,5),(true,6),(false,7),(false,8),(false,9),(false,10)] [11,12,13] (fun W=>W.cell? ⟨nb,3,none⟩=some (.slice p kids.length cp)) (by kernel_rfl) (by kernel_rfl) (fun _ _ d _ _ h=>by cases d <;> exact h) n3 (fun hS0=>?_);simp only [Zc,zD,zE,zF,zG,zH,zI]
     iterate 7
      first
       | (refine Z3 ?_ (by rfl) (fun w' hS'=>?_) ?_; rotate_left; (have s0:=hS'; go_simp; first | done | with_reducible rfl); simp only [Act.put,zA,zB,zC])
       | (refine Z4 (by rfl) ?_; simp only [Act.put,zA,zB,zC])
     refine Z5 (fun K hK=>?_);go_simp
     have hus:us.length≤ts.length:=PQ.out.2;rcases Z6v HQ2.out with ⟨hk,h1⟩ | ⟨hk,rfl⟩
     ·refine (Z1z w3.drew rb us d PQ.out.1.rd.drew hk).mono ?_;rintro e wa ⟨rfl, hRa, hFa⟩;have hFwa : RFr w3 wa rb := (RFr.refl w3 rb).drew.trans hFa;have hNa := GQ.out.rfr hlt hFwa;have hblk := hNa.at'.blkOf;simp only [ATree.b, ATree.v, ATree.kind, ATree.text, ATree.n] at hblk;have m3 : wa.cell? ⟨nb, 3, none⟩ = some (.slice p kids.length cp) := by simp [World.cell?, hblk]
      refine hK _ _ m3 ?_;clear hK K;refine Z5 (fun K hK=>?_);go_simp
      have hala:Below wa.heap.size wa (wa.alloc (.cells #[.int .i64 23,.string (hdT us).text,.int .i64 0,.slice none 0 0] 37)):=(Y2 _ _).alloc (Y0 _) _;have hA:=Got.leaf (w0:=wa) (w:=wa) (rb:=rb) (B:=B) (k:=23) (t:=(hdT us).text) (n:=0) (Y4 HP.out.le (FQ.out.trans hFwa).size) (RFr.refl _ _);refine (Zw wa rb 23 (hdT us).text none 0 0).mono ?_;rintro e w3' ⟨rfl,hw3'⟩;rw [← hw3'] at hA hala;have hF23:RFr w3 w3' rb:=hFwa.trans (RFr.below hala);have hN3:=hNa.rfr hlt (RFr.below (rb:=rb) hala);have hR3:=hRa.below hala
      have hblk:=hN3.at'.blkOf;simp only [ATree.b,ATree.v,ATree.kind,ATree.text,ATree.n] at hblk;have m3:w3'.cell? ⟨nb,3,none⟩=some (.slice p kids.length cp):=by simp [World.cell?,hblk]
      have mz:w3'.frozen? ⟨nb,3,none⟩=false:=by simp [World.frozen?,hblk]
      have hnb3:nb < w3'.heap.size:=(Y1.1 hblk).1;have hnd:=hN3.nodup;simp only [ATree.blocks,List.nodup_cons,List.mem_append,Option.mem_toList,not_or] at hnd;have hne:=hnd.1.1;have hk4:kids.length≤8:=by have:=HKL.out; have:=HL.out; omega
      obtain ⟨a,ha⟩:∃ a:ATree,a=.mk wa.heap.size (.slice none 0 0) 23 (hdT us).text 0 []:=⟨_,rfl⟩
      rw [← ha] at hA;have hap:Value.pointer (some ⟨wa.heap.size,0,none⟩)=.pointer (some ⟨a.b,0,none⟩):=by rw [ha]; rfl
      rw [hap];clear ha hap;have N3:=lh hN3;have A3:=lh hA;have R3:=lh hR3;have F3':=lh (FQ.out.trans hF23);have NE:=lh hne;have NA:=lh (fun x hx=>(hNa.new x hx).2);have HQ3:=lh h1;refine hK _ _ m3 ?_;obtain ⟨i0,hi,hz0,hz1,hz2⟩:=info_parts Tryz.infoPtr;clear hK K hA hR3 hF23 hN3 hblk hnd hne h1 n3 hFa hFwa hNa hRa hala hw3';refine Z5 (fun K hK=>?_);go_simp
      refine hK _ _ ((Zd hnb3).trans m3) ?_;clear hK K;refine Z5 (fun K hK=>?_)
      refine step_append_lies _ (by rfl) (.tmp 35) (.tmp 40) 35 (by rfl) B 22 i0 _ 1 8 Tryz.underlying35 hi hz0 hz1 hz2 rfl (by decide) (.slice p kids.length cp) kids.length (kids.map ATree.ptr) (by rfl) (N3.out.at'.rowOf.alloc _) ⟨w3'.heap.size,0,none⟩ 1 1 [a.ptr] (by rfl) rfl (Ya (cs:=#[a.ptr]) (t:=22) (fr:=(0,0)) (heap_alloc_new w3' _)) (by simp [ATree.ptr,Value.oneCell']) (by decide) (by unfold maxLen; omega) (by omega) (by simp; have:=F3'.out.size; have:=HP.out.le; omega) (w3'.heap.size + 1) (by simp) ?_;intro gg cap w4 hown4 hgrow4 hat4 hlt4
      have m4:w4.cell? ⟨nb,3,none⟩=some (.slice p kids.length cp):=(hgrow4.cell_far ⟨nb,3,none⟩ (by simp; omega) (fun e=>NE.out e.symm)).trans ((Zd hnb3).trans m3);have mz4:w4.frozen? ⟨nb,3,none⟩=false:=(hgrow4.frozen_far ⟨nb,3,none⟩ (by simp; omega) (fun e=>NE.out e.symm)).trans ((Z0b hnb3).trans mz);refine hK _ _ m4 ?_;clear hK K;simp only [Act.put,zA,zB,zC]
      have hfin:=Got.push hlt HP.out.le N3.out (wA:=wa) NA.out A3.out F3'.out R3.out ((Y2 _ _).alloc (Y0 _) _) hgrow4 hown4 (by rcases hat4 with h | h; (exact .inl h); (exact .inr (by omega))) hlt4;have FIN:=lh hfin;clear hgrow4 hown4 hat4 hlt4 hfin;refine Z6 ?_;go_wp2;go_roundw
      case rel=>
       refine ⟨g,acc ++ [.mk 23 (hdT us).text 0 []],us.tail,.slice (some ⟨gg,0,none⟩) (kids.length + 1) cap,kids ++ [a],by omega,HQ3.out,?_,FIN.out.2.2,FIN.out.2.1,by have:=HL.out; simp; omega,by rw [List.length_tail]; omega⟩;have h1:=FIN.out.1;have h2:=GQ.out.tree;simp only [ATree.tree,Tree.mk.injEq,true_and] at h2;rw [h2] at h1;exact h1
      case measure=>
       rw [FIN.out.2.2.left,RL.out];exact Y7 (by have:=Z4z hk; rw [List.length_tail]; omega) PL.out
     ·refine (Z3s w3.drew rb us d PQ.out.1.rd.drew hk).mono ?_;rintro e w9 ⟨⟨b,rfl,h1,h2⟩,hB⟩;exact ⟨rfl,Zo.err FQ.out.drew ⟨b,rfl,h1,h2⟩ hB⟩
    ·have a0 : decide (0 < kids.length) = true := by have := HKL.out; simp; omega
     have hq1:=HQ.out;rw [Y5 (by omega)] at hq1;by_cases hc:isT Z07 us=true
     ·have hq2 : Zby g F d kind text acc us.tail = some r := by rw [Z00, Y5 hc] at hq1; exact hq1
      have HC:=Z0w w3 rb us d Z07 P3.out.rd hc;unfold Z07 at HC;have HC:=lh HC;clear hq1 hc HQ;go_wp2_with fail
      refine HC.out.mono ?_;rintro e w4q ⟨rfl,hR4,hF4⟩;have PQ:=lh (show Pre w4q rb B d us.tail∧us.tail.length≤ts.length from ⟨P3.out.tail hR4 hF4,by have:=HU.out; rw [List.length_tail]; omega⟩);have GQ:=lh (G3.out.rfr hlt hF4);have FQ:=lh (F3.out.trans hF4);have PL:=lh (show us.tail.length≤us.length by rw [List.length_tail]; omega);have hblk:=GQ.out.at'.blkOf;simp only [ATree.b,ATree.v,ATree.kind,ATree.text,ATree.n] at hblk;clear n3;have n3:w4q.cell? ⟨nb,3,none⟩=some (.slice p kids.length cp):=by simp [World.cell?,hblk]
      clear hR4 hF4 HC hblk F3 G3 P3;by_cases h8:acc.length=8
      ·have n8 : ((kids.length : Int) == 8) = true := by have := HKL.out; simp; omega
       have hr:r=.error (4,(hdT us.tail).at'):=by
        unfold Zby at hq2;rw [Y5 h8] at hq2;exact (Yc hq2).symm
       subst hr;have HE:=lh (Z1e w4q rb us.tail d 4 PQ.out.1.rd);clear hq2;go_wp2_with fail
       refine HE.out.mono ?_;rintro e w9 ⟨⟨b,rfl,h1,h2⟩,hB⟩;exact ⟨rfl,Zo.err FQ.out ⟨b,rfl,h1,h2⟩ hB⟩
      ·skip
       have n8:((kids.length:Int) == 8)=false:=by have:=HKL.out; simp; omega
       have HQ2:=hq2;unfold Zby at HQ2;rw [Y3 h8] at HQ2;have HQ2:=lh HQ2;clear hq2;go_wp2_with fail
       refine Z1 [(true,0),(true,1),(true,2),(true,3),(true,4),(true,5),(true,6),(false,7),(false,8),(false,9),(false,10)] [11,12,13] (fun W=>W.cell? ⟨nb,3,none⟩=some (.slice p kids.length cp)) (by kernel_rfl) (by kernel_rfl) (fun _ _ d _ _ h=>by cases d <;> exact h) n3 (fun hS0=>?_);simp only [Zc,zD,zE,zF,zG,zH,zI]
       iterate 7
        first
         | (refine Z3 ?_ (by rfl) (fun w' hS'=>?_) ?_; rotate_left; (have s0:=hS'; go_simp; first | done | with_reducible rfl); simp only [Act.put,zA,zB,zC])
         | (refine Z4 (by rfl) ?_; simp only [Act.put,zA,zB,zC])
       refine Z5 (fun K hK=>?_);go_simp
       have hus:us.tail.length≤ts.length:=PQ.out.2;rcases Z6v HQ2.out with ⟨hk,h1⟩ | ⟨hk,rfl⟩
       ·refine (Z1z w4q.drew rb us.tail d PQ.out.1.rd.drew hk).mono ?_;rintro e wa ⟨rfl, hRa, hFa⟩;have hFwa : RFr w4q wa rb := (RFr.refl w4q rb).drew.trans hFa;have hNa := GQ.out.rfr hlt hFwa;have hblk := hNa.at'.blkOf;simp only [ATree.b, ATree.v, ATree.kind, ATree.text, ATree.n] at hblk;have m3 : wa.cell? ⟨nb, 3, none⟩ = some (.slice p kids.length cp) := by simp [World.cell?, hblk]
        refine hK _ _ m3 ?_;clear hK K;refine Z5 (fun K hK=>?_);go_simp
        have hala:Below wa.heap.size wa (wa.alloc (.cells #[.int .i64 23,.string (hdT us.tail).text,.int .i64 0,.slice none 0 0] 37)):=(Y2 _ _).alloc (Y0 _) _;have hA:=Got.leaf (w0:=wa) (w:=wa) (rb:=rb) (B:=B) (k:=23) (t:=(hdT us.tail).text) (n:=0) (Y4 HP.out.le (FQ.out.trans hFwa).size) (RFr.refl _ _);refine (Zw wa rb 23 (hdT us.tail).text none 0 0).mono ?_;rintro e w3' ⟨rfl,hw3'⟩;rw [← hw3'] at hA hala;have hF23:RFr w4q w3' rb:=hFwa.trans (RFr.below hala);have hN3:=hNa.rfr hlt (RFr.below (rb:=rb) hala);have hR3:=hRa.below hala
        have hblk:=hN3.at'.blkOf;simp only [ATree.b,ATree.v,ATree.kind,ATree.text,ATree.n] at hblk;have m3:w3'.cell? ⟨nb,3,none⟩=some (.slice p kids.length cp):=by simp [World.cell?,hblk]
        have mz:w3'.frozen? ⟨nb,3,none⟩=false:=by simp [World.frozen?,hblk]
        have hnb3:nb < w3'.heap.size:=(Y1.1 hblk).1;have hnd:=hN3.nodup;simp only [ATree.blocks,List.nodup_cons,List.mem_append,Option.mem_toList,not_or] at hnd;have hne:=hnd.1.1;have hk4:kids.length≤8:=by have:=HKL.out; have:=HL.out; omega
        obtain ⟨a,ha⟩:∃ a:ATree,a=.mk wa.heap.size (.slice none 0 0) 23 (hdT us.tail).text 0 []:=⟨_,rfl⟩
        rw [← ha] at hA;have hap:Value.pointer (some ⟨wa.heap.size,0,none⟩)=.pointer (some ⟨a.b,0,none⟩):=by rw [ha]; rfl
        rw [hap];clear ha hap;have N3:=lh hN3;have A3:=lh hA;have R3:=lh hR3;have F3':=lh (FQ.out.trans hF23);have NE:=lh hne;have NA:=lh (fun x hx=>(hNa.new x hx).2);have HQ3:=lh h1;refine hK _ _ m3 ?_;obtain ⟨i0,hi,hz0,hz1,hz2⟩:=info_parts Tryz.infoPtr;clear hK K hA hR3 hF23 hN3 hblk hnd hne h1 n3 hFa hFwa hNa hRa hala hw3';refine Z5 (fun K hK=>?_);go_simp
        refine hK _ _ ((Zd hnb3).trans m3) ?_;clear hK K;refine Z5 (fun K hK=>?_)
        refine step_append_lies _ (by rfl) (.tmp 35) (.tmp 40) 35 (by rfl) B 22 i0 _ 1 8 Tryz.underlying35 hi hz0 hz1 hz2 rfl (by decide) (.slice p kids.length cp) kids.length (kids.map ATree.ptr) (by rfl) (N3.out.at'.rowOf.alloc _) ⟨w3'.heap.size,0,none⟩ 1 1 [a.ptr] (by rfl) rfl (Ya (cs:=#[a.ptr]) (t:=22) (fr:=(0,0)) (heap_alloc_new w3' _)) (by simp [ATree.ptr,Value.oneCell']) (by decide) (by unfold maxLen; omega) (by omega) (by simp; have:=F3'.out.size; have:=HP.out.le; omega) (w3'.heap.size + 1) (by simp) ?_;intro gg cap w4 hown4 hgrow4 hat4 hlt4
        have m4:w4.cell? ⟨nb,3,none⟩=some (.slice p kids.length cp):=(hgrow4.cell_far ⟨nb,3,none⟩ (by simp; omega) (fun e=>NE.out e.symm)).trans ((Zd hnb3).trans m3);have mz4:w4.frozen? ⟨nb,3,none⟩=false:=(hgrow4.frozen_far ⟨nb,3,none⟩ (by simp; omega) (fun e=>NE.out e.symm)).trans ((Z0b hnb3).trans mz);refine hK _ _ m4 ?_;clear hK K;simp only [Act.put,zA,zB,zC]
        have hfin:=Got.push hlt HP.out.le N3.out (wA:=wa) NA.out A3.out F3'.out R3.out ((Y2 _ _).alloc (Y0 _) _) hgrow4 hown4 (by rcases hat4 with h | h; (exact .inl h); (exact .inr (by omega))) hlt4;have FIN:=lh hfin;clear hgrow4 hown4 hat4 hlt4 hfin;refine Z6 ?_;go_wp2;go_roundw
        case rel=>
         refine ⟨g,acc ++ [.mk 23 (hdT us.tail).text 0 []],us.tail.tail,.slice (some ⟨gg,0,none⟩) (kids.length + 1) cap,kids ++ [a],by omega,HQ3.out,?_,FIN.out.2.2,FIN.out.2.1,by have:=HL.out; simp; omega,by rw [List.length_tail]; omega⟩;have h1:=FIN.out.1;have h2:=GQ.out.tree;simp only [ATree.tree,Tree.mk.injEq,true_and] at h2;rw [h2] at h1;exact h1
        case measure=>
         rw [FIN.out.2.2.left,RL.out];exact Y7 (by have:=Z4z hk; rw [List.length_tail]; omega) PL.out
       ·refine (Z3s w4q.drew rb us.tail d PQ.out.1.rd.drew hk).mono ?_;rintro e w9 ⟨⟨b,rfl,h1,h2⟩,hB⟩;exact ⟨rfl,Zo.err FQ.out.drew ⟨b,rfl,h1,h2⟩ hB⟩
     ·have hr : r = .error (3, (hdT us).at') := by rw [Z00, Y3 hc] at hq1; exact (Yc hq1).symm
      subst hr;have HC:=Z1n w3 rb us d Z07 P3.out.rd (by simpa using hc);unfold Z07 at HC;have HC:=lh HC;clear hq1 hc HQ;go_wp2_with fail
      refine HC.out.mono ?_;rintro e w9 ⟨⟨b,rfl,h1,h2⟩,hB⟩;exact ⟨rfl,Zo.err F3.out ⟨b,rfl,h1,h2⟩ hB⟩
 ·have HC := lh (Z1n w rb ts d Z0q hP.rd hs);clear hP hp hw hs;go_enter Tryz.func81, Tryz.ntmps81
  go_wp2_with fail
  refine HC.out.mono ?_;rintro e w3 ⟨⟨b,rfl,h1,h2⟩,hB⟩;exact ⟨rfl,Zo.err (RFr.refl _ _) ⟨b,rfl,h1,h2⟩ hB⟩
end Go.Proofs.YtedopiahfejdfaaGreatDoor
