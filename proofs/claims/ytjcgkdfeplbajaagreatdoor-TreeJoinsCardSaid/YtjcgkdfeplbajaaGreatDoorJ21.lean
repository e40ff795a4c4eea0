/- Package tree: try. -/
import Derived.Test.YtjcgkdfeplbajaaGreatDoorJ20
namespace Go.Proofs.YtjcgkdfeplbajaaGreatDoor
open Go Go.RowKit
set_option maxRecDepth 100000
set_option maxHeartbeats 20000000
set_option linter.unusedVariables false
def finT (F d:Nat) (l:List Tree) (ts:List Tok):PR:=
 if isT Zs ts then Zz (Z0 F (.block false) d ts.tail) fun c ts=>okT (.mk 12 ByteArray.empty 0 (l ++ [.mk 14 ByteArray.empty 0 [c]])) ts
 else if l.length=1 then Z1k 3 ts else okT (.mk 12 ByteArray.empty 0 l) ts
def Zbl (F d:Nat) (b:Tree) (ts:List Tok):PR:=
 if isT Z10 ts then Z0i Z15 ts.tail fun ts=>Z1m ts fun s ts=>Z0i Z16 ts fun ts=>Zz (Z0 F (.block false) d ts) fun c ts=>finT F d [b,.mk 13 s 0 [c]] ts
 else finT F d [b] ts
theorem Zae (F d:Nat) (ts:List Tok):Z0 (F + 1) .try_ d ts=Zz (Z0 F (.block false) d ts) fun b ts=>Zbl F d b ts:=rfl
theorem Ze8 (F:Nat) (hB:Says 45 (fun rb=>#[.pointer (some ⟨rb,0,none⟩),.bool false]) (.block false) F) :
 Says 53 rArg .try_ (F + 1):=by
 intro w rb B d ts r hP hp;rw [Zae] at hp;have HP:=lh hP;have HB:=lh hB;have H1:=lh hp;have hlt:=hP.lt;unfold rArg;clear hP hp hB;rcases Zp H1.out with ⟨⟨c,p⟩,hv,rfl⟩ | ⟨t0,us,hv,h2⟩
 ·have HC := HB.out w rb B d _ _ HP.out hv;simp only at HC;have HC := lh HC;clear hv;go_enter Tryz.func53, Tryz.ntmps53
  go_wp2_with fail
  refine HC.out.mono ?_;rintro e w2 ⟨⟨b,rfl,h1,h2⟩,hF⟩;exact ⟨rfl,⟨b,rfl,h1,h2⟩,hF⟩
 have HC:=HB.out w rb B d _ _ HP.out hv;simp only at HC;have HC:=lh HC;have HL:=lh (Z0k hv);have HQ0:=lh h2;clear hv h2;go_enter Tryz.func53,Tryz.ntmps53
 go_wp2_with fail
 refine HC.out.mono ?_;rintro e w1 ⟨b0,rfl,hG1,hR1,hF1⟩;have hb1:Below w1.heap.size w1 (w1.alloc (.cells #[.pointer (some ⟨b0.b,0,none⟩)] 22)):=(Y2 _ _).alloc (Y0 _) _;have hb2:Below w1.heap.size w1 ((w1.alloc (.cells #[.pointer (some ⟨b0.b,0,none⟩)] 22)).alloc (.cells #[.int .i64 12,.string ⟨#[]⟩,.int .i64 0,.slice (some ⟨w1.heap.size,0,none⟩) 1 1] 34)):=hb1.alloc (by simp) _;have hA:=Got.one (k:=12) (t:=⟨#[]⟩) HP.out.le hF1 hG1;have hR2:=hR1.below hb2;have hF2:=hF1.trans (RFr.below (rb:=rb) hb2)
 have HN:=lh (Z0a (w1.alloc (.cells #[.pointer (some ⟨b0.b,0,none⟩)] 22)) rb 12 ⟨#[]⟩ (some ⟨w1.heap.size,0,none⟩) 1 1);obtain ⟨sb,hsb⟩:=zX w1.heap.size
 rw [← hsb] at HN hA hb2 hR2 hF2;go_wp2_with fail
 rw [← hsb];refine HN.out.mono ?_;rintro e w2 ⟨rfl,hw2⟩;have hsz:(w1.alloc (.cells #[.pointer (some ⟨b0.b,0,none⟩)] 22)).heap.size=sb + 1:=by rw [hsb]; simp
 rw [hsz];obtain ⟨nb,hnb⟩:=zX (sb + 1)
 rw [← hnb] at hA ⊢;have hA:Got w B w2 (.mk nb (.slice (some ⟨sb,0,none⟩) 1 1) 12 ⟨#[]⟩ 0 [b0]) (.mk 12 ⟨#[]⟩ 0 [t0]):=by rw [hw2]; exact hA
 rw [← hw2] at hR2 hF2;have N:=lh hA;have FQ:=lh hF2;have PQ:=lh (HP.out.next hR2 hF2 HL.out);have HSB:=lh hsb;clear hG1 hR1 hF1 hb1 hb2 hA hR2 hF2 HN hsb hw2 hsz hnb HC;by_cases hc:isT Z10 us=true
 ·have hq := HQ0.out;unfold Zbl at hq;rw [Y5 hc] at hq;have HQ1 := lh hq;have HT := Z0j _ rb us d Z10 PQ.out.rd hc;unfold Z10 at HT;have HT := lh HT;clear hc hq;go_wp2_with fail
  refine HT.out.mono ?_;rintro e w3 ⟨rfl,hR3,hF3⟩;have N:=lh (N.out.rfr hlt hF3);have PQ:=lh (PQ.out.tail hR3 hF3);have FQ:=lh (FQ.out.trans hF3);clear hR3 hF3 HT;rcases Z17 HQ1.out with ⟨hs,h2⟩ | ⟨hs,rfl⟩
  ·have HT := Z19 _ rb us.tail d Z15 PQ.out.rd hs;unfold Z15 at HT;have HT := lh HT;have HQ2 := lh h2;clear hs h2;go_wp2_with fail
   refine HT.out.mono ?_;rintro e w4 ⟨rfl,hR4,hF4⟩;have N:=lh (N.out.rfr hlt hF4);have PQ:=lh (PQ.out.tail hR4 hF4);have FQ:=lh (FQ.out.trans hF4);clear hR4 hF4 HT;rcases Z2a HQ2.out with ⟨hk,h1⟩ | ⟨hk,rfl⟩
   ·have HT := lh (Z2c _ rb us.tail.tail d PQ.out.rd hk);obtain ⟨s, hs⟩ := zX ((hdT us.tail.tail).text)
    rw [← hs] at HT h1;have HQ3:=lh h1;clear hk h1 hs;go_wp2_with fail
    refine HT.out.mono ?_;rintro e w5 ⟨rfl,hR5,hF5⟩;have N:=lh (N.out.rfr hlt hF5);have PQ:=lh (PQ.out.tail hR5 hF5);have FQ:=lh (FQ.out.trans hF5);clear hR5 hF5 HT;rcases Z17 HQ3.out with ⟨hs,h2⟩ | ⟨hs,rfl⟩
    ·have HT := Z19 _ rb us.tail.tail.tail d Z16 PQ.out.rd hs;unfold Z16 at HT;have HT := lh HT;have H2 := lh h2;clear hs h2;go_wp2_with fail
     refine HT.out.mono ?_;rintro e w6 ⟨rfl,hR6,hF6⟩;have N:=lh (N.out.rfr hlt hF6);have PQ:=lh (PQ.out.tail hR6 hF6);have FQ:=lh (FQ.out.trans hF6);have HL:=lh (show us.tail.tail.tail.tail.length≤ts.length by have:=HL.out; simp only [List.length_tail]; omega);clear hR6 hF6 HT;have hblk:=N.out.at'.blkOf;simp only [ATree.b,ATree.v,ATree.kind,ATree.text,ATree.n] at hblk;have n3:w6.cell? ⟨nb,3,none⟩=some (.slice (some ⟨sb,0,none⟩) 1 1):=by simp [World.cell?,hblk]
     clear hblk;go_wp2_with fail
     refine Z4 [(true,0),(true,1),(true,2),(true,3),(true,4),(true,5),(true,6),(true,7),(false,8),(false,9),(false,10),(false,11),(false,12)] [13,14,15] (fun W=>W.cell? ⟨nb,3,none⟩=some (.slice (some ⟨sb,0,none⟩) 1 1)) (by kernel_rfl) (by kernel_rfl) (fun _ _ d _ _ h=>by cases d <;> exact h) n3 (fun hS0=>?_);simp only [Zj,zD,zE,zF,zG,zH,zI]
     iterate 8
      first
       | (refine Z7 ?_ (by rfl) (fun w' hS'=>?_) ?_; rotate_left; (have s0:=hS'; go_simp; first | done | with_reducible rfl); simp only [Act.put,zA,zB,zC])
       | (refine Z6 (by rfl) ?_; simp only [Act.put,zA,zB,zC])
     refine Zd (fun K hK=>?_);go_simp
     have P7:Pre w6.drew rb B d _:=PQ.out.below (Y2 _ _).drew;rcases Zp H2.out with ⟨⟨c,p⟩,hv,rfl⟩ | ⟨t,vs,hv,hq4⟩
     ·refine (HB.out w6.drew rb B d _ _ P7 hv).mono ?_;rintro e w7 ⟨⟨b,rfl,h1,h2⟩,hF7⟩;exact ⟨rfl,Z01.pre FQ.out.drew (r:=.error (c,p)) ⟨⟨b,rfl,h1,h2⟩,hF7⟩⟩
     have hvl:=Z0k hv;have HQ4:=lh hq4;refine (HB.out w6.drew rb B d _ _ P7 hv).mono ?_;rintro e w7 ⟨x,rfl,hX,hR7,hF7⟩;have hF67:RFr w6 w7 rb:=(RFr.refl w6 rb).drew.trans hF7;have hN7:=N.out.rfr hlt hF67;have hblk:=hN7.at'.blkOf;simp only [ATree.b,ATree.v,ATree.kind,ATree.text,ATree.n] at hblk;have m3:w7.cell? ⟨nb,3,none⟩=some (.slice (some ⟨sb,0,none⟩) 1 1):=by simp [World.cell?,hblk]
     refine hK _ _ m3 ?_;clear hK K;refine Zd (fun K hK=>?_);go_simp
     have hb1:Below w7.heap.size w7 (w7.alloc (.cells #[.pointer (some ⟨x.b,0,none⟩)] 22)):=(Y2 _ _).alloc (Y0 _) _;refine hK _ _ ((hb1.cell (p:=⟨nb,3,none⟩) (Y1.1 hblk).1).trans m3) ?_;clear hK K;refine Zd (fun K hK=>?_);go_simp
     have hA:=Got.one (w0:=w6.drew) (w:=w7) (rb:=rb) (k:=13) (t:=s) (Y4 HP.out.le FQ.out.size) hF7 hX;have hb2:Below w7.heap.size w7 ((w7.alloc (.cells #[.pointer (some ⟨x.b,0,none⟩)] 22)).alloc (.cells #[.int .i64 13,.string s,.int .i64 0,.slice (some ⟨w7.heap.size,0,none⟩) 1 1] 34)):=hb1.alloc (by simp) _;refine (Z0a (w7.alloc (.cells #[.pointer (some ⟨x.b,0,none⟩)] 22)) rb 13 s (some ⟨w7.heap.size,0,none⟩) 1 1).mono ?_;rintro e w3' ⟨rfl,hw3'⟩
     have hA:Got w6.drew B w3' (.mk (w7.heap.size + 1) (.slice (some ⟨w7.heap.size,0,none⟩) 1 1) 13 s 0 [x]) (.mk 13 s 0 [t]):=by rw [hw3']; exact hA
     rw [← hw3'] at hb2;have hN3:=hN7.rfr hlt (RFr.below (rb:=rb) hb2);have hR3:=hR7.below hb2;have hF63:RFr w6 w3' rb:=hF67.trans (RFr.below hb2);clear hblk m3 hw3' hb1;have hblk:=hN3.at'.blkOf;simp only [ATree.b,ATree.v,ATree.kind,ATree.text,ATree.n] at hblk;have m3:w3'.cell? ⟨nb,3,none⟩=some (.slice (some ⟨sb,0,none⟩) 1 1):=by simp [World.cell?,hblk]
     have mz:w3'.frozen? ⟨nb,3,none⟩=false:=by simp [World.frozen?,hblk]
     have hnb3:nb < w3'.heap.size:=(Y1.1 hblk).1;have hnd:=hN3.nodup;simp only [ATree.blocks,List.nodup_cons,List.mem_append,Option.mem_toList,not_or] at hnd;have hne:=hnd.1.1;have hk4:([b0]).length≤8:=by simp
     have hsz7:(w7.alloc (.cells #[.pointer (some ⟨x.b,0,none⟩)] 22)).heap.size=w7.heap.size + 1:=by simp
     rw [hsz7];obtain ⟨a,ha⟩:∃ a:ATree,a=.mk (w7.heap.size + 1) (.slice (some ⟨w7.heap.size,0,none⟩) 1 1) 13 s 0 [x]:=⟨_,rfl⟩
     rw [← ha] at hA;have hap:Value.pointer (some ⟨w7.heap.size + 1,0,none⟩)=.pointer (some ⟨a.b,0,none⟩):=by rw [ha]; rfl
     rw [hap];clear ha hap hsz7;have N3:=lh hN3;have A3:=lh hA;have R3:=lh hR3;have F3':=lh (FQ.out.trans hF63);have NE:=lh hne;have NA:=lh (show ∀ y∈(ATree.mk nb (.slice (some ⟨sb,0,none⟩) 1 1) 12 ⟨#[]⟩ 0 [b0]).blocks,y < w6.drew.heap.size from fun y hy=>(N.out.new y hy).2);have HVL:=lh hvl;refine hK _ _ m3 ?_;obtain ⟨i0,hi,hz0,hz1,hz2⟩:=info_parts Tryz.infoPtr;clear hK K hA hR3 hF63 hN3 hblk hnd hne n3 hX hR7 hF7 hF67 hN7 hb2 hv hq4 P7 hvl;refine Zd (fun K hK=>?_);go_simp
     refine hK _ _ ((Zu hnb3).trans m3) ?_;clear hK K;refine Zd (fun K hK=>?_)
     refine step_append_lies _ (by rfl) (.tmp 22) (.tmp 29) 32 (by rfl) B 22 i0 _ 1 8 Tryz.underlying32 hi hz0 hz1 hz2 rfl (by decide) (.slice (some ⟨sb,0,none⟩) 1 1) ([b0]).length (([b0]).map ATree.ptr) (by rfl) (N3.out.at'.rowOf.alloc _) ⟨w3'.heap.size,0,none⟩ 1 1 [a.ptr] (by rfl) rfl (Ya (cs:=#[a.ptr]) (t:=22) (fr:=(0,0)) (heap_alloc_new w3' _)) (by simp [ATree.ptr,Value.oneCell']) (by decide) (by unfold maxLen; omega) (by omega) (by simp; have:=F3'.out.size; have:=HP.out.le; omega) (w3'.heap.size + 1) (by simp) ?_;intro gg cap w4 hown4 hgrow4 hat4 hlt4
     have m4:w4.cell? ⟨nb,3,none⟩=some (.slice (some ⟨sb,0,none⟩) 1 1):=(hgrow4.cell_far ⟨nb,3,none⟩ (by simp; omega) (fun e=>NE.out e.symm)).trans ((Zu hnb3).trans m3);have mz4:w4.frozen? ⟨nb,3,none⟩=false:=(hgrow4.frozen_far ⟨nb,3,none⟩ (by simp; omega) (fun e=>NE.out e.symm)).trans ((Z0o hnb3).trans mz);refine hK _ _ m4 ?_;clear hK K;simp only [Act.put,zA,zB,zC]
     have hfin:=Got.push hlt HP.out.le N3.out (wA:=w6.drew) NA.out A3.out F3'.out R3.out ((Y2 _ _).alloc (Y0 _) _) hgrow4 hown4 (by rcases hat4 with h | h; (exact .inl h); (exact .inr (by omega))) hlt4;have FIN:=lh hfin;clear hgrow4 hown4 hat4 hlt4 hfin;refine Zb ?_;go_wp2_with fail
     have hn4:Got w B (w4.setCell ⟨nb,3,none⟩ (.slice (some ⟨gg,0,none⟩) 2 cap)) (.mk nb (.slice (some ⟨gg,0,none⟩) 2 cap) 12 ⟨#[]⟩ 0 [b0,a]) (.mk 12 ⟨#[]⟩ 0 [t0,.mk 13 s 0 [t]]):=by
      have h1:=FIN.out.1;have h2:=N.out.tree;simp only [ATree.tree,Tree.mk.injEq,true_and] at h2;rw [h2] at h1;exact h1
     have hF4:RFr w (w4.setCell ⟨nb,3,none⟩ (.slice (some ⟨gg,0,none⟩) 2 cap)) rb:=FIN.out.2.1;have hR4:Rd (w4.setCell ⟨nb,3,none⟩ (.slice (some ⟨gg,0,none⟩) 2 cap)) rb vs d:=FIN.out.2.2;have hl4:vs.length≤ts.length:=by have:=HVL.out; have:=HL.out; omega
     have hP4:Pre (w4.setCell ⟨nb,3,none⟩ (.slice (some ⟨gg,0,none⟩) 2 cap)) rb B d vs:=HP.out.next hR4 hF4 hl4;obtain ⟨w5,hw5⟩:=zX (w4.setCell ⟨nb,3,none⟩ (.slice (some ⟨gg,0,none⟩) 2 cap))
     have HW5:=lh hw5;rw [← hw5] at hn4 hF4 hP4;have N:=lh hn4;have FQ:=lh hF4;have PQ:=lh hP4;have HQ:=lh (show finT F d [t0,.mk 13 s 0 [t]] vs=some r from HQ4.out);clear hn4 hF4 hR4 hl4 hP4 FIN m4 mz4 NA NE A3 N3 R3 F3' m3 mz hnb3 hk4;rw [← hw5];clear hw5;obtain ⟨c0,rfl⟩:∃ c0:ATree,c0=a:=⟨_,rfl⟩
     obtain ⟨tc,rfl⟩:∃ tc:Tree,tc=t:=⟨_,rfl⟩
     obtain ⟨g2,rfl⟩:∃ g2:Nat,g2=gg:=⟨_,rfl⟩
     obtain ⟨cap2,rfl⟩:∃ c2:Nat,c2=cap:=⟨_,rfl⟩
     obtain ⟨vs2,rfl⟩:∃ c2:List Tok,c2=vs:=⟨_,rfl⟩
     by_cases hf:isT Zs vs2=true
     ·have hq := HQ.out;unfold finT at hq;rw [Y5 hf] at hq;have H2 := lh hq;have HT := Z0j _ rb vs2 d Zs PQ.out.rd hf;unfold Zs at HT;have HT := lh HT;clear hf hq;go_wp2_with fail
      refine HT.out.mono ?_;rintro e wf ⟨rfl,hRf,hFf⟩;have N:=lh (N.out.rfr hlt hFf);have PQ:=lh (PQ.out.tail hRf hFf);have FQ:=lh (FQ.out.trans hFf);clear hRf hFf HT;have hblk:=N.out.at'.blkOf;simp only [ATree.b,ATree.v,ATree.kind,ATree.text,ATree.n] at hblk;have n3:wf.cell? ⟨nb,3,none⟩=some (.slice (some ⟨g2,0,none⟩) 2 cap2):=by simp [World.cell?,hblk]
      clear hblk;go_wp2_with fail
      refine Z4 [(true,0),(true,1),(true,2),(true,3),(true,4),(true,5),(true,6),(false,7),(false,8),(false,9),(false,10),(false,11)] [12,13,14] (fun W=>W.cell? ⟨nb,3,none⟩=some (.slice (some ⟨g2,0,none⟩) 2 cap2)) (by kernel_rfl) (by kernel_rfl) (fun _ _ d _ _ h=>by cases d <;> exact h) n3 (fun hS0=>?_);simp only [Zj,zD,zE,zF,zG,zH,zI]
      iterate 7
       first
        | (refine Z7 ?_ (by rfl) (fun w' hS'=>?_) ?_; rotate_left; (have s0:=hS'; go_simp; first | done | with_reducible rfl); simp only [Act.put,zA,zB,zC])
        | (refine Z6 (by rfl) ?_; simp only [Act.put,zA,zB,zC])
      refine Zd (fun K hK=>?_);go_simp
      have P7:Pre wf.drew rb B d _:=PQ.out.below (Y2 _ _).drew;rcases Zp H2.out with ⟨⟨c,p⟩,hv,rfl⟩ | ⟨t,vs,hv,hq4⟩
      ·refine (HB.out wf.drew rb B d _ _ P7 hv).mono ?_;rintro e w7 ⟨⟨b,rfl,h1,h2⟩,hF7⟩;exact ⟨rfl,Z01.pre FQ.out.drew (r:=.error (c,p)) ⟨⟨b,rfl,h1,h2⟩,hF7⟩⟩
      have hvl:=Z0k hv;have HQ4:=lh hq4;refine (HB.out wf.drew rb B d _ _ P7 hv).mono ?_;rintro e w7 ⟨x,rfl,hX,hR7,hF7⟩;have hF67:RFr wf w7 rb:=(RFr.refl wf rb).drew.trans hF7;have hN7:=N.out.rfr hlt hF67;have hblk:=hN7.at'.blkOf;simp only [ATree.b,ATree.v,ATree.kind,ATree.text,ATree.n] at hblk;have m3:w7.cell? ⟨nb,3,none⟩=some (.slice (some ⟨g2,0,none⟩) 2 cap2):=by simp [World.cell?,hblk]
      refine hK _ _ m3 ?_;clear hK K;refine Zd (fun K hK=>?_);go_simp
      have hb1:Below w7.heap.size w7 (w7.alloc (.cells #[.pointer (some ⟨x.b,0,none⟩)] 22)):=(Y2 _ _).alloc (Y0 _) _;refine hK _ _ ((hb1.cell (p:=⟨nb,3,none⟩) (Y1.1 hblk).1).trans m3) ?_;clear hK K;refine Zd (fun K hK=>?_);go_simp
      have hA:=Got.one (w0:=wf.drew) (w:=w7) (rb:=rb) (k:=14) (t:=⟨#[]⟩) (Y4 HP.out.le FQ.out.size) hF7 hX;have hb2:Below w7.heap.size w7 ((w7.alloc (.cells #[.pointer (some ⟨x.b,0,none⟩)] 22)).alloc (.cells #[.int .i64 14,.string ⟨#[]⟩,.int .i64 0,.slice (some ⟨w7.heap.size,0,none⟩) 1 1] 34)):=hb1.alloc (by simp) _;refine (Z0a (w7.alloc (.cells #[.pointer (some ⟨x.b,0,none⟩)] 22)) rb 14 ⟨#[]⟩ (some ⟨w7.heap.size,0,none⟩) 1 1).mono ?_;rintro e w3' ⟨rfl,hw3'⟩
      have hA:Got wf.drew B w3' (.mk (w7.heap.size + 1) (.slice (some ⟨w7.heap.size,0,none⟩) 1 1) 14 ⟨#[]⟩ 0 [x]) (.mk 14 ⟨#[]⟩ 0 [t]):=by rw [hw3']; exact hA
      rw [← hw3'] at hb2;have hN3:=hN7.rfr hlt (RFr.below (rb:=rb) hb2);have hR3:=hR7.below hb2;have hF63:RFr wf w3' rb:=hF67.trans (RFr.below hb2);clear hblk m3 hw3' hb1;have hblk:=hN3.at'.blkOf;simp only [ATree.b,ATree.v,ATree.kind,ATree.text,ATree.n] at hblk;have m3:w3'.cell? ⟨nb,3,none⟩=some (.slice (some ⟨g2,0,none⟩) 2 cap2):=by simp [World.cell?,hblk]
      have mz:w3'.frozen? ⟨nb,3,none⟩=false:=by simp [World.frozen?,hblk]
      have hnb3:nb < w3'.heap.size:=(Y1.1 hblk).1;have hnd:=hN3.nodup;simp only [ATree.blocks,List.nodup_cons,List.mem_append,Option.mem_toList,not_or] at hnd;have hne:=hnd.1.1;have hk4:([b0,c0]).length≤8:=by simp
      have hsz7:(w7.alloc (.cells #[.pointer (some ⟨x.b,0,none⟩)] 22)).heap.size=w7.heap.size + 1:=by simp
      rw [hsz7];obtain ⟨a,ha⟩:∃ a:ATree,a=.mk (w7.heap.size + 1) (.slice (some ⟨w7.heap.size,0,none⟩) 1 1) 14 ⟨#[]⟩ 0 [x]:=⟨_,rfl⟩
      rw [← ha] at hA;have hap:Value.pointer (some ⟨w7.heap.size + 1,0,none⟩)=.pointer (some ⟨a.b,0,none⟩):=by rw [ha]; rfl
      rw [hap];clear ha hap hsz7;have N3:=lh hN3;have A3:=lh hA;have R3:=lh hR3;have F3':=lh (FQ.out.trans hF63);have NE:=lh hne;have NA:=lh (show ∀ y∈(ATree.mk nb (.slice (some ⟨g2,0,none⟩) 2 cap2) 12 ⟨#[]⟩ 0 [b0,c0]).blocks,y < wf.drew.heap.size from fun y hy=>(N.out.new y hy).2);have HVL:=lh hvl;refine hK _ _ m3 ?_;obtain ⟨i0,hi,hz0,hz1,hz2⟩:=info_parts Tryz.infoPtr;clear hK K hA hR3 hF63 hN3 hblk hnd hne n3 hX hR7 hF7 hF67 hN7 hb2 hv hq4 P7 hvl;refine Zd (fun K hK=>?_);go_simp
      refine hK _ _ ((Zu hnb3).trans m3) ?_;clear hK K;refine Zd (fun K hK=>?_)
      refine step_append_lies _ (by rfl) (.tmp 39) (.tmp 45) 32 (by rfl) B 22 i0 _ 1 8 Tryz.underlying32 hi hz0 hz1 hz2 rfl (by decide) (.slice (some ⟨g2,0,none⟩) 2 cap2) ([b0,c0]).length (([b0,c0]).map ATree.ptr) (by rfl) (N3.out.at'.rowOf.alloc _) ⟨w3'.heap.size,0,none⟩ 1 1 [a.ptr] (by rfl) rfl (Ya (cs:=#[a.ptr]) (t:=22) (fr:=(0,0)) (heap_alloc_new w3' _)) (by simp [ATree.ptr,Value.oneCell']) (by decide) (by unfold maxLen; omega) (by omega) (by simp; have:=F3'.out.size; have:=HP.out.le; omega) (w3'.heap.size + 1) (by simp) ?_
      intro gg cap w4 hown4 hgrow4 hat4 hlt4;have m4:w4.cell? ⟨nb,3,none⟩=some (.slice (some ⟨g2,0,none⟩) 2 cap2):=(hgrow4.cell_far ⟨nb,3,none⟩ (by simp; omega) (fun e=>NE.out e.symm)).trans ((Zu hnb3).trans m3);have mz4:w4.frozen? ⟨nb,3,none⟩=false:=(hgrow4.frozen_far ⟨nb,3,none⟩ (by simp; omega) (fun e=>NE.out e.symm)).trans ((Z0o hnb3).trans mz);refine hK _ _ m4 ?_;clear hK K;simp only [Act.put,zA,zB,zC]
      have hfin:=Got.push hlt HP.out.le N3.out (wA:=wf.drew) NA.out A3.out F3'.out R3.out ((Y2 _ _).alloc (Y0 _) _) hgrow4 hown4 (by rcases hat4 with h | h; (exact .inl h); (exact .inr (by omega))) hlt4;have FIN:=lh hfin;clear hgrow4 hown4 hat4 hlt4 hfin;refine Zb ?_;have hq5:=Yc HQ4.out;have HR5:=lh hq5.symm;have hblk:=FIN.out.1.at'.blkOf;simp only [ATree.b,ATree.v,ATree.kind,ATree.text,ATree.n] at hblk
      have e3:(w4.setCell ⟨nb,3,none⟩ (.slice (some ⟨gg,0,none⟩) (([b0,c0]).length + 1) cap)).cell? ⟨nb,3,none⟩=some (.slice (some ⟨gg,0,none⟩) (([b0,c0]).length + 1) cap):=by unfold World.cell?; rw [hblk]; rfl
      have n1:(((([b0,c0]).length + 1:Nat):Int) == 1)=false:=by simp
      clear hq5 hblk;go_wp2;go_ret;rw [HR5.out];refine ⟨.mk nb (.slice (some ⟨gg,0,none⟩) (([b0,c0]).length + 1) cap) 12 ⟨#[]⟩ 0 ([b0,c0] ++ [a]),rfl,?_,FIN.out.2.2,FIN.out.2.1⟩;have h1:=FIN.out.1;have h2:=N.out.tree;simp only [ATree.tree,Tree.mk.injEq,true_and] at h2;rw [h2] at h1;exact h1
     ·have hf' : isT Zs vs2 = false := by simpa using hf
      have hq:=HQ.out;unfold finT at hq;rw [Y3 hf] at hq;have HQ2:=lh hq;have HT:=Z11 _ rb vs2 d Zs PQ.out.rd hf';unfold Zs at HT;have HT:=lh HT;clear hf hf' hq;go_wp2_with fail
      refine HT.out.mono ?_;rintro e wf ⟨rfl,hBf⟩;have N:=lh (N.out.rfr hlt (RFr.below (rb:=rb) hBf));have PQ:=lh (PQ.out.below hBf);have FQ:=lh (FQ.out.trans (RFr.below (rb:=rb) hBf));have hblk:=N.out.at'.blkOf;simp only [ATree.b,ATree.v,ATree.kind,ATree.text,ATree.n] at hblk;have n3:wf.cell? ⟨nb,3,none⟩=some (.slice (some ⟨g2,0,none⟩) 2 cap2):=by simp [World.cell?,hblk]
      clear hBf HT hblk;have hq:=HQ2.out;rw [Y3 (by simp)] at hq;have HR5:=lh (Yc hq).symm;clear hq;go_wp2;go_ret;rw [HR5.out];exact ⟨_,rfl,N.out,PQ.out.rd,FQ.out⟩
    ·have HT := Z25 _ rb us.tail.tail.tail d Z16 PQ.out.rd hs;unfold Z16 at HT;have HT := lh HT;clear hs;go_wp2_with fail
     refine HT.out.mono ?_;rintro e w9 ⟨⟨b,rfl,h1,h2⟩,hB⟩;exact ⟨rfl,Z01.err FQ.out ⟨b,rfl,h1,h2⟩ hB⟩
   ·have HT := lh (Z3o _ rb us.tail.tail d PQ.out.rd hk);clear hk;go_wp2_with fail
    refine HT.out.mono ?_;rintro e w9 ⟨⟨b,rfl,h1,h2⟩,hB⟩;exact ⟨rfl,Z01.err FQ.out ⟨b,rfl,h1,h2⟩ hB⟩
  ·have HT := Z25 _ rb us.tail d Z15 PQ.out.rd hs;unfold Z15 at HT;have HT := lh HT;clear hs;go_wp2_with fail
   refine HT.out.mono ?_;rintro e w9 ⟨⟨b,rfl,h1,h2⟩,hB⟩;exact ⟨rfl,Z01.err FQ.out ⟨b,rfl,h1,h2⟩ hB⟩
 ·have hc' : isT Z10 us = false := by simpa using hc
  have hq:=HQ0.out;unfold Zbl at hq;rw [Y3 hc] at hq;have HQ:=lh hq;have HT:=Z11 _ rb us d Z10 PQ.out.rd hc';unfold Z10 at HT;have HT:=lh HT;clear hc hc' hq;go_wp2_with fail
  refine HT.out.mono ?_;rintro e w3 ⟨rfl,hB3⟩;have N:=lh (N.out.rfr hlt (RFr.below (rb:=rb) hB3));have PQ:=lh (PQ.out.below hB3);have FQ:=lh (FQ.out.trans (RFr.below (rb:=rb) hB3));clear hB3 HT;by_cases hf:isT Zs us=true
  ·have hq := HQ.out;unfold finT at hq;rw [Y5 hf] at hq;have H2 := lh hq;have HT := Z0j _ rb us d Zs PQ.out.rd hf;unfold Zs at HT;have HT := lh HT;clear hf hq;go_wp2_with fail
   refine HT.out.mono ?_;rintro e wf ⟨rfl,hRf,hFf⟩;have N:=lh (N.out.rfr hlt hFf);have PQ:=lh (PQ.out.tail hRf hFf);have FQ:=lh (FQ.out.trans hFf);clear hRf hFf HT;have hblk:=N.out.at'.blkOf;simp only [ATree.b,ATree.v,ATree.kind,ATree.text,ATree.n] at hblk;have n3:wf.cell? ⟨nb,3,none⟩=some (.slice (some ⟨sb,0,none⟩) 1 1):=by simp [World.cell?,hblk]
   clear hblk;go_wp2_with fail
   refine Z4 [(true,0),(true,1),(true,2),(true,3),(true,4),(true,5),(true,6),(false,7),(false,8),(false,9),(false,10),(false,11)] [12,13,14] (fun W=>W.cell? ⟨nb,3,none⟩=some (.slice (some ⟨sb,0,none⟩) 1 1)) (by kernel_rfl) (by kernel_rfl) (fun _ _ d _ _ h=>by cases d <;> exact h) n3 (fun hS0=>?_);simp only [Zj,zD,zE,zF,zG,zH,zI]
   iterate 7
    first
     | (refine Z7 ?_ (by rfl) (fun w' hS'=>?_) ?_; rotate_left; (have s0:=hS'; go_simp; first | done | with_reducible rfl); simp only [Act.put,zA,zB,zC])
     | (refine Z6 (by rfl) ?_; simp only [Act.put,zA,zB,zC])
   refine Zd (fun K hK=>?_);go_simp
   have P7:Pre wf.drew rb B d _:=PQ.out.below (Y2 _ _).drew;rcases Zp H2.out with ⟨⟨c,p⟩,hv,rfl⟩ | ⟨t,vs,hv,hq4⟩
   ·refine (HB.out wf.drew rb B d _ _ P7 hv).mono ?_;rintro e w7 ⟨⟨b,rfl,h1,h2⟩,hF7⟩;exact ⟨rfl,Z01.pre FQ.out.drew (r:=.error (c,p)) ⟨⟨b,rfl,h1,h2⟩,hF7⟩⟩
   have hvl:=Z0k hv;have HQ4:=lh hq4;refine (HB.out wf.drew rb B d _ _ P7 hv).mono ?_;rintro e w7 ⟨x,rfl,hX,hR7,hF7⟩;have hF67:RFr wf w7 rb:=(RFr.refl wf rb).drew.trans hF7;have hN7:=N.out.rfr hlt hF67;have hblk:=hN7.at'.blkOf;simp only [ATree.b,ATree.v,ATree.kind,ATree.text,ATree.n] at hblk;have m3:w7.cell? ⟨nb,3,none⟩=some (.slice (some ⟨sb,0,none⟩) 1 1):=by simp [World.cell?,hblk]
   refine hK _ _ m3 ?_;clear hK K;refine Zd (fun K hK=>?_);go_simp
   have hb1:Below w7.heap.size w7 (w7.alloc (.cells #[.pointer (some ⟨x.b,0,none⟩)] 22)):=(Y2 _ _).alloc (Y0 _) _;refine hK _ _ ((hb1.cell (p:=⟨nb,3,none⟩) (Y1.1 hblk).1).trans m3) ?_;clear hK K;refine Zd (fun K hK=>?_);go_simp
   have hA:=Got.one (w0:=wf.drew) (w:=w7) (rb:=rb) (k:=14) (t:=⟨#[]⟩) (Y4 HP.out.le FQ.out.size) hF7 hX;have hb2:Below w7.heap.size w7 ((w7.alloc (.cells #[.pointer (some ⟨x.b,0,none⟩)] 22)).alloc (.cells #[.int .i64 14,.string ⟨#[]⟩,.int .i64 0,.slice (some ⟨w7.heap.size,0,none⟩) 1 1] 34)):=hb1.alloc (by simp) _;refine (Z0a (w7.alloc (.cells #[.pointer (some ⟨x.b,0,none⟩)] 22)) rb 14 ⟨#[]⟩ (some ⟨w7.heap.size,0,none⟩) 1 1).mono ?_;rintro e w3' ⟨rfl,hw3'⟩
   have hA:Got wf.drew B w3' (.mk (w7.heap.size + 1) (.slice (some ⟨w7.heap.size,0,none⟩) 1 1) 14 ⟨#[]⟩ 0 [x]) (.mk 14 ⟨#[]⟩ 0 [t]):=by rw [hw3']; exact hA
   rw [← hw3'] at hb2;have hN3:=hN7.rfr hlt (RFr.below (rb:=rb) hb2);have hR3:=hR7.below hb2;have hF63:RFr wf w3' rb:=hF67.trans (RFr.below hb2);clear hblk m3 hw3' hb1;have hblk:=hN3.at'.blkOf;simp only [ATree.b,ATree.v,ATree.kind,ATree.text,ATree.n] at hblk;have m3:w3'.cell? ⟨nb,3,none⟩=some (.slice (some ⟨sb,0,none⟩) 1 1):=by simp [World.cell?,hblk]
   have mz:w3'.frozen? ⟨nb,3,none⟩=false:=by simp [World.frozen?,hblk]
   have hnb3:nb < w3'.heap.size:=(Y1.1 hblk).1;have hnd:=hN3.nodup;simp only [ATree.blocks,List.nodup_cons,List.mem_append,Option.mem_toList,not_or] at hnd;have hne:=hnd.1.1;have hk4:([b0]).length≤8:=by simp
   have hsz7:(w7.alloc (.cells #[.pointer (some ⟨x.b,0,none⟩)] 22)).heap.size=w7.heap.size + 1:=by simp
   rw [hsz7];obtain ⟨a,ha⟩:∃ a:ATree,a=.mk (w7.heap.size + 1) (.slice (some ⟨w7.heap.size,0,none⟩) 1 1) 14 ⟨#[]⟩ 0 [x]:=⟨_,rfl⟩
   rw [← ha] at hA;have hap:Value.pointer (some ⟨w7.heap.size + 1,0,none⟩)=.pointer (some ⟨a.b,0,none⟩):=by rw [ha]; rfl
   rw [hap];clear ha hap hsz7;have N3:=lh hN3;have A3:=lh hA;have R3:=lh hR3;have F3':=lh (FQ.out.trans hF63);have NE:=lh hne;have NA:=lh (show ∀ y∈(ATree.mk nb (.slice (some ⟨sb,0,none⟩) 1 1) 12 ⟨#[]⟩ 0 [b0]).blocks,y < wf.drew.heap.size from fun y hy=>(N.out.new y hy).2);have HVL:=lh hvl;refine hK _ _ m3 ?_;obtain ⟨i0,hi,hz0,hz1,hz2⟩:=info_parts Tryz.infoPtr;clear hK K hA hR3 hF63 hN3 hblk hnd hne n3 hX hR7 hF7 hF67 hN7 hb2 hv hq4 P7 hvl;refine Zd (fun K hK=>?_);go_simp
   refine hK _ _ ((Zu hnb3).trans m3) ?_;clear hK K;refine Zd (fun K hK=>?_)
   refine step_append_lies _ (by rfl) (.tmp 39) (.tmp 45) 32 (by rfl) B 22 i0 _ 1 8 Tryz.underlying32 hi hz0 hz1 hz2 rfl (by decide) (.slice (some ⟨sb,0,none⟩) 1 1) ([b0]).length (([b0]).map ATree.ptr) (by rfl) (N3.out.at'.rowOf.alloc _) ⟨w3'.heap.size,0,none⟩ 1 1 [a.ptr] (by rfl) rfl (Ya (cs:=#[a.ptr]) (t:=22) (fr:=(0,0)) (heap_alloc_new w3' _)) (by simp [ATree.ptr,Value.oneCell']) (by decide) (by unfold maxLen; omega) (by omega) (by simp; have:=F3'.out.size; have:=HP.out.le; omega) (w3'.heap.size + 1) (by simp) ?_;intro gg cap w4 hown4 hgrow4 hat4 hlt4
   have m4:w4.cell? ⟨nb,3,none⟩=some (.slice (some ⟨sb,0,none⟩) 1 1):=(hgrow4.cell_far ⟨nb,3,none⟩ (by simp; omega) (fun e=>NE.out e.symm)).trans ((Zu hnb3).trans m3);have mz4:w4.frozen? ⟨nb,3,none⟩=false:=(hgrow4.frozen_far ⟨nb,3,none⟩ (by simp; omega) (fun e=>NE.out e.symm)).trans ((Z0o hnb3).trans mz);refine hK _ _ m4 ?_;clear hK K;simp only [Act.put,zA,zB,zC]
   have hfin:=Got.push hlt HP.out.le N3.out (wA:=wf.drew) NA.out A3.out F3'.out R3.out ((Y2 _ _).alloc (Y0 _) _) hgrow4 hown4 (by rcases hat4 with h | h; (exact .inl h); (exact .inr (by omega))) hlt4;have FIN:=lh hfin;clear hgrow4 hown4 hat4 hlt4 hfin;refine Zb ?_;have hq5:=Yc HQ4.out;have HR5:=lh hq5.symm;have hblk:=FIN.out.1.at'.blkOf;simp only [ATree.b,ATree.v,ATree.kind,ATree.text,ATree.n] at hblk
   have e3:(w4.setCell ⟨nb,3,none⟩ (.slice (some ⟨gg,0,none⟩) (([b0]).length + 1) cap)).cell? ⟨nb,3,none⟩=some (.slice (some ⟨gg,0,none⟩) (([b0]).length + 1) cap):=by unfold World.cell?; rw [hblk]; rfl
   have n1:(((([b0]).length + 1:Nat):Int) == 1)=false:=by simp
   clear hq5 hblk;go_wp2;go_ret;rw [HR5.out];refine ⟨.mk nb (.slice (some ⟨gg,0,none⟩) (([b0]).length + 1) cap) 12 ⟨#[]⟩ 0 ([b0] ++ [a]),rfl,?_,FIN.out.2.2,FIN.out.2.1⟩;have h1:=FIN.out.1;have h2:=N.out.tree;simp only [ATree.tree,Tree.mk.injEq,true_and] at h2;rw [h2] at h1;exact h1
  ·have hf' : isT Zs us = false := by simpa using hf
   have hq:=HQ.out;unfold finT at hq;rw [Y3 hf] at hq;have HQ2:=lh hq;have HT:=Z11 _ rb us d Zs PQ.out.rd hf';unfold Zs at HT;have HT:=lh HT;clear hf hf' hq;go_wp2_with fail
   refine HT.out.mono ?_;rintro e wf ⟨rfl,hBf⟩;have N:=lh (N.out.rfr hlt (RFr.below (rb:=rb) hBf));have PQ:=lh (PQ.out.below hBf);have FQ:=lh (FQ.out.trans (RFr.below (rb:=rb) hBf));have hblk:=N.out.at'.blkOf;simp only [ATree.b,ATree.v,ATree.kind,ATree.text,ATree.n] at hblk;have n3:wf.cell? ⟨nb,3,none⟩=some (.slice (some ⟨sb,0,none⟩) 1 1):=by simp [World.cell?,hblk]
   clear hBf HT hblk;have hq:=HQ2.out;rw [Y5 (show [t0].length=1 from rfl)] at hq;obtain rfl:=Yc hq;have HF:=lh (Z1r wf rb us d 3 PQ.out.rd);clear hq;go_wp2_with fail
   refine HF.out.mono ?_;rintro e w9 ⟨⟨b,rfl,h1,h2⟩,hB⟩;exact ⟨rfl,Z01.err FQ.out ⟨b,rfl,h1,h2⟩ hB⟩
end Go.Proofs.YtjcgkdfeplbajaaGreatDoor
