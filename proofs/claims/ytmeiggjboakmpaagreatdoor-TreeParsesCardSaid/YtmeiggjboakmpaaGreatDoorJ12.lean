/- Package tree: try. -/
import Derived.Test.YtmeiggjboakmpaaGreatDoorJ11
import Derived.Recover
import Derived.Stop.Asserts
import Derived.Outline
namespace Go.Proofs.YtmeiggjboakmpaaGreatDoor
open Go Go.RowKit
set_option maxRecDepth 100000
set_option maxHeartbeats 20000000
def finT (F d:Nat) (l:List Tree) (ts:List Tok):PR:=
 if isT Zt ts then Z0g (Z0 F (.block false) d ts.tail) fun c ts=>okT (.mk 12 ByteArray.empty 0 (l ++ [.mk 14 ByteArray.empty 0 [c]])) ts
 else if l.length=1 then Z2t 3 ts else okT (.mk 12 ByteArray.empty 0 l) ts
def Zhm (F d:Nat) (b:Tree) (ts:List Tok):PR:=
 if isT Z0t ts then Z1e Z0v ts.tail fun ts=>Z3f ts fun s ts=>Z1e Z0u ts fun ts=>Z0g (Z0 F (.block false) d ts) fun c ts=>finT F d [b,.mk 13 s 0 [c]] ts
 else finT F d [b] ts
theorem Zem (F d:Nat) (ts:List Tok):Z0 (F + 1) .try_ d ts=Z0g (Z0 F (.block false) d ts) fun b ts=>Zhm F d b ts:=rfl
theorem Zi2 (F:Nat) (hB:Says 73 (fun rb=>#[.pointer (some ⟨rb,0,none⟩),.bool false]) (.block false) F) :
 Says 81 rArg .try_ (F + 1):=by
 intro w rb B d ts r hP hp;rw [Zem] at hp;have HP:=lh hP;have HB:=lh hB;have H1:=lh hp;have hlt:=hP.lt;unfold rArg;clear hP hp hB;rcases Z09 H1.out with ⟨⟨c,p⟩,hv,rfl⟩ | ⟨t0,us,hv,h2⟩
 ·have HC := HB.out w rb B d _ _ HP.out hv;simp only at HC;have HC := lh HC;clear hv;go_enter Tryz.func81, Tryz.ntmps81
  go_wp2_with fail
  refine HC.out.mono ?_;rintro e w2 ⟨⟨b,rfl,h1,h2⟩,hF⟩;exact ⟨rfl,⟨b,rfl,h1,h2⟩,hF⟩
 have HC:=HB.out w rb B d _ _ HP.out hv;simp only at HC;have HC:=lh HC;have HL:=lh (Z1i hv);have HQ0:=lh h2;clear hv h2;go_enter Tryz.func81,Tryz.ntmps81
 go_wp2_with fail
 refine HC.out.mono ?_;rintro e w1 ⟨b0,rfl,hG1,hR1,hF1⟩;have hb1:Below w1.heap.size w1 (w1.alloc (.cells #[.pointer (some ⟨b0.b,0,none⟩)] 22)):=(Y8 _ _).alloc (Y5 _) _;have hb2:Below w1.heap.size w1 ((w1.alloc (.cells #[.pointer (some ⟨b0.b,0,none⟩)] 22)).alloc (.cells #[.int .i64 12,.string ⟨#[]⟩,.int .i64 0,.slice (some ⟨w1.heap.size,0,none⟩) 1 1] 38)):=hb1.alloc (by simp) _;have hA:=Got.one (k:=12) (t:=⟨#[]⟩) HP.out.le hF1 hG1;have hR2:=hR1.below hb2;have hF2:=hF1.trans (RFr.below (rb:=rb) hb2)
 have HN:=lh (Z14 (w1.alloc (.cells #[.pointer (some ⟨b0.b,0,none⟩)] 22)) rb 12 ⟨#[]⟩ (some ⟨w1.heap.size,0,none⟩) 1 1);obtain ⟨sb,hsb⟩:=zX w1.heap.size
 rw [← hsb] at HN hA hb2 hR2 hF2;go_wp2_with fail
 rw [← hsb];refine HN.out.mono ?_;rintro e w2 ⟨rfl,hw2⟩;have hsz:(w1.alloc (.cells #[.pointer (some ⟨b0.b,0,none⟩)] 22)).heap.size=sb + 1:=by rw [hsb]; simp
 rw [hsz];obtain ⟨nb,hnb⟩:=zX (sb + 1)
 rw [← hnb] at hA ⊢;have hA:Got w B w2 (.mk nb (.slice (some ⟨sb,0,none⟩) 1 1) 12 ⟨#[]⟩ 0 [b0]) (.mk 12 ⟨#[]⟩ 0 [t0]):=by rw [hw2]; exact hA
 rw [← hw2] at hR2 hF2;have N:=lh hA;have FQ:=lh hF2;have PQ:=lh (HP.out.next hR2 hF2 HL.out);have HSB:=lh hsb;clear hG1 hR1 hF1 hb1 hb2 hA hR2 hF2 HN hsb hw2 hsz hnb HC;by_cases hc:isT Z0t us=true
 ·have hq := HQ0.out;unfold Zhm at hq;rw [Yb hc] at hq;have HQ1 := lh hq;have HT := Z1g _ rb us d Z0t PQ.out.rd hc;unfold Z0t at HT;have HT := lh HT;clear hc hq;go_wp2_with fail
  refine HT.out.mono ?_;rintro e w3 ⟨rfl,hR3,hF3⟩;have N:=lh (N.out.rfr hlt hF3);have PQ:=lh (PQ.out.tail hR3 hF3);have FQ:=lh (FQ.out.trans hF3);clear hR3 hF3 HT;rcases Z2a HQ1.out with ⟨hs,h2⟩ | ⟨hs,rfl⟩
  ·have HT := Z2e _ rb us.tail d Z0v PQ.out.rd hs;unfold Z0v at HT;have HT := lh HT;have HQ2 := lh h2;clear hs h2;go_wp2_with fail
   refine HT.out.mono ?_;rintro e w4 ⟨rfl,hR4,hF4⟩;have N:=lh (N.out.rfr hlt hF4);have PQ:=lh (PQ.out.tail hR4 hF4);have FQ:=lh (FQ.out.trans hF4);clear hR4 hF4 HT;rcases Z3v HQ2.out with ⟨hk,h1⟩ | ⟨hk,rfl⟩
   ·have HT := lh (Z44 _ rb us.tail.tail d PQ.out.rd hk);obtain ⟨s, hs⟩ := zX ((hdT us.tail.tail).text)
    rw [← hs] at HT h1;have HQ3:=lh h1;clear hk h1 hs;go_wp2_with fail
    refine HT.out.mono ?_;rintro e w5 ⟨rfl,hR5,hF5⟩;have N:=lh (N.out.rfr hlt hF5);have PQ:=lh (PQ.out.tail hR5 hF5);have FQ:=lh (FQ.out.trans hF5);clear hR5 hF5 HT;rcases Z2a HQ3.out with ⟨hs,h2⟩ | ⟨hs,rfl⟩
    ·have HT := Z2e _ rb us.tail.tail.tail d Z0u PQ.out.rd hs;unfold Z0u at HT;have HT := lh HT;have H2 := lh h2;clear hs h2;go_wp2_with fail
     refine HT.out.mono ?_;rintro e w6 ⟨rfl,hR6,hF6⟩;have N:=lh (N.out.rfr hlt hF6);have PQ:=lh (PQ.out.tail hR6 hF6);have FQ:=lh (FQ.out.trans hF6);have HL:=lh (show us.tail.tail.tail.tail.length≤ts.length by have:=HL.out; simp only [List.length_tail]; omega);clear hR6 hF6 HT;have hblk:=N.out.at'.blkOf;simp only [ATree.b,ATree.v,ATree.kind,ATree.text,ATree.n] at hblk;have n3:w6.cell? ⟨nb,3,none⟩=some (.slice (some ⟨sb,0,none⟩) 1 1):=by simp [World.cell?,hblk]
     clear hblk;go_wp2_with fail
     refine Zf [0,2,4,6,8,10,12,14,17,19,21,23,25] [13,14,15] (fun W=>W.cell? ⟨nb,3,none⟩=some (.slice (some ⟨sb,0,none⟩) 1 1)) n3 fun _=>?_;simp only [Zh,pD,zD,zE,zF,zG,zH,zI,zJ,zK]
     iterate 8
      first | refine Zb _ ?_ | refine Za ?_
      simp only [Act.put,zA,zB,zC]
     refine Z5 (fun K hK=>?_);go_simp
     have P7:Pre w6.drew rb B d _:=PQ.out.below (Y8 _ _).drew;rcases Z09 H2.out with ⟨⟨c,p⟩,hv,rfl⟩ | ⟨t,vs,hv,hq4⟩
     ·refine (HB.out w6.drew rb B d _ _ P7 hv).mono ?_;rintro e w7 ⟨⟨b,rfl,h1,h2⟩,hF7⟩;exact ⟨rfl,Z0r.pre FQ.out.drew (r:=.error (c,p)) ⟨⟨b,rfl,h1,h2⟩,hF7⟩⟩
     have hvl:=Z1i hv;have HQ4:=lh hq4;refine (HB.out w6.drew rb B d _ _ P7 hv).mono ?_;rintro e w7 ⟨x,rfl,hX,hR7,hF7⟩;have hF67:RFr w6 w7 rb:=(RFr.refl w6 rb).drew.trans hF7;have hN7:=N.out.rfr hlt hF67;have hblk:=hN7.at'.blkOf;simp only [ATree.b,ATree.v,ATree.kind,ATree.text,ATree.n] at hblk;have m3:w7.cell? ⟨nb,3,none⟩=some (.slice (some ⟨sb,0,none⟩) 1 1):=by simp [World.cell?,hblk]
     refine hK _ _ m3 ?_;clear hK K;refine Z5 (fun K hK=>?_);go_simp
     have hb1:Below w7.heap.size w7 (w7.alloc (.cells #[.pointer (some ⟨x.b,0,none⟩)] 22)):=(Y8 _ _).alloc (Y5 _) _;refine hK _ _ ((hb1.cell (p:=⟨nb,3,none⟩) (Y6.1 hblk).1).trans m3) ?_;clear hK K;refine Z5 (fun K hK=>?_);go_simp
     have hA:=Got.one (w0:=w6.drew) (w:=w7) (rb:=rb) (k:=13) (t:=s) (Ya HP.out.le FQ.out.size) hF7 hX;have hb2:Below w7.heap.size w7 ((w7.alloc (.cells #[.pointer (some ⟨x.b,0,none⟩)] 22)).alloc (.cells #[.int .i64 13,.string s,.int .i64 0,.slice (some ⟨w7.heap.size,0,none⟩) 1 1] 38)):=hb1.alloc (by simp) _;refine (Z14 (w7.alloc (.cells #[.pointer (some ⟨x.b,0,none⟩)] 22)) rb 13 s (some ⟨w7.heap.size,0,none⟩) 1 1).mono ?_;rintro e w3' ⟨rfl,hw3'⟩
     have hA:Got w6.drew B w3' (.mk (w7.heap.size + 1) (.slice (some ⟨w7.heap.size,0,none⟩) 1 1) 13 s 0 [x]) (.mk 13 s 0 [t]):=by rw [hw3']; exact hA
     rw [← hw3'] at hb2;have hN3:=hN7.rfr hlt (RFr.below (rb:=rb) hb2);have hR3:=hR7.below hb2;have hF63:RFr w6 w3' rb:=hF67.trans (RFr.below hb2);clear hblk m3 hw3' hb1;have hblk:=hN3.at'.blkOf;simp only [ATree.b,ATree.v,ATree.kind,ATree.text,ATree.n] at hblk;have m3:w3'.cell? ⟨nb,3,none⟩=some (.slice (some ⟨sb,0,none⟩) 1 1):=by simp [World.cell?,hblk]
     have mz:w3'.frozen? ⟨nb,3,none⟩=false:=by simp [World.frozen?,hblk]
     have hnb3:nb < w3'.heap.size:=(Y6.1 hblk).1;have hnd:=hN3.nodup;simp only [ATree.blocks,List.nodup_cons,List.mem_append,Option.mem_toList,not_or] at hnd;have hne:=hnd.1.1;have hk4:([b0]).length≤8:=by simp
     have hsz7:(w7.alloc (.cells #[.pointer (some ⟨x.b,0,none⟩)] 22)).heap.size=w7.heap.size + 1:=by simp
     rw [hsz7];obtain ⟨a,ha⟩:∃ a:ATree,a=.mk (w7.heap.size + 1) (.slice (some ⟨w7.heap.size,0,none⟩) 1 1) 13 s 0 [x]:=⟨_,rfl⟩
     rw [← ha] at hA;have hap:Value.pointer (some ⟨w7.heap.size + 1,0,none⟩)=.pointer (some ⟨a.b,0,none⟩):=by rw [ha]; rfl
     rw [hap];clear ha hap hsz7;have N3:=lh hN3;have A3:=lh hA;have R3:=lh hR3;have F3':=lh (FQ.out.trans hF63);have NE:=lh hne;have NA:=lh (show ∀ y∈(ATree.mk nb (.slice (some ⟨sb,0,none⟩) 1 1) 12 ⟨#[]⟩ 0 [b0]).blocks,y < w6.drew.heap.size from fun y hy=>(N.out.new y hy).2);have HVL:=lh hvl;refine hK _ _ m3 ?_;obtain ⟨i0,hi,hz0,hz1,hz2⟩:=info_parts Tryz.infoPtr;clear hK K hA hR3 hF63 hN3 hblk hnd hne n3 hX hR7 hF7 hF67 hN7 hb2 hv hq4 P7 hvl;refine Z5 (fun K hK=>?_);go_simp
     refine hK _ _ ((Z8 hnb3).trans m3) ?_;clear hK K;refine Z5 (fun K hK=>?_)
     refine step_append_lies _ (by rfl) (.tmp 22) (.tmp 29) 36 (by rfl) B 22 i0 _ 1 8 Tryz.underlying36 hi hz0 hz1 hz2 rfl (by decide) (.slice (some ⟨sb,0,none⟩) 1 1) ([b0]).length (([b0]).map ATree.ptr) (by rfl) (N3.out.at'.rowOf.alloc _) ⟨w3'.heap.size,0,none⟩ 1 1 [a.ptr] (by rfl) rfl (Yi (cs:=#[a.ptr]) (t:=22) (fr:=(0,0)) (heap_alloc_new w3' _)) (by simp [ATree.ptr,Value.oneCell']) (by decide) (by unfold maxLen; omega) (by omega) (by simp; have:=F3'.out.size; have:=HP.out.le; omega) (w3'.heap.size + 1) (by simp) ?_;intro gg cap w4 hown4 hgrow4 hat4 hlt4
     have m4:w4.cell? ⟨nb,3,none⟩=some (.slice (some ⟨sb,0,none⟩) 1 1):=(hgrow4.cell_far ⟨nb,3,none⟩ (by simp; omega) (fun e=>NE.out e.symm)).trans ((Z8 hnb3).trans m3);have mz4:w4.frozen? ⟨nb,3,none⟩=false:=(hgrow4.frozen_far ⟨nb,3,none⟩ (by simp; omega) (fun e=>NE.out e.symm)).trans ((Z0m hnb3).trans mz);refine hK _ _ m4 ?_;clear hK K;simp only [Act.put,zA,zB,zC]
     have hfin:=Got.push hlt HP.out.le N3.out (wA:=w6.drew) NA.out A3.out F3'.out R3.out ((Y8 _ _).alloc (Y5 _) _) hgrow4 hown4 (by rcases hat4 with h | h; (exact .inl h); (exact .inr (by omega))) hlt4;have FIN:=lh hfin;clear hgrow4 hown4 hat4 hlt4 hfin;refine Z6 ?_;go_wp2_with fail
     have hn4:Got w B (w4.setCell ⟨nb,3,none⟩ (.slice (some ⟨gg,0,none⟩) 2 cap)) (.mk nb (.slice (some ⟨gg,0,none⟩) 2 cap) 12 ⟨#[]⟩ 0 [b0,a]) (.mk 12 ⟨#[]⟩ 0 [t0,.mk 13 s 0 [t]]):=by
      have h1:=FIN.out.1;have h2:=N.out.tree;simp only [ATree.tree,Tree.mk.injEq,true_and] at h2;rw [h2] at h1;exact h1
     have hF4:RFr w (w4.setCell ⟨nb,3,none⟩ (.slice (some ⟨gg,0,none⟩) 2 cap)) rb:=FIN.out.2.1;have hR4:Rd (w4.setCell ⟨nb,3,none⟩ (.slice (some ⟨gg,0,none⟩) 2 cap)) rb vs d:=FIN.out.2.2;have hl4:vs.length≤ts.length:=by have:=HVL.out; have:=HL.out; omega
     have hP4:Pre (w4.setCell ⟨nb,3,none⟩ (.slice (some ⟨gg,0,none⟩) 2 cap)) rb B d vs:=HP.out.next hR4 hF4 hl4;obtain ⟨w5,hw5⟩:=zX (w4.setCell ⟨nb,3,none⟩ (.slice (some ⟨gg,0,none⟩) 2 cap))
     have HW5:=lh hw5;rw [← hw5] at hn4 hF4 hP4;have N:=lh hn4;have FQ:=lh hF4;have PQ:=lh hP4;have HQ:=lh (show finT F d [t0,.mk 13 s 0 [t]] vs=some r from HQ4.out);clear hn4 hF4 hR4 hl4 hP4 FIN m4 mz4 NA NE A3 N3 R3 F3' m3 mz hnb3 hk4;rw [← hw5];clear hw5;obtain ⟨c0,rfl⟩:∃ c0:ATree,c0=a:=⟨_,rfl⟩
     obtain ⟨tc,rfl⟩:∃ tc:Tree,tc=t:=⟨_,rfl⟩
     obtain ⟨g2,rfl⟩:∃ g2:Nat,g2=gg:=⟨_,rfl⟩
     obtain ⟨cap2,rfl⟩:∃ c2:Nat,c2=cap:=⟨_,rfl⟩
     obtain ⟨vs2,rfl⟩:∃ c2:List Tok,c2=vs:=⟨_,rfl⟩
     by_cases hf:isT Zt vs2=true
     ·have hq := HQ.out;unfold finT at hq;rw [Yb hf] at hq;have H2 := lh hq;have HT := Z1g _ rb vs2 d Zt PQ.out.rd hf;unfold Zt at HT;have HT := lh HT;clear hf hq;go_wp2_with fail
      refine HT.out.mono ?_;rintro e wf ⟨rfl,hRf,hFf⟩;have N:=lh (N.out.rfr hlt hFf);have PQ:=lh (PQ.out.tail hRf hFf);have FQ:=lh (FQ.out.trans hFf);clear hRf hFf HT;have hblk:=N.out.at'.blkOf;simp only [ATree.b,ATree.v,ATree.kind,ATree.text,ATree.n] at hblk;have n3:wf.cell? ⟨nb,3,none⟩=some (.slice (some ⟨g2,0,none⟩) 2 cap2):=by simp [World.cell?,hblk]
      clear hblk;go_wp2_with fail
      refine Zf [0,2,4,6,8,10,12,15,17,19,21,23] [12,13,14] (fun W=>W.cell? ⟨nb,3,none⟩=some (.slice (some ⟨g2,0,none⟩) 2 cap2)) n3 fun _=>?_;simp only [Zh,pD,zD,zE,zF,zG,zH,zI,zJ,zK]
      iterate 7
       first | refine Zb _ ?_ | refine Za ?_
       simp only [Act.put,zA,zB,zC]
      refine Z5 (fun K hK=>?_);go_simp
      have P7:Pre wf.drew rb B d _:=PQ.out.below (Y8 _ _).drew;rcases Z09 H2.out with ⟨⟨c,p⟩,hv,rfl⟩ | ⟨t,vs,hv,hq4⟩
      ·refine (HB.out wf.drew rb B d _ _ P7 hv).mono ?_;rintro e w7 ⟨⟨b,rfl,h1,h2⟩,hF7⟩;exact ⟨rfl,Z0r.pre FQ.out.drew (r:=.error (c,p)) ⟨⟨b,rfl,h1,h2⟩,hF7⟩⟩
      have hvl:=Z1i hv;have HQ4:=lh hq4;refine (HB.out wf.drew rb B d _ _ P7 hv).mono ?_;rintro e w7 ⟨x,rfl,hX,hR7,hF7⟩;have hF67:RFr wf w7 rb:=(RFr.refl wf rb).drew.trans hF7;have hN7:=N.out.rfr hlt hF67;have hblk:=hN7.at'.blkOf;simp only [ATree.b,ATree.v,ATree.kind,ATree.text,ATree.n] at hblk;have m3:w7.cell? ⟨nb,3,none⟩=some (.slice (some ⟨g2,0,none⟩) 2 cap2):=by simp [World.cell?,hblk]
      refine hK _ _ m3 ?_;clear hK K;refine Z5 (fun K hK=>?_);go_simp
      have hb1:Below w7.heap.size w7 (w7.alloc (.cells #[.pointer (some ⟨x.b,0,none⟩)] 22)):=(Y8 _ _).alloc (Y5 _) _;refine hK _ _ ((hb1.cell (p:=⟨nb,3,none⟩) (Y6.1 hblk).1).trans m3) ?_;clear hK K;refine Z5 (fun K hK=>?_);go_simp
      have hA:=Got.one (w0:=wf.drew) (w:=w7) (rb:=rb) (k:=14) (t:=⟨#[]⟩) (Ya HP.out.le FQ.out.size) hF7 hX;have hb2:Below w7.heap.size w7 ((w7.alloc (.cells #[.pointer (some ⟨x.b,0,none⟩)] 22)).alloc (.cells #[.int .i64 14,.string ⟨#[]⟩,.int .i64 0,.slice (some ⟨w7.heap.size,0,none⟩) 1 1] 38)):=hb1.alloc (by simp) _;refine (Z14 (w7.alloc (.cells #[.pointer (some ⟨x.b,0,none⟩)] 22)) rb 14 ⟨#[]⟩ (some ⟨w7.heap.size,0,none⟩) 1 1).mono ?_;rintro e w3' ⟨rfl,hw3'⟩
      have hA:Got wf.drew B w3' (.mk (w7.heap.size + 1) (.slice (some ⟨w7.heap.size,0,none⟩) 1 1) 14 ⟨#[]⟩ 0 [x]) (.mk 14 ⟨#[]⟩ 0 [t]):=by rw [hw3']; exact hA
      rw [← hw3'] at hb2;have hN3:=hN7.rfr hlt (RFr.below (rb:=rb) hb2);have hR3:=hR7.below hb2;have hF63:RFr wf w3' rb:=hF67.trans (RFr.below hb2);clear hblk m3 hw3' hb1;have hblk:=hN3.at'.blkOf;simp only [ATree.b,ATree.v,ATree.kind,ATree.text,ATree.n] at hblk;have m3:w3'.cell? ⟨nb,3,none⟩=some (.slice (some ⟨g2,0,none⟩) 2 cap2):=by simp [World.cell?,hblk]
      have mz:w3'.frozen? ⟨nb,3,none⟩=false:=by simp [World.frozen?,hblk]
      have hnb3:nb < w3'.heap.size:=(Y6.1 hblk).1;have hnd:=hN3.nodup;simp only [ATree.blocks,List.nodup_cons,List.mem_append,Option.mem_toList,not_or] at hnd;have hne:=hnd.1.1;have hk4:([b0,c0]).length≤8:=by simp
      have hsz7:(w7.alloc (.cells #[.pointer (some ⟨x.b,0,none⟩)] 22)).heap.size=w7.heap.size + 1:=by simp
      rw [hsz7];obtain ⟨a,ha⟩:∃ a:ATree,a=.mk (w7.heap.size + 1) (.slice (some ⟨w7.heap.size,0,none⟩) 1 1) 14 ⟨#[]⟩ 0 [x]:=⟨_,rfl⟩
      rw [← ha] at hA;have hap:Value.pointer (some ⟨w7.heap.size + 1,0,none⟩)=.pointer (some ⟨a.b,0,none⟩):=by rw [ha]; rfl
      rw [hap];clear ha hap hsz7;have N3:=lh hN3;have A3:=lh hA;have R3:=lh hR3;have F3':=lh (FQ.out.trans hF63);have NE:=lh hne;have NA:=lh (show ∀ y∈(ATree.mk nb (.slice (some ⟨g2,0,none⟩) 2 cap2) 12 ⟨#[]⟩ 0 [b0,c0]).blocks,y < wf.drew.heap.size from fun y hy=>(N.out.new y hy).2);have HVL:=lh hvl;refine hK _ _ m3 ?_;obtain ⟨i0,hi,hz0,hz1,hz2⟩:=info_parts Tryz.infoPtr;clear hK K hA hR3 hF63 hN3 hblk hnd hne n3 hX hR7 hF7 hF67 hN7 hb2 hv hq4 P7 hvl;refine Z5 (fun K hK=>?_);go_simp
      refine hK _ _ ((Z8 hnb3).trans m3) ?_;clear hK K;refine Z5 (fun K hK=>?_)
      refine step_append_lies _ (by rfl) (.tmp 39) (.tmp 45) 36 (by rfl) B 22 i0 _ 1 8 Tryz.underlying36 hi hz0 hz1 hz2 rfl (by decide) (.slice (some ⟨g2,0,none⟩) 2 cap2) ([b0,c0]).length (([b0,c0]).map ATree.ptr) (by rfl) (N3.out.at'.rowOf.alloc _) ⟨w3'.heap.size,0,none⟩ 1 1 [a.ptr] (by rfl) rfl (Yi (cs:=#[a.ptr]) (t:=22) (fr:=(0,0)) (heap_alloc_new w3' _)) (by simp [ATree.ptr,Value.oneCell']) (by decide) (by unfold maxLen; omega) (by omega) (by simp; have:=F3'.out.size; have:=HP.out.le; omega) (w3'.heap.size + 1) (by simp) ?_
      intro gg cap w4 hown4 hgrow4 hat4 hlt4;have m4:w4.cell? ⟨nb,3,none⟩=some (.slice (some ⟨g2,0,none⟩) 2 cap2):=(hgrow4.cell_far ⟨nb,3,none⟩ (by simp; omega) (fun e=>NE.out e.symm)).trans ((Z8 hnb3).trans m3);have mz4:w4.frozen? ⟨nb,3,none⟩=false:=(hgrow4.frozen_far ⟨nb,3,none⟩ (by simp; omega) (fun e=>NE.out e.symm)).trans ((Z0m hnb3).trans mz);refine hK _ _ m4 ?_;clear hK K;simp only [Act.put,zA,zB,zC]
      have hfin:=Got.push hlt HP.out.le N3.out (wA:=wf.drew) NA.out A3.out F3'.out R3.out ((Y8 _ _).alloc (Y5 _) _) hgrow4 hown4 (by rcases hat4 with h | h; (exact .inl h); (exact .inr (by omega))) hlt4;have FIN:=lh hfin;clear hgrow4 hown4 hat4 hlt4 hfin;refine Z6 ?_;have hq5:=Yk HQ4.out;have HR5:=lh hq5.symm;have hblk:=FIN.out.1.at'.blkOf;simp only [ATree.b,ATree.v,ATree.kind,ATree.text,ATree.n] at hblk
      have e3:(w4.setCell ⟨nb,3,none⟩ (.slice (some ⟨gg,0,none⟩) (([b0,c0]).length + 1) cap)).cell? ⟨nb,3,none⟩=some (.slice (some ⟨gg,0,none⟩) (([b0,c0]).length + 1) cap):=by unfold World.cell?; rw [hblk]; rfl
      have n1:(((([b0,c0]).length + 1:Nat):Int) == 1)=false:=by simp
      clear hq5 hblk;go_wp2;go_ret;rw [HR5.out];refine ⟨.mk nb (.slice (some ⟨gg,0,none⟩) (([b0,c0]).length + 1) cap) 12 ⟨#[]⟩ 0 ([b0,c0] ++ [a]),rfl,?_,FIN.out.2.2,FIN.out.2.1⟩;have h1:=FIN.out.1;have h2:=N.out.tree;simp only [ATree.tree,Tree.mk.injEq,true_and] at h2;rw [h2] at h1;exact h1
     ·have hf' : isT Zt vs2 = false := by simpa using hf
      have hq:=HQ.out;unfold finT at hq;rw [Y9 hf] at hq;have HQ2:=lh hq;have HT:=Z22 _ rb vs2 d Zt PQ.out.rd hf';unfold Zt at HT;have HT:=lh HT;clear hf hf' hq;go_wp2_with fail
      refine HT.out.mono ?_;rintro e wf ⟨rfl,hBf⟩;have N:=lh (N.out.rfr hlt (RFr.below (rb:=rb) hBf));have PQ:=lh (PQ.out.below hBf);have FQ:=lh (FQ.out.trans (RFr.below (rb:=rb) hBf));have hblk:=N.out.at'.blkOf;simp only [ATree.b,ATree.v,ATree.kind,ATree.text,ATree.n] at hblk;have n3:wf.cell? ⟨nb,3,none⟩=some (.slice (some ⟨g2,0,none⟩) 2 cap2):=by simp [World.cell?,hblk]
      clear hBf HT hblk;have hq:=HQ2.out;rw [Y9 (by simp)] at hq;have HR5:=lh (Yk hq).symm;clear hq;go_wp2;go_ret;rw [HR5.out];exact ⟨_,rfl,N.out,PQ.out.rd,FQ.out⟩
    ·have HT := Z3m _ rb us.tail.tail.tail d Z0u PQ.out.rd hs;unfold Z0u at HT;have HT := lh HT;clear hs;go_wp2_with fail
     refine HT.out.mono ?_;rintro e w9 ⟨⟨b,rfl,h1,h2⟩,hB⟩;exact ⟨rfl,Z0r.err FQ.out ⟨b,rfl,h1,h2⟩ hB⟩
   ·have HT := lh (Z63 _ rb us.tail.tail d PQ.out.rd hk);clear hk;go_wp2_with fail
    refine HT.out.mono ?_;rintro e w9 ⟨⟨b,rfl,h1,h2⟩,hB⟩;exact ⟨rfl,Z0r.err FQ.out ⟨b,rfl,h1,h2⟩ hB⟩
  ·have HT := Z3m _ rb us.tail d Z0v PQ.out.rd hs;unfold Z0v at HT;have HT := lh HT;clear hs;go_wp2_with fail
   refine HT.out.mono ?_;rintro e w9 ⟨⟨b,rfl,h1,h2⟩,hB⟩;exact ⟨rfl,Z0r.err FQ.out ⟨b,rfl,h1,h2⟩ hB⟩
 ·have hc' : isT Z0t us = false := by simpa using hc
  have hq:=HQ0.out;unfold Zhm at hq;rw [Y9 hc] at hq;have HQ:=lh hq;have HT:=Z22 _ rb us d Z0t PQ.out.rd hc';unfold Z0t at HT;have HT:=lh HT;clear hc hc' hq;go_wp2_with fail
  refine HT.out.mono ?_;rintro e w3 ⟨rfl,hB3⟩;have N:=lh (N.out.rfr hlt (RFr.below (rb:=rb) hB3));have PQ:=lh (PQ.out.below hB3);have FQ:=lh (FQ.out.trans (RFr.below (rb:=rb) hB3));clear hB3 HT;by_cases hf:isT Zt us=true
  ·have hq := HQ.out;unfold finT at hq;rw [Yb hf] at hq;have H2 := lh hq;have HT := Z1g _ rb us d Zt PQ.out.rd hf;unfold Zt at HT;have HT := lh HT;clear hf hq;go_wp2_with fail
   refine HT.out.mono ?_;rintro e wf ⟨rfl,hRf,hFf⟩;have N:=lh (N.out.rfr hlt hFf);have PQ:=lh (PQ.out.tail hRf hFf);have FQ:=lh (FQ.out.trans hFf);clear hRf hFf HT;have hblk:=N.out.at'.blkOf;simp only [ATree.b,ATree.v,ATree.kind,ATree.text,ATree.n] at hblk;have n3:wf.cell? ⟨nb,3,none⟩=some (.slice (some ⟨sb,0,none⟩) 1 1):=by simp [World.cell?,hblk]
   clear hblk;go_wp2_with fail
   refine Zf [0,2,4,6,8,10,12,15,17,19,21,23] [12,13,14] (fun W=>W.cell? ⟨nb,3,none⟩=some (.slice (some ⟨sb,0,none⟩) 1 1)) n3 fun _=>?_;simp only [Zh,pD,zD,zE,zF,zG,zH,zI,zJ,zK]
   iterate 7
    first | refine Zb _ ?_ | refine Za ?_
    simp only [Act.put,zA,zB,zC]
   refine Z5 (fun K hK=>?_);go_simp
   have P7:Pre wf.drew rb B d _:=PQ.out.below (Y8 _ _).drew;rcases Z09 H2.out with ⟨⟨c,p⟩,hv,rfl⟩ | ⟨t,vs,hv,hq4⟩
   ·refine (HB.out wf.drew rb B d _ _ P7 hv).mono ?_;rintro e w7 ⟨⟨b,rfl,h1,h2⟩,hF7⟩;exact ⟨rfl,Z0r.pre FQ.out.drew (r:=.error (c,p)) ⟨⟨b,rfl,h1,h2⟩,hF7⟩⟩
   have hvl:=Z1i hv;have HQ4:=lh hq4;refine (HB.out wf.drew rb B d _ _ P7 hv).mono ?_;rintro e w7 ⟨x,rfl,hX,hR7,hF7⟩;have hF67:RFr wf w7 rb:=(RFr.refl wf rb).drew.trans hF7;have hN7:=N.out.rfr hlt hF67;have hblk:=hN7.at'.blkOf;simp only [ATree.b,ATree.v,ATree.kind,ATree.text,ATree.n] at hblk;have m3:w7.cell? ⟨nb,3,none⟩=some (.slice (some ⟨sb,0,none⟩) 1 1):=by simp [World.cell?,hblk]
   refine hK _ _ m3 ?_;clear hK K;refine Z5 (fun K hK=>?_);go_simp
   have hb1:Below w7.heap.size w7 (w7.alloc (.cells #[.pointer (some ⟨x.b,0,none⟩)] 22)):=(Y8 _ _).alloc (Y5 _) _;refine hK _ _ ((hb1.cell (p:=⟨nb,3,none⟩) (Y6.1 hblk).1).trans m3) ?_;clear hK K;refine Z5 (fun K hK=>?_);go_simp
   have hA:=Got.one (w0:=wf.drew) (w:=w7) (rb:=rb) (k:=14) (t:=⟨#[]⟩) (Ya HP.out.le FQ.out.size) hF7 hX;have hb2:Below w7.heap.size w7 ((w7.alloc (.cells #[.pointer (some ⟨x.b,0,none⟩)] 22)).alloc (.cells #[.int .i64 14,.string ⟨#[]⟩,.int .i64 0,.slice (some ⟨w7.heap.size,0,none⟩) 1 1] 38)):=hb1.alloc (by simp) _;refine (Z14 (w7.alloc (.cells #[.pointer (some ⟨x.b,0,none⟩)] 22)) rb 14 ⟨#[]⟩ (some ⟨w7.heap.size,0,none⟩) 1 1).mono ?_;rintro e w3' ⟨rfl,hw3'⟩
   have hA:Got wf.drew B w3' (.mk (w7.heap.size + 1) (.slice (some ⟨w7.heap.size,0,none⟩) 1 1) 14 ⟨#[]⟩ 0 [x]) (.mk 14 ⟨#[]⟩ 0 [t]):=by rw [hw3']; exact hA
   rw [← hw3'] at hb2;have hN3:=hN7.rfr hlt (RFr.below (rb:=rb) hb2);have hR3:=hR7.below hb2;have hF63:RFr wf w3' rb:=hF67.trans (RFr.below hb2);clear hblk m3 hw3' hb1;have hblk:=hN3.at'.blkOf;simp only [ATree.b,ATree.v,ATree.kind,ATree.text,ATree.n] at hblk;have m3:w3'.cell? ⟨nb,3,none⟩=some (.slice (some ⟨sb,0,none⟩) 1 1):=by simp [World.cell?,hblk]
   have mz:w3'.frozen? ⟨nb,3,none⟩=false:=by simp [World.frozen?,hblk]
   have hnb3:nb < w3'.heap.size:=(Y6.1 hblk).1;have hnd:=hN3.nodup;simp only [ATree.blocks,List.nodup_cons,List.mem_append,Option.mem_toList,not_or] at hnd;have hne:=hnd.1.1;have hk4:([b0]).length≤8:=by simp
   have hsz7:(w7.alloc (.cells #[.pointer (some ⟨x.b,0,none⟩)] 22)).heap.size=w7.heap.size + 1:=by simp
   rw [hsz7];obtain ⟨a,ha⟩:∃ a:ATree,a=.mk (w7.heap.size + 1) (.slice (some ⟨w7.heap.size,0,none⟩) 1 1) 14 ⟨#[]⟩ 0 [x]:=⟨_,rfl⟩
   rw [← ha] at hA;have hap:Value.pointer (some ⟨w7.heap.size + 1,0,none⟩)=.pointer (some ⟨a.b,0,none⟩):=by rw [ha]; rfl
   rw [hap];clear ha hap hsz7;have N3:=lh hN3;have A3:=lh hA;have R3:=lh hR3;have F3':=lh (FQ.out.trans hF63);have NE:=lh hne;have NA:=lh (show ∀ y∈(ATree.mk nb (.slice (some ⟨sb,0,none⟩) 1 1) 12 ⟨#[]⟩ 0 [b0]).blocks,y < wf.drew.heap.size from fun y hy=>(N.out.new y hy).2);have HVL:=lh hvl;refine hK _ _ m3 ?_;obtain ⟨i0,hi,hz0,hz1,hz2⟩:=info_parts Tryz.infoPtr;clear hK K hA hR3 hF63 hN3 hblk hnd hne n3 hX hR7 hF7 hF67 hN7 hb2 hv hq4 P7 hvl;refine Z5 (fun K hK=>?_);go_simp
   refine hK _ _ ((Z8 hnb3).trans m3) ?_;clear hK K;refine Z5 (fun K hK=>?_)
   refine step_append_lies _ (by rfl) (.tmp 39) (.tmp 45) 36 (by rfl) B 22 i0 _ 1 8 Tryz.underlying36 hi hz0 hz1 hz2 rfl (by decide) (.slice (some ⟨sb,0,none⟩) 1 1) ([b0]).length (([b0]).map ATree.ptr) (by rfl) (N3.out.at'.rowOf.alloc _) ⟨w3'.heap.size,0,none⟩ 1 1 [a.ptr] (by rfl) rfl (Yi (cs:=#[a.ptr]) (t:=22) (fr:=(0,0)) (heap_alloc_new w3' _)) (by simp [ATree.ptr,Value.oneCell']) (by decide) (by unfold maxLen; omega) (by omega) (by simp; have:=F3'.out.size; have:=HP.out.le; omega) (w3'.heap.size + 1) (by simp) ?_;intro gg cap w4 hown4 hgrow4 hat4 hlt4
   have m4:w4.cell? ⟨nb,3,none⟩=some (.slice (some ⟨sb,0,none⟩) 1 1):=(hgrow4.cell_far ⟨nb,3,none⟩ (by simp; omega) (fun e=>NE.out e.symm)).trans ((Z8 hnb3).trans m3);have mz4:w4.frozen? ⟨nb,3,none⟩=false:=(hgrow4.frozen_far ⟨nb,3,none⟩ (by simp; omega) (fun e=>NE.out e.symm)).trans ((Z0m hnb3).trans mz);refine hK _ _ m4 ?_;clear hK K;simp only [Act.put,zA,zB,zC]
   have hfin:=Got.push hlt HP.out.le N3.out (wA:=wf.drew) NA.out A3.out F3'.out R3.out ((Y8 _ _).alloc (Y5 _) _) hgrow4 hown4 (by rcases hat4 with h | h; (exact .inl h); (exact .inr (by omega))) hlt4;have FIN:=lh hfin;clear hgrow4 hown4 hat4 hlt4 hfin;refine Z6 ?_;have hq5:=Yk HQ4.out;have HR5:=lh hq5.symm;have hblk:=FIN.out.1.at'.blkOf;simp only [ATree.b,ATree.v,ATree.kind,ATree.text,ATree.n] at hblk
   have e3:(w4.setCell ⟨nb,3,none⟩ (.slice (some ⟨gg,0,none⟩) (([b0]).length + 1) cap)).cell? ⟨nb,3,none⟩=some (.slice (some ⟨gg,0,none⟩) (([b0]).length + 1) cap):=by unfold World.cell?; rw [hblk]; rfl
   have n1:(((([b0]).length + 1:Nat):Int) == 1)=false:=by simp
   clear hq5 hblk;go_wp2;go_ret;rw [HR5.out];refine ⟨.mk nb (.slice (some ⟨gg,0,none⟩) (([b0]).length + 1) cap) 12 ⟨#[]⟩ 0 ([b0] ++ [a]),rfl,?_,FIN.out.2.2,FIN.out.2.1⟩;have h1:=FIN.out.1;have h2:=N.out.tree;simp only [ATree.tree,Tree.mk.injEq,true_and] at h2;rw [h2] at h1;exact h1
  ·have hf' : isT Zt us = false := by simpa using hf
   have hq:=HQ.out;unfold finT at hq;rw [Y9 hf] at hq;have HQ2:=lh hq;have HT:=Z22 _ rb us d Zt PQ.out.rd hf';unfold Zt at HT;have HT:=lh HT;clear hf hf' hq;go_wp2_with fail
   refine HT.out.mono ?_;rintro e wf ⟨rfl,hBf⟩;have N:=lh (N.out.rfr hlt (RFr.below (rb:=rb) hBf));have PQ:=lh (PQ.out.below hBf);have FQ:=lh (FQ.out.trans (RFr.below (rb:=rb) hBf));have hblk:=N.out.at'.blkOf;simp only [ATree.b,ATree.v,ATree.kind,ATree.text,ATree.n] at hblk;have n3:wf.cell? ⟨nb,3,none⟩=some (.slice (some ⟨sb,0,none⟩) 1 1):=by simp [World.cell?,hblk]
   clear hBf HT hblk;have hq:=HQ2.out;rw [Yb (show [t0].length=1 from rfl)] at hq;obtain rfl:=Yk hq;have HF:=lh (Z34 wf rb us d 3 PQ.out.rd);clear hq;go_wp2_with fail
   refine HF.out.mono ?_;rintro e w9 ⟨⟨b,rfl,h1,h2⟩,hB⟩;exact ⟨rfl,Z0r.err FQ.out ⟨b,rfl,h1,h2⟩ hB⟩
theorem Zgu (f:Nat) (hBl:Says 73 (fun rb=>#[.pointer (some ⟨rb,0,none⟩),.bool false]) (.block false) f)
 (hD:∀ k m,Says 76 (fun rb=>#[.pointer (some ⟨rb,0,none⟩),.int .i64 k,.bool m]) (.decl k m) f)
 (hFn:∀ s,Says 77 (fun rb=>#[.pointer (some ⟨rb,0,none⟩),.int .i64 5,.string s]) (.func 5 s) f)
 (hA:Says 79 rArg .around f) (hS:Says 53 rArg .stmt f)
 (hV:Says 80 rArg .value f) (hT:Says 81 rArg .try_ f):Says 53 rArg .stmt (f + 1):=by
 intro w rb B d ts r hP hp;have HP:=lh hP;have HBL:=lh hBl;have HD:=lh hD;have HFN:=lh hFn;have HA:=lh hA;have HS:=lh hS;have HV:=lh hV;have HTR:=lh hT;have hlt:=hP.lt;have hq0:=hp;rw [Z0] at hq0;have HQ:=lh hq0;have P0:=lh hP;have F0:=lh (RFr.refl w rb);have hmf:∀ (fn:Fn) (first cap:Array Value) (w:World),(Instr.makeFunc fn first cap).run Tryz.prog w=.ok (.func fn first cap) w:=fun _ _ _ _=>rfl;clear hP hp hBl hD hFn hA hS hV hT hq0;unfold rArg;go_enter Tryz.func53,Tryz.ntmps53
 by_cases h:isT Zi ts=true
 ·have hq := HQ.out;rw [Yb h] at hq;have HQ2 := lh hq;have HB := Z4f w rb ts d Zi P0.out.rd;rw [h] at HB;unfold Zi at HB;have HB := lh HB;clear h hq;go_wp2_with fail
  refine HB.out.mono ?_;rintro e w2 ⟨rfl,hB2⟩;have F2:=lh (F0.out.trans (RFr.below (rb:=rb) hB2));have HC:=HBL.out w2 rb B d _ r (P0.out.below hB2) HQ2.out;simp only at HC;have HC:=lh HC;clear hB2 HB;go_wp2_with fail
  refine HC.out.mono ?_;rcases r with ⟨c,p⟩ | ⟨t,ts'⟩
  ·rintro e wz ⟨⟨b,rfl,h1,h2⟩,hF⟩;exact ⟨rfl,Z0r.pre F2.out (r:=.error (c,p)) ⟨⟨b,rfl,h1,h2⟩,hF⟩⟩
  ·rintro e wz ⟨a,rfl,hG,hR,hF⟩;have HG:=lh (hG.pre F2.out);have HR:=lh hR;have HF:=lh (F2.out.trans hF);clear hG hR hF HC;go_wp2;go_ret;exact ⟨a,rfl,HG.out,HR.out,HF.out⟩
 have h':isT Zi ts=false:=by simpa using h
 have hq:=HQ.out;rw [Y9 h] at hq;have QK0:=lh hq;have HB:=Z4f w rb ts d Zi P0.out.rd;rw [h'] at HB;unfold Zi at HB;have HB:=lh HB;clear h h' hq;go_wp2_with fail
 refine HB.out.mono ?_;rintro e wk0 ⟨rfl,hB2⟩;have PK0:=lh (P0.out.below hB2);have FK0:=lh (F0.out.trans (RFr.below (rb:=rb) hB2));clear hB2 HB P0 F0 HQ;by_cases h:isT Zs ts=true
 ·have hq := QK0.out;rw [Yb h] at hq;have HQ2 := lh hq;have HT := Z1g wk0 rb ts d Zs PK0.out.rd h;unfold Zs at HT;have HT := lh HT;clear h hq;go_wp2_with fail
  refine HT.out.mono ?_;rintro e w2 ⟨rfl,hR2,hF2⟩;have P2:=lh (PK0.out.tail hR2 hF2);have F2:=lh (FK0.out.trans hF2);clear hR2 hF2 HT;have HR:=lh (Yk HQ2.out).symm;have HN:=lh (Z14 w2 rb 16 ⟨#[]⟩ none 0 0);have G3:=lh (Got.leaf (k:=16) (t:=⟨#[]⟩) (n:=0) HP.out.le F2.out);go_wp2_with fail
  refine HN.out.mono ?_;rintro e w3 ⟨rfl,hw3⟩;have hal:Below w2.heap.size w2 w3:=by rw [hw3]; exact (Y8 _ _).alloc (Y5 _) _
  have AL:=lh hal;have HW3:=lh hw3;clear hal hw3 HN;go_wp2;go_ret;rw [HR.out];exact ⟨_,rfl,by rw [HW3.out]; exact G3.out,P2.out.rd.below AL.out,F2.out.trans (RFr.below AL.out)⟩
 have h':isT Zs ts=false:=by simpa using h
 have hq:=QK0.out;rw [Y9 h] at hq;have QK1:=lh hq;have HT:=Z22 wk0 rb ts d Zs PK0.out.rd h';unfold Zs at HT;have HT:=lh HT;clear h h' hq;go_wp2_with fail
 refine HT.out.mono ?_;rintro e wk1 ⟨rfl,hB2⟩;have PK1:=lh (PK0.out.below hB2);have FK1:=lh (FK0.out.trans (RFr.below (rb:=rb) hB2));clear hB2 HT PK0 FK0 QK0;by_cases h:isT Z19 ts=true
 ·have hq := QK1.out;rw [Yb h] at hq;have HQ2 := lh hq;have HT := Z1g wk1 rb ts d Z19 PK1.out.rd h;unfold Z19 at HT;have HT := lh HT;clear h hq;go_wp2_with fail
  refine HT.out.mono ?_;rintro e w2 ⟨rfl,hR2,hF2⟩;have P2:=lh (PK1.out.tail hR2 hF2);have F2:=lh (FK1.out.trans hF2);clear hR2 hF2 HT;rcases Z09 HQ2.out with ⟨⟨c,p⟩,hv,rfl⟩ | ⟨t,vs,hv,hq4⟩
  ·have HC := HD.out 2 false w2 rb B d _ _ P2.out hv;simp only at HC;have HC := lh HC;clear hv;go_wp2_with fail
   refine HC.out.mono ?_;rintro e wz ⟨⟨b,rfl,h1,h2⟩,hF⟩;exact ⟨rfl,Z0r.pre F2.out (r:=.error (c,p)) ⟨⟨b,rfl,h1,h2⟩,hF⟩⟩
  have HC:=HD.out 2 false w2 rb B d _ _ P2.out hv;simp only at HC;have HC:=lh HC;have HVL:=lh (Z1i hv);have HQ4:=lh hq4;clear hv hq4;go_wp2_with fail
  refine HC.out.mono ?_;rintro e w3 ⟨a,rfl,hG,hR,hF⟩;have HE:=lh (Z6u w w3 rb B d vs a t r (P2.out.next hR hF HVL.out) (hG.pre F2.out) (F2.out.trans hF) HQ4.out);clear hG hR hF HC;go_wp2_with fail
  refine HE.out.mono ?_;rcases r with ⟨c,p⟩ | ⟨t,ts'⟩
  ·rintro e wz ⟨⟨b,rfl,h1,h2⟩,hF⟩;exact ⟨rfl,⟨b,rfl,h1,h2⟩,hF⟩
  ·rintro e wz ⟨az,rfl,hG,hR,hF⟩;have HG:=lh hG;have HR:=lh hR;have HF:=lh hF;clear hG hR hF HE;go_wp2;go_ret;exact ⟨az,rfl,HG.out,HR.out,HF.out⟩
 have h':isT Z19 ts=false:=by simpa using h
 have hq:=QK1.out;rw [Y9 h] at hq;have QK2:=lh hq;have HT:=Z22 wk1 rb ts d Z19 PK1.out.rd h';unfold Z19 at HT;have HT:=lh HT;clear h h' hq;go_wp2_with fail
 refine HT.out.mono ?_;rintro e wk2 ⟨rfl,hB2⟩;have PK2:=lh (PK1.out.below hB2);have FK2:=lh (FK1.out.trans (RFr.below (rb:=rb) hB2));clear hB2 HT PK1 FK1 QK1;by_cases h:isT Z1c ts=true
 ·have hq := QK2.out;rw [Yb h] at hq;have HQ2 := lh hq;have HT := Z1g wk2 rb ts d Z1c PK2.out.rd h;unfold Z1c at HT;have HT := lh HT;clear h hq;go_wp2_with fail
  refine HT.out.mono ?_;rintro e w2 ⟨rfl,hR2,hF2⟩;have P2:=lh (PK2.out.tail hR2 hF2);have F2:=lh (FK2.out.trans hF2);clear hR2 hF2 HT;rcases Z09 HQ2.out with ⟨⟨c,p⟩,hv,rfl⟩ | ⟨t,vs,hv,hq4⟩
  ·have HC := HD.out 3 false w2 rb B d _ _ P2.out hv;simp only at HC;have HC := lh HC;clear hv;go_wp2_with fail
   refine HC.out.mono ?_;rintro e wz ⟨⟨b,rfl,h1,h2⟩,hF⟩;exact ⟨rfl,Z0r.pre F2.out (r:=.error (c,p)) ⟨⟨b,rfl,h1,h2⟩,hF⟩⟩
  have HC:=HD.out 3 false w2 rb B d _ _ P2.out hv;simp only at HC;have HC:=lh HC;have HVL:=lh (Z1i hv);have HQ4:=lh hq4;clear hv hq4;go_wp2_with fail
  refine HC.out.mono ?_;rintro e w3 ⟨a,rfl,hG,hR,hF⟩;have HE:=lh (Z6u w w3 rb B d vs a t r (P2.out.next hR hF HVL.out) (hG.pre F2.out) (F2.out.trans hF) HQ4.out);clear hG hR hF HC;go_wp2_with fail
  refine HE.out.mono ?_;rcases r with ⟨c,p⟩ | ⟨t,ts'⟩
  ·rintro e wz ⟨⟨b,rfl,h1,h2⟩,hF⟩;exact ⟨rfl,⟨b,rfl,h1,h2⟩,hF⟩
  ·rintro e wz ⟨az,rfl,hG,hR,hF⟩;have HG:=lh hG;have HR:=lh hR;have HF:=lh hF;clear hG hR hF HE;go_wp2;go_ret;exact ⟨az,rfl,HG.out,HR.out,HF.out⟩
 have h':isT Z1c ts=false:=by simpa using h
 have hq:=QK2.out;rw [Y9 h] at hq;have QK3:=lh hq;have HT:=Z22 wk2 rb ts d Z1c PK2.out.rd h';unfold Z1c at HT;have HT:=lh HT;clear h h' hq;go_wp2_with fail
 refine HT.out.mono ?_;rintro e wk3 ⟨rfl,hB2⟩;have PK3:=lh (PK2.out.below hB2);have FK3:=lh (FK2.out.trans (RFr.below (rb:=rb) hB2));clear hB2 HT PK2 FK2 QK2;by_cases h:isT Z06 ts=true
 ·have hq := QK3.out;rw [Yb h] at hq;have HQ2 := lh hq;have HT := Z1g wk3 rb ts d Z06 PK3.out.rd h;unfold Z06 at HT;have HT := lh HT;clear h hq;go_wp2_with fail
  refine HT.out.mono ?_;rintro e w2 ⟨rfl,hR2,hF2⟩;have P2:=lh (PK3.out.tail hR2 hF2);have F2:=lh (FK3.out.trans hF2);clear hR2 hF2 HT;rcases Z09 HQ2.out with ⟨⟨c,p⟩,hv,rfl⟩ | ⟨t,vs,hv,hq4⟩
  ·have HC := HD.out 4 true w2 rb B d _ _ P2.out hv;simp only at HC;have HC := lh HC;clear hv;go_wp2_with fail
   refine HC.out.mono ?_;rintro e wz ⟨⟨b,rfl,h1,h2⟩,hF⟩;exact ⟨rfl,Z0r.pre F2.out (r:=.error (c,p)) ⟨⟨b,rfl,h1,h2⟩,hF⟩⟩
  have HC:=HD.out 4 true w2 rb B d _ _ P2.out hv;simp only at HC;have HC:=lh HC;have HVL:=lh (Z1i hv);have HQ4:=lh hq4;clear hv hq4;go_wp2_with fail
  refine HC.out.mono ?_;rintro e w3 ⟨a,rfl,hG,hR,hF⟩;have HE:=lh (Z6u w w3 rb B d vs a t r (P2.out.next hR hF HVL.out) (hG.pre F2.out) (F2.out.trans hF) HQ4.out);clear hG hR hF HC;go_wp2_with fail
  refine HE.out.mono ?_;rcases r with ⟨c,p⟩ | ⟨t,ts'⟩
  ·rintro e wz ⟨⟨b,rfl,h1,h2⟩,hF⟩;exact ⟨rfl,⟨b,rfl,h1,h2⟩,hF⟩
  ·rintro e wz ⟨az,rfl,hG,hR,hF⟩;have HG:=lh hG;have HR:=lh hR;have HF:=lh hF;clear hG hR hF HE;go_wp2;go_ret;exact ⟨az,rfl,HG.out,HR.out,HF.out⟩
 have h':isT Z06 ts=false:=by simpa using h
 have hq:=QK3.out;rw [Y9 h] at hq;have QK4:=lh hq;have HT:=Z22 wk3 rb ts d Z06 PK3.out.rd h';unfold Z06 at HT;have HT:=lh HT;clear h h' hq;go_wp2_with fail
 refine HT.out.mono ?_;rintro e wk4 ⟨rfl,hB2⟩;have PK4:=lh (PK3.out.below hB2);have FK4:=lh (FK3.out.trans (RFr.below (rb:=rb) hB2));clear hB2 HT PK3 FK3 QK3;by_cases h:isT Ze ts=true
 ·have hq := QK4.out;rw [Yb h] at hq;have HQ2 := lh hq;have HT := Z1g wk4 rb ts d Ze PK4.out.rd h;unfold Ze at HT;have HT := lh HT;clear h hq;go_wp2_with fail
  refine HT.out.mono ?_;rintro e w2 ⟨rfl,hR2,hF2⟩;have P2:=lh (PK4.out.tail hR2 hF2);have F2:=lh (FK4.out.trans hF2);clear hR2 hF2 HT;rcases Z3v HQ2.out with ⟨hk,h1⟩ | ⟨hk,rfl⟩
  ·have HC := lh (Z44 w2 rb ts.tail d P2.out.rd hk);obtain ⟨s, hs⟩ := zX ((hdT ts.tail).text)
   rw [← hs] at HC h1;have HQ4:=lh h1;clear hk h1 hs;go_wp2_with fail
   refine HC.out.mono ?_;rintro e w4 ⟨rfl,hR4,hF4⟩;have HC2:=HFN.out s w4 rb B d _ r (P2.out.tail hR4 hF4) HQ4.out;simp only at HC2;have HC2:=lh HC2;have F4:=lh (F2.out.trans hF4);clear hR4 hF4 HC;go_wp2_with fail
   refine HC2.out.mono ?_;rcases r with ⟨c,p⟩ | ⟨t,ts'⟩
   ·rintro e wz ⟨⟨b,rfl,h1,h2⟩,hF⟩;exact ⟨rfl,Z0r.pre F4.out (r:=.error (c,p)) ⟨⟨b,rfl,h1,h2⟩,hF⟩⟩
   ·rintro e wz ⟨a,rfl,hG,hR,hF⟩;have HG:=lh (hG.pre F4.out);have HR:=lh hR;have HF:=lh (F4.out.trans hF);clear hG hR hF HC2;go_wp2;go_ret;exact ⟨a,rfl,HG.out,HR.out,HF.out⟩
  ·have HC := lh (Z63 w2 rb ts.tail d P2.out.rd hk);clear hk;go_wp2_with fail
   refine HC.out.mono ?_;rintro e w9 ⟨⟨b,rfl,h1,h2⟩,hB⟩;exact ⟨rfl,Z0r.err F2.out ⟨b,rfl,h1,h2⟩ hB⟩
 have h':isT Ze ts=false:=by simpa using h
 have hq:=QK4.out;rw [Y9 h] at hq;have QK5:=lh hq;have HT:=Z22 wk4 rb ts d Ze PK4.out.rd h';unfold Ze at HT;have HT:=lh HT;clear h h' hq;go_wp2_with fail
 refine HT.out.mono ?_;rintro e wk5 ⟨rfl,hB2⟩;have PK5:=lh (PK4.out.below hB2);have FK5:=lh (FK4.out.trans (RFr.below (rb:=rb) hB2));clear hB2 HT PK4 FK4 QK4;by_cases h:isT s_if ts=true
 ·have hq := QK5.out;rw [Yb h] at hq;have HQ2 := lh hq;have HT := Z1g wk5 rb ts d s_if PK5.out.rd h;unfold s_if at HT;have HT := lh HT;clear h hq;go_wp2_with fail
  refine HT.out.mono ?_;rintro e w2 ⟨rfl,hR2,hF2⟩;have P2:=lh (PK5.out.tail hR2 hF2);have F2:=lh (FK5.out.trans hF2);clear hR2 hF2 HT;rcases Z09 HQ2.out with ⟨⟨c,p⟩,hv,rfl⟩ | ⟨t,vs,hv,hq4⟩
  ·have HC := HA.out w2 rb B d _ _ P2.out hv;unfold rArg at HC;have HC := lh HC;clear hv;go_wp2_with fail
   refine HC.out.mono ?_;rintro e wz ⟨⟨b,rfl,h1,h2⟩,hF⟩;exact ⟨rfl,Z0r.pre F2.out (r:=.error (c,p)) ⟨⟨b,rfl,h1,h2⟩,hF⟩⟩
  have HC:=HA.out w2 rb B d _ _ P2.out hv;unfold rArg at HC;have HC:=lh HC;have HVL:=lh (Z1i hv);have HQ4:=lh hq4;clear hv hq4;go_wp2_with fail
  refine HC.out.mono ?_;rintro e w3 ⟨x,rfl,hX,hR3,hF3⟩;have P3:=lh (P2.out.next hR3 hF3 HVL.out);have F3:=lh (F2.out.trans hF3);have X3:=lh (hX.pre F2.out);obtain ⟨xb,hxb⟩:=zX x.b
  have HXB:=lh hxb;rw [← hxb];clear hX hR3 hF3 HC hxb;rcases Z09 HQ4.out with ⟨⟨c,p⟩,hv,rfl⟩ | ⟨ty,us,hv,hq5⟩
  ·have HC := lh (Z10 w3 rb B _ d _ _ P3.out.rd (by have := P3.out.deep; omega) hlt hv fun hd h1 w4 hR hs => HS.out w4 rb B (d + 1) _ _ ⟨hR, hd, hlt, by have := P3.out.le; omega, P3.out.few⟩ h1);clear hv;go_wp2_with fail
   refine HC.out.mono ?_;rintro e wz ⟨⟨b,rfl,h1,h2⟩,hF⟩;exact ⟨rfl,Z0r.pre F3.out (r:=.error (c,p)) ⟨⟨b,rfl,h1,h2⟩,hF⟩⟩
  have HC:=lh (Z10 w3 rb B _ d _ _ P3.out.rd (by have:=P3.out.deep; omega) hlt hv fun hd h1 w4 hR hs=>HS.out w4 rb B (d + 1) _ _ ⟨hR,hd,hlt,by have:=P3.out.le; omega,P3.out.few⟩ h1);have HVL2:=lh (Nat.le_of_lt (Leaves.within (Z24 f .stmt (d + 1) _) ty us hv));have HQ5:=lh hq5;clear hv hq5;go_wp2_with fail
  refine HC.out.mono ?_;rintro e w4 ⟨y,rfl,hY,hR,hF4⟩;have hX4:=X3.out.rfr hlt hF4;have hFW:=F3.out.trans hF4;have hX4':Got w B w4 x t:=hX4;have hb1:Below w4.heap.size w4 (w4.alloc (.cells #[.pointer (some ⟨xb,0,none⟩),.pointer (some ⟨y.b,0,none⟩)] 22)):=(Y8 _ _).alloc (Y5 _) _;have hb2:Below w4.heap.size w4 ((w4.alloc (.cells #[.pointer (some ⟨xb,0,none⟩),.pointer (some ⟨y.b,0,none⟩)] 22)).alloc (.cells #[.int .i64 7,.string ⟨#[]⟩,.int .i64 0,.slice (some ⟨w4.heap.size,0,none⟩) 2 2] 38)):=hb1.alloc (by simp) _
  have hA:=Got.two (k:=7) (t:=⟨#[]⟩) HP.out.le hFW hX4 (wA:=w3) (fun z hz=>(X3.out.new z hz).2) F3.out.size hY;have hR2:=hR.below hb2;have hF2:=hFW.trans (RFr.below (rb:=rb) hb2);have HN:=lh (Z14 (w4.alloc (.cells #[.pointer (some ⟨xb,0,none⟩),.pointer (some ⟨y.b,0,none⟩)] 22)) rb 7 ⟨#[]⟩ (some ⟨w4.heap.size,0,none⟩) 2 2);obtain ⟨sb,hsb⟩:=zX w4.heap.size
  rw [← hsb] at HN hA hb2 hR2 hF2;have HSB:=lh hsb;go_wp2_with fail
  rw [← HSB.out];refine HN.out.mono ?_;rintro e wn ⟨rfl,hwn⟩;have hb3:Below w4.heap.size w4 wn:=by rw [hwn]; exact hb1.alloc (by simp) _
  have hsz:(w4.alloc (.cells #[.pointer (some ⟨xb,0,none⟩),.pointer (some ⟨y.b,0,none⟩)] 22)).heap.size=sb + 1:=by rw [HSB.out]; simp
  rw [hsz];obtain ⟨nb,hnb⟩:=zX (sb + 1)
  rw [← hnb] at hA ⊢;have hA:Got w B wn (.mk nb (.slice (some ⟨sb,0,none⟩) 2 2) 7 ⟨#[]⟩ 0 [x,y]) (.mk 7 ⟨#[]⟩ 0 [t,ty]):=by rw [hwn,HXB.out]; exact hA
  rw [← hwn] at hR2 hF2;have N:=lh hA;have FQ:=lh hF2;have PQ:=lh ((P3.out.next (ts':=us) hR hF4 HVL2.out).next hR2 (RFr.below (rb:=rb) hb3) (Y5 _));clear hX4 hX4' hFW hY hR hF4 hb1 hb2 hb3 hA hR2 hF2 HN hsb hwn hsz hnb HC;by_cases he:isT Z1y us=true
  ·have hq := HQ5.out;rw [Yb he] at hq;have H2 := lh hq;have HT := Z1g wn rb us d Z1y PQ.out.rd he;unfold Z1y at HT;have HT := lh HT;clear he hq;go_wp2_with fail
   refine HT.out.mono ?_;rintro e wf ⟨rfl,hRf,hFf⟩;have N:=lh (N.out.rfr hlt hFf);have PQ:=lh (PQ.out.tail hRf hFf);have FQ:=lh (FQ.out.trans hFf);clear hRf hFf HT;have hblk:=N.out.at'.blkOf;simp only [ATree.b,ATree.v,ATree.kind,ATree.text,ATree.n] at hblk;have n3:wf.cell? ⟨nb,3,none⟩=some (.slice (some ⟨sb,0,none⟩) 2 2):=by simp [World.cell?,hblk]
   clear hblk;go_wp2_with fail
   refine Zf [0,2,4,6,8,10,12,14,17,19,21] [11,12,13] (fun W=>W.cell? ⟨nb,3,none⟩=some (.slice (some ⟨sb,0,none⟩) 2 2)) n3 fun _=>?_;simp only [Zh,pD,zD,zE,zF,zG,zH,zI,zJ,zK]
   iterate 8
    first | refine Zb _ ?_ | refine Za ?_
    simp only [Act.put,zA,zB,zC]
   refine Z5 (fun K hK=>?_);go_simp
   have P7:Pre wf.drew rb B d _:=PQ.out.below (Y8 _ _).drew;rcases Z09 H2.out with ⟨⟨c,p⟩,hv,rfl⟩ | ⟨t6,vs6,hv,hq6⟩
   ·refine (Z10 wf.drew rb B _ d _ _ P7.rd (by have:=P7.deep; omega) hlt hv fun hd h1 w4 hR hs=>HS.out w4 rb B (d + 1) _ _ ⟨hR,hd,hlt,by have:=P7.le; omega,P7.few⟩ h1).mono ?_;rintro e wz ⟨⟨b,rfl,h1,h2⟩,hF⟩;exact ⟨rfl,Z0r.pre FQ.out.drew (r:=.error (c,p)) ⟨⟨b,rfl,h1,h2⟩,hF⟩⟩
   have HVL6:=lh (Nat.le_of_lt (Leaves.within (Z24 f .stmt (d + 1) _) t6 vs6 hv));have HQ6:=lh hq6;refine (Z10 wf.drew rb B _ d _ _ P7.rd (by have:=P7.deep; omega) hlt hv fun hd h1 w4 hR hs=>HS.out w4 rb B (d + 1) _ _ ⟨hR,hd,hlt,by have:=P7.le; omega,P7.few⟩ h1).mono ?_;rintro e w3' ⟨a,rfl,hA,hR3,hF7⟩;have hF63:RFr wf w3' rb:=(RFr.refl wf rb).drew.trans hF7;have hN3:=N.out.rfr hlt hF63;have hblk:=hN3.at'.blkOf;simp only [ATree.b,ATree.v,ATree.kind,ATree.text,ATree.n] at hblk
   have m3:w3'.cell? ⟨nb,3,none⟩=some (.slice (some ⟨sb,0,none⟩) 2 2):=by simp [World.cell?,hblk]
   have mz:w3'.frozen? ⟨nb,3,none⟩=false:=by simp [World.frozen?,hblk]
   have hnb3:nb < w3'.heap.size:=(Y6.1 hblk).1;have hnd:=hN3.nodup;simp only [ATree.blocks,List.nodup_cons,List.mem_append,Option.mem_toList,not_or] at hnd;have hne:=hnd.1.1;have hk4:([x,y]).length≤8:=by simp
   have N3:=lh hN3;have A3:=lh hA;have R3:=lh hR3;have F3':=lh (FQ.out.trans hF63);have NE:=lh hne;have NA:=lh (show ∀ z∈(ATree.mk nb (.slice (some ⟨sb,0,none⟩) 2 2) 7 ⟨#[]⟩ 0 [x,y]).blocks,z < wf.drew.heap.size from fun z hz=>(N.out.new z hz).2);refine hK _ _ m3 ?_;obtain ⟨i0,hi,hz0,hz1,hz2⟩:=info_parts Tryz.infoPtr;clear hK K hA hR3 hF63 hN3 hblk hnd hne n3 hF7 hv hq6 P7;refine Z5 (fun K hK=>?_);go_simp
   refine hK _ _ ((Z8 hnb3).trans m3) ?_;clear hK K;refine Z5 (fun K hK=>?_)
   refine step_append_lies _ (by rfl) (.tmp 65) (.tmp 70) 36 (by rfl) B 22 i0 _ 1 8 Tryz.underlying36 hi hz0 hz1 hz2 rfl (by decide) (.slice (some ⟨sb,0,none⟩) 2 2) ([x,y]).length (([x,y]).map ATree.ptr) (by rfl) (N3.out.at'.rowOf.alloc _) ⟨w3'.heap.size,0,none⟩ 1 1 [a.ptr] (by rfl) rfl (Yi (cs:=#[a.ptr]) (t:=22) (fr:=(0,0)) (heap_alloc_new w3' _)) (by simp [ATree.ptr,Value.oneCell']) (by decide) (by unfold maxLen; omega) (by omega) (by simp; have:=F3'.out.size; have:=HP.out.le; omega) (w3'.heap.size + 1) (by simp) ?_;intro gg cap w4 hown4 hgrow4 hat4 hlt4
   have m4:w4.cell? ⟨nb,3,none⟩=some (.slice (some ⟨sb,0,none⟩) 2 2):=(hgrow4.cell_far ⟨nb,3,none⟩ (by simp; omega) (fun e=>NE.out e.symm)).trans ((Z8 hnb3).trans m3);have mz4:w4.frozen? ⟨nb,3,none⟩=false:=(hgrow4.frozen_far ⟨nb,3,none⟩ (by simp; omega) (fun e=>NE.out e.symm)).trans ((Z0m hnb3).trans mz);refine hK _ _ m4 ?_;clear hK K;simp only [Act.put,zA,zB,zC]
   have hfin:=Got.push hlt HP.out.le N3.out (wA:=wf.drew) NA.out A3.out F3'.out R3.out ((Y8 _ _).alloc (Y5 _) _) hgrow4 hown4 (by rcases hat4 with h | h; (exact .inl h); (exact .inr (by omega))) hlt4;have FIN:=lh hfin;clear hgrow4 hown4 hat4 hlt4 hfin;refine Z6 ?_;have HR5:=lh (Yk HQ6.out).symm;go_wp2;go_ret;rw [HR5.out];refine ⟨.mk nb (.slice (some ⟨gg,0,none⟩) (([x,y]:List ATree).length + 1) cap) 7 ⟨#[]⟩ 0 ([x,y] ++ [a]),rfl,?_,FIN.out.2.2,FIN.out.2.1⟩;have h1:=FIN.out.1;have h2:=N.out.tree
   simp only [ATree.tree,Tree.mk.injEq,true_and] at h2;rw [h2] at h1;exact h1
  ·have he' : isT Z1y us = false := by simpa using he
   have hq:=HQ5.out;rw [Y9 he] at hq;have HR5:=lh (Yk hq).symm;have HT:=Z22 wn rb us d Z1y PQ.out.rd he';unfold Z1y at HT;have HT:=lh HT;clear he he' hq;go_wp2_with fail
   refine HT.out.mono ?_;rintro e wf ⟨rfl,hBf⟩;have N:=lh (N.out.rfr hlt (RFr.below (rb:=rb) hBf));have R:=lh (PQ.out.rd.below hBf);have FQ:=lh (FQ.out.trans (RFr.below (rb:=rb) hBf));clear hBf HT;go_wp2;go_ret;rw [HR5.out];exact ⟨_,rfl,N.out,R.out,FQ.out⟩
 have h':isT s_if ts=false:=by simpa using h
 have hq:=QK5.out;rw [Y9 h] at hq;have QK6:=lh hq;have HT:=Z22 wk5 rb ts d s_if PK5.out.rd h';unfold s_if at HT;have HT:=lh HT;clear h h' hq;go_wp2_with fail
 refine HT.out.mono ?_;rintro e wk6 ⟨rfl,hB2⟩;have PK6:=lh (PK5.out.below hB2);have FK6:=lh (FK5.out.trans (RFr.below (rb:=rb) hB2));clear hB2 HT PK5 FK5 QK5;by_cases h:isT Zz ts=true
 ·have hq := QK6.out;rw [Yb h] at hq;have HQ2 := lh hq;have HT := Z1g wk6 rb ts d Zz PK6.out.rd h;unfold Zz at HT;have HT := lh HT;clear h hq;go_wp2_with fail
  refine HT.out.mono ?_;rintro e w2 ⟨rfl,hR2,hF2⟩;have P2:=lh (PK6.out.tail hR2 hF2);have F2:=lh (FK6.out.trans hF2);clear hR2 hF2 HT;rcases Z09 HQ2.out with ⟨⟨c,p⟩,hv,rfl⟩ | ⟨t,vs,hv,hq4⟩
  ·have HC := HA.out w2 rb B d _ _ P2.out hv;unfold rArg at HC;have HC := lh HC;clear hv;go_wp2_with fail
   refine HC.out.mono ?_;rintro e wz ⟨⟨b,rfl,h1,h2⟩,hF⟩;exact ⟨rfl,Z0r.pre F2.out (r:=.error (c,p)) ⟨⟨b,rfl,h1,h2⟩,hF⟩⟩
  have HC:=HA.out w2 rb B d _ _ P2.out hv;unfold rArg at HC;have HC:=lh HC;have HVL:=lh (Z1i hv);have HQ4:=lh hq4;clear hv hq4;go_wp2_with fail
  refine HC.out.mono ?_;rintro e w3 ⟨x,rfl,hX,hR3,hF3⟩;have P3:=lh (P2.out.next hR3 hF3 HVL.out);have F3:=lh (F2.out.trans hF3);have X3:=lh (hX.pre F2.out);obtain ⟨xb,hxb⟩:=zX x.b
  have HXB:=lh hxb;rw [← hxb];clear hX hR3 hF3 HC hxb;rcases Z09 HQ4.out with ⟨⟨c,p⟩,hv,rfl⟩ | ⟨ty,us,hv,hq5⟩
  ·have HC := lh (Z10 w3 rb B _ d _ _ P3.out.rd (by have := P3.out.deep; omega) hlt hv fun hd h1 w4 hR hs => HS.out w4 rb B (d + 1) _ _ ⟨hR, hd, hlt, by have := P3.out.le; omega, P3.out.few⟩ h1);clear hv;go_wp2_with fail
   refine HC.out.mono ?_;rintro e wz ⟨⟨b,rfl,h1,h2⟩,hF⟩;exact ⟨rfl,Z0r.pre F3.out (r:=.error (c,p)) ⟨⟨b,rfl,h1,h2⟩,hF⟩⟩
  have HC:=lh (Z10 w3 rb B _ d _ _ P3.out.rd (by have:=P3.out.deep; omega) hlt hv fun hd h1 w4 hR hs=>HS.out w4 rb B (d + 1) _ _ ⟨hR,hd,hlt,by have:=P3.out.le; omega,P3.out.few⟩ h1);have HVL2:=lh (Nat.le_of_lt (Leaves.within (Z24 f .stmt (d + 1) _) ty us hv));have HQ5:=lh hq5;clear hv hq5;go_wp2_with fail
  refine HC.out.mono ?_;rintro e w4 ⟨y,rfl,hY,hR,hF4⟩;have hX4:=X3.out.rfr hlt hF4;have hFW:=F3.out.trans hF4;have hX4':Got w B w4 x t:=hX4;have hb1:Below w4.heap.size w4 (w4.alloc (.cells #[.pointer (some ⟨xb,0,none⟩),.pointer (some ⟨y.b,0,none⟩)] 22)):=(Y8 _ _).alloc (Y5 _) _;have hb2:Below w4.heap.size w4 ((w4.alloc (.cells #[.pointer (some ⟨xb,0,none⟩),.pointer (some ⟨y.b,0,none⟩)] 22)).alloc (.cells #[.int .i64 8,.string ⟨#[]⟩,.int .i64 0,.slice (some ⟨w4.heap.size,0,none⟩) 2 2] 38)):=hb1.alloc (by simp) _
  have hA:=Got.two (k:=8) (t:=⟨#[]⟩) HP.out.le hFW hX4 (wA:=w3) (fun z hz=>(X3.out.new z hz).2) F3.out.size hY;have hR2:=hR.below hb2;have hF2:=hFW.trans (RFr.below (rb:=rb) hb2);have HN:=lh (Z14 (w4.alloc (.cells #[.pointer (some ⟨xb,0,none⟩),.pointer (some ⟨y.b,0,none⟩)] 22)) rb 8 ⟨#[]⟩ (some ⟨w4.heap.size,0,none⟩) 2 2);obtain ⟨sb,hsb⟩:=zX w4.heap.size
  rw [← hsb] at HN hA hb2 hR2 hF2;have HSB:=lh hsb;go_wp2_with fail
  rw [← HSB.out];refine HN.out.mono ?_;rintro e wn ⟨rfl,hwn⟩;have hb3:Below w4.heap.size w4 wn:=by rw [hwn]; exact hb1.alloc (by simp) _
  have hsz:(w4.alloc (.cells #[.pointer (some ⟨xb,0,none⟩),.pointer (some ⟨y.b,0,none⟩)] 22)).heap.size=sb + 1:=by rw [HSB.out]; simp
  rw [hsz];obtain ⟨nb,hnb⟩:=zX (sb + 1)
  rw [← hnb] at hA ⊢;have hA:Got w B wn (.mk nb (.slice (some ⟨sb,0,none⟩) 2 2) 8 ⟨#[]⟩ 0 [x,y]) (.mk 8 ⟨#[]⟩ 0 [t,ty]):=by rw [hwn,HXB.out]; exact hA
  rw [← hwn] at hR2 hF2;have N:=lh hA;have FQ:=lh hF2;have PQ:=lh ((P3.out.next (ts':=us) hR hF4 HVL2.out).next hR2 (RFr.below (rb:=rb) hb3) (Y5 _));clear hX4 hX4' hFW hY hR hF4 hb1 hb2 hb3 hA hR2 hF2 HN hsb hwn hsz hnb HC;have HR5:=lh (Yk HQ5.out).symm;go_wp2;go_ret;rw [HR5.out];exact ⟨_,rfl,N.out,PQ.out.rd,FQ.out⟩
 have h':isT Zz ts=false:=by simpa using h
 have hq:=QK6.out;rw [Y9 h] at hq;have QK7:=lh hq;have HT:=Z22 wk6 rb ts d Zz PK6.out.rd h';unfold Zz at HT;have HT:=lh HT;clear h h' hq;go_wp2_with fail
 refine HT.out.mono ?_;rintro e wk7 ⟨rfl,hB2⟩;have PK7:=lh (PK6.out.below hB2);have FK7:=lh (FK6.out.trans (RFr.below (rb:=rb) hB2));clear hB2 HT PK6 FK6 QK6;by_cases h:isT Z0d ts=true
 ·have hq := QK7.out;rw [Yb h] at hq;have HQ2 := lh hq;have HT := Z1g wk7 rb ts d Z0d PK7.out.rd h;unfold Z0d at HT;have HT := lh HT;clear h hq;go_wp2_with fail
  refine HT.out.mono ?_;rintro e w2 ⟨rfl,hR2,hF2⟩;have P2:=lh (PK7.out.tail hR2 hF2);have F2:=lh (FK7.out.trans hF2);clear hR2 hF2 HT;rcases Z09 HQ2.out with ⟨⟨c,p⟩,hv,rfl⟩ | ⟨t,vs,hv,hq4⟩
  ·have HC := HA.out w2 rb B d _ _ P2.out hv;unfold rArg at HC;have HC := lh HC;clear hv;go_wp2_with fail
   refine HC.out.mono ?_;rintro e wz ⟨⟨b,rfl,h1,h2⟩,hF⟩;exact ⟨rfl,Z0r.pre F2.out (r:=.error (c,p)) ⟨⟨b,rfl,h1,h2⟩,hF⟩⟩
  have HC:=HA.out w2 rb B d _ _ P2.out hv;unfold rArg at HC;have HC:=lh HC;have HVL:=lh (Z1i hv);have HQ4:=lh hq4;clear hv hq4;go_wp2_with fail
  refine HC.out.mono ?_;rintro e w3 ⟨x,rfl,hX,hR3,hF3⟩;have P3:=lh (P2.out.next hR3 hF3 HVL.out);have F3:=lh (F2.out.trans hF3);have X3:=lh (hX.pre F2.out);obtain ⟨xb,hxb⟩:=zX x.b
  have HXB:=lh hxb;rw [← hxb];clear hX hR3 hF3 HC hxb;rcases Z09 HQ4.out with ⟨⟨c,p⟩,hv,rfl⟩ | ⟨ty,us,hv,hq5⟩
  ·have HC := lh (Z10 w3 rb B _ d _ _ P3.out.rd (by have := P3.out.deep; omega) hlt hv fun hd h1 w4 hR hs => HS.out w4 rb B (d + 1) _ _ ⟨hR, hd, hlt, by have := P3.out.le; omega, P3.out.few⟩ h1);clear hv;go_wp2_with fail
   refine HC.out.mono ?_;rintro e wz ⟨⟨b,rfl,h1,h2⟩,hF⟩;exact ⟨rfl,Z0r.pre F3.out (r:=.error (c,p)) ⟨⟨b,rfl,h1,h2⟩,hF⟩⟩
  have HC:=lh (Z10 w3 rb B _ d _ _ P3.out.rd (by have:=P3.out.deep; omega) hlt hv fun hd h1 w4 hR hs=>HS.out w4 rb B (d + 1) _ _ ⟨hR,hd,hlt,by have:=P3.out.le; omega,P3.out.few⟩ h1);have HVL2:=lh (Nat.le_of_lt (Leaves.within (Z24 f .stmt (d + 1) _) ty us hv));have HQ5:=lh hq5;clear hv hq5;go_wp2_with fail
  refine HC.out.mono ?_;rintro e w4 ⟨y,rfl,hY,hR,hF4⟩;have hX4:=X3.out.rfr hlt hF4;have hFW:=F3.out.trans hF4;have hX4':Got w B w4 x t:=hX4;have hb1:Below w4.heap.size w4 (w4.alloc (.cells #[.pointer (some ⟨xb,0,none⟩),.pointer (some ⟨y.b,0,none⟩)] 22)):=(Y8 _ _).alloc (Y5 _) _;have hb2:Below w4.heap.size w4 ((w4.alloc (.cells #[.pointer (some ⟨xb,0,none⟩),.pointer (some ⟨y.b,0,none⟩)] 22)).alloc (.cells #[.int .i64 9,.string ⟨#[]⟩,.int .i64 0,.slice (some ⟨w4.heap.size,0,none⟩) 2 2] 38)):=hb1.alloc (by simp) _
  have hA:=Got.two (k:=9) (t:=⟨#[]⟩) HP.out.le hFW hX4 (wA:=w3) (fun z hz=>(X3.out.new z hz).2) F3.out.size hY;have hR2:=hR.below hb2;have hF2:=hFW.trans (RFr.below (rb:=rb) hb2);have HN:=lh (Z14 (w4.alloc (.cells #[.pointer (some ⟨xb,0,none⟩),.pointer (some ⟨y.b,0,none⟩)] 22)) rb 9 ⟨#[]⟩ (some ⟨w4.heap.size,0,none⟩) 2 2);obtain ⟨sb,hsb⟩:=zX w4.heap.size
  rw [← hsb] at HN hA hb2 hR2 hF2;have HSB:=lh hsb;go_wp2_with fail
  rw [← HSB.out];refine HN.out.mono ?_;rintro e wn ⟨rfl,hwn⟩;have hb3:Below w4.heap.size w4 wn:=by rw [hwn]; exact hb1.alloc (by simp) _
  have hsz:(w4.alloc (.cells #[.pointer (some ⟨xb,0,none⟩),.pointer (some ⟨y.b,0,none⟩)] 22)).heap.size=sb + 1:=by rw [HSB.out]; simp
  rw [hsz];obtain ⟨nb,hnb⟩:=zX (sb + 1)
  rw [← hnb] at hA ⊢;have hA:Got w B wn (.mk nb (.slice (some ⟨sb,0,none⟩) 2 2) 9 ⟨#[]⟩ 0 [x,y]) (.mk 9 ⟨#[]⟩ 0 [t,ty]):=by rw [hwn,HXB.out]; exact hA
  rw [← hwn] at hR2 hF2;have N:=lh hA;have FQ:=lh hF2;have PQ:=lh ((P3.out.next (ts':=us) hR hF4 HVL2.out).next hR2 (RFr.below (rb:=rb) hb3) (Y5 _));clear hX4 hX4' hFW hY hR hF4 hb1 hb2 hb3 hA hR2 hF2 HN hsb hwn hsz hnb HC;have HR5:=lh (Yk HQ5.out).symm;go_wp2;go_ret;rw [HR5.out];exact ⟨_,rfl,N.out,PQ.out.rd,FQ.out⟩
 have h':isT Z0d ts=false:=by simpa using h
 have hq:=QK7.out;rw [Y9 h] at hq;have QK8:=lh hq;have HT:=Z22 wk7 rb ts d Z0d PK7.out.rd h';unfold Z0d at HT;have HT:=lh HT;clear h h' hq;go_wp2_with fail
 refine HT.out.mono ?_;rintro e wk8 ⟨rfl,hB2⟩;have PK8:=lh (PK7.out.below hB2);have FK8:=lh (FK7.out.trans (RFr.below (rb:=rb) hB2));clear hB2 HT PK7 FK7 QK7;by_cases h:isT Z08 ts=true
 ·have hq := QK8.out;rw [Yb h] at hq;have HQ2 := lh hq;have HT := Z1g wk8 rb ts d Z08 PK8.out.rd h;unfold Z08 at HT;have HT := lh HT;clear h hq;go_wp2_with fail
  refine HT.out.mono ?_;rintro e w2 ⟨rfl,hR2,hF2⟩;have P2:=lh (PK8.out.tail hR2 hF2);have F2:=lh (FK8.out.trans hF2);clear hR2 hF2 HT;have HN:=lh (Z14 w2 rb 10 ⟨#[]⟩ none 0 0);obtain ⟨nb,hnb⟩:=zX w2.heap.size
  have G3:=Got.leaf (k:=10) (t:=⟨#[]⟩) (n:=0) HP.out.le F2.out;have hal:Below w2.heap.size w2 (w2.alloc (.cells #[.int .i64 10,.string ⟨#[]⟩,.int .i64 0,.slice none 0 0] 38)):=(Y8 _ _).alloc (Y5 _) _;have P3:=P2.out.below hal;have F3:=F2.out.trans (RFr.below (rb:=rb) hal);rw [← hnb] at HN G3;go_wp2_with fail
  refine HN.out.mono ?_;rintro e w3 ⟨rfl,hw3⟩;rw [← hw3] at G3 P3 F3;have N:=lh G3;have PQ:=lh P3;have FQ:=lh F3;clear G3 P3 F3 hal hw3 HN hnb;by_cases hsm:isT Zs ts.tail=true
  ·have hq := HQ2.out;rw [Yb hsm] at hq;have HB := Z4f w3 rb ts.tail d Zs PQ.out.rd;rw [hsm] at HB;unfold Zs at HB;have HB := lh HB;have HQ4 := lh hq;clear hq hsm;go_wp2_with fail
   refine HB.out.mono ?_;rintro e w4 ⟨rfl,hB4⟩;have HE:=Z6u w w4 rb B d _ _ _ r (PQ.out.below hB4) (N.out.rfr hlt (RFr.below (rb:=rb) hB4)) (FQ.out.trans (RFr.below hB4)) HQ4.out;simp only [ATree.b] at HE;have HE:=lh HE;clear hB4 HB;go_wp2_with fail
   refine HE.out.mono ?_;rcases r with ⟨c,p⟩ | ⟨t,ts'⟩
   ·rintro e wz ⟨⟨b,rfl,h1,h2⟩,hF⟩;exact ⟨rfl,⟨b,rfl,h1,h2⟩,hF⟩
   ·rintro e wz ⟨az,rfl,hG,hR,hF⟩;have HG:=lh hG;have HR:=lh hR;have HF:=lh hF;clear hG hR hF HE;go_wp2;go_ret;exact ⟨az,rfl,HG.out,HR.out,HF.out⟩
  have hsm':isT Zs ts.tail=false:=by simpa using hsm
  have hq:=HQ2.out;rw [Y9 hsm] at hq;have HB:=Z4f w3 rb ts.tail d Zs PQ.out.rd;rw [hsm'] at HB;unfold Zs at HB;have HB:=lh HB;have H2:=lh hq;clear hq hsm hsm';go_wp2_with fail
  refine HB.out.mono ?_;rintro e wf ⟨rfl,hBf⟩;have N:=lh (N.out.rfr hlt (RFr.below (rb:=rb) hBf));have PQ:=lh (PQ.out.below hBf);have FQ:=lh (FQ.out.trans (RFr.below (rb:=rb) hBf));clear hBf HB;have hblk:=N.out.at'.blkOf;simp only [ATree.b,ATree.v,ATree.kind,ATree.text,ATree.n] at hblk;have n3:wf.cell? ⟨nb,3,none⟩=some (.slice none 0 0):=by simp [World.cell?,hblk]
  clear hblk;go_wp2_with fail
  refine Zf [0,2,4,6,8,10,13,15,17] [9,10,11] (fun W=>W.cell? ⟨nb,3,none⟩=some (.slice none 0 0)) n3 fun _=>?_;simp only [Zh,pD,zD,zE,zF,zG,zH,zI,zJ,zK]
  iterate 6
   first | refine Zb _ ?_ | refine Za ?_
   simp only [Act.put,zA,zB,zC]
  refine Z5 (fun K hK=>?_);go_simp
  have P7:Pre wf.drew rb B d _:=PQ.out.below (Y8 _ _).drew;rcases Z09 H2.out with ⟨⟨c,p⟩,hv,rfl⟩ | ⟨t6,vs6,hv,hq6⟩
  ·refine (HV.out wf.drew rb B d _ _ P7 hv).mono ?_;rintro e wz ⟨⟨b,rfl,h1,h2⟩,hF⟩;exact ⟨rfl,Z0r.pre FQ.out.drew (r:=.error (c,p)) ⟨⟨b,rfl,h1,h2⟩,hF⟩⟩
  have HVL6:=lh (Z1i hv);have HQ6:=lh hq6;refine (HV.out wf.drew rb B d _ _ P7 hv).mono ?_;rintro e w3' ⟨a,rfl,hA,hR3,hF7⟩;have hF63:RFr wf w3' rb:=(RFr.refl wf rb).drew.trans hF7;have hN3:=N.out.rfr hlt hF63;have hblk:=hN3.at'.blkOf;simp only [ATree.b,ATree.v,ATree.kind,ATree.text,ATree.n] at hblk;have m3:w3'.cell? ⟨nb,3,none⟩=some (.slice none 0 0):=by simp [World.cell?,hblk]
  have mz:w3'.frozen? ⟨nb,3,none⟩=false:=by simp [World.frozen?,hblk]
  have hnb3:nb < w3'.heap.size:=(Y6.1 hblk).1;have hnd:=hN3.nodup;simp only [ATree.blocks,List.nodup_cons,List.mem_append,Option.mem_toList,not_or] at hnd;have hne:=hnd.1.1;have hk4:(([]:List ATree)).length≤8:=by simp
  have N3:=lh hN3;have A3:=lh hA;have R3:=lh hR3;have F3':=lh (FQ.out.trans hF63);have NE:=lh hne;have NA:=lh (show ∀ z∈(ATree.mk nb (.slice none 0 0) 10 ⟨#[]⟩ 0 ([]:List ATree)).blocks,z < wf.drew.heap.size from fun z hz=>(N.out.new z hz).2);refine hK _ _ m3 ?_;obtain ⟨i0,hi,hz0,hz1,hz2⟩:=info_parts Tryz.infoPtr;clear hK K hA hR3 hF63 hN3 hblk hnd hne n3 hF7 hv hq6 P7;refine Z5 (fun K hK=>?_);go_simp
  refine hK _ _ ((Z8 hnb3).trans m3) ?_;clear hK K;refine Z5 (fun K hK=>?_)
  refine step_append_lies _ (by rfl) (.tmp 113) (.tmp 116) 36 (by rfl) B 22 i0 _ 1 8 Tryz.underlying36 hi hz0 hz1 hz2 rfl (by decide) (.slice none 0 0) (([]:List ATree)).length ((([]:List ATree)).map ATree.ptr) (by rfl) (N3.out.at'.rowOf.alloc _) ⟨w3'.heap.size,0,none⟩ 1 1 [a.ptr] (by rfl) rfl (Yi (cs:=#[a.ptr]) (t:=22) (fr:=(0,0)) (heap_alloc_new w3' _)) (by simp [ATree.ptr,Value.oneCell']) (by decide) (by unfold maxLen; omega) (by omega) (by simp; have:=F3'.out.size; have:=HP.out.le; omega) (w3'.heap.size + 1) (by simp) ?_
  intro gg cap w4 hown4 hgrow4 hat4 hlt4;have m4:w4.cell? ⟨nb,3,none⟩=some (.slice none 0 0):=(hgrow4.cell_far ⟨nb,3,none⟩ (by simp; omega) (fun e=>NE.out e.symm)).trans ((Z8 hnb3).trans m3);have mz4:w4.frozen? ⟨nb,3,none⟩=false:=(hgrow4.frozen_far ⟨nb,3,none⟩ (by simp; omega) (fun e=>NE.out e.symm)).trans ((Z0m hnb3).trans mz);refine hK _ _ m4 ?_;clear hK K;simp only [Act.put,zA,zB,zC]
  have hfin:=Got.push hlt HP.out.le N3.out (wA:=wf.drew) NA.out A3.out F3'.out R3.out ((Y8 _ _).alloc (Y5 _) _) hgrow4 hown4 (by rcases hat4 with h | h; (exact .inl h); (exact .inr (by omega))) hlt4;have FIN:=lh hfin;clear hgrow4 hown4 hat4 hlt4 hfin;refine Z6 ?_;have HE:=Z6u w _ rb B d _ _ _ r (HP.out.next FIN.out.2.2 FIN.out.2.1 (by have:=HVL6.out; have:=Z1a ts; omega)) FIN.out.1 FIN.out.2.1 HQ6.out;simp only [ATree.b] at HE;have HE:=lh HE;clear FIN;go_wp2_with fail
  refine HE.out.mono ?_;rcases r with ⟨c,p⟩ | ⟨t,ts'⟩
  ·rintro e wz ⟨⟨b,rfl,h1,h2⟩,hF⟩;exact ⟨rfl,⟨b,rfl,h1,h2⟩,hF⟩
  ·rintro e wz ⟨az,rfl,hG,hR,hF⟩;have HG:=lh hG;have HR:=lh hR;have HF:=lh hF;clear hG hR hF HE;go_wp2;go_ret;exact ⟨az,rfl,HG.out,HR.out,HF.out⟩
 have h':isT Z08 ts=false:=by simpa using h
 have hq:=QK8.out;rw [Y9 h] at hq;have QK9:=lh hq;have HT:=Z22 wk8 rb ts d Z08 PK8.out.rd h';unfold Z08 at HT;have HT:=lh HT;clear h h' hq;go_wp2_with fail
 refine HT.out.mono ?_;rintro e wk9 ⟨rfl,hB2⟩;have PK9:=lh (PK8.out.below hB2);have FK9:=lh (FK8.out.trans (RFr.below (rb:=rb) hB2));clear hB2 HT PK8 FK8 QK8;by_cases h:isT Z0s ts=true
 ·have hq := QK9.out;rw [Yb h] at hq;have HQ2 := lh hq;have HT := Z1g wk9 rb ts d Z0s PK9.out.rd h;unfold Z0s at HT;have HT := lh HT;clear h hq;go_wp2_with fail
  refine HT.out.mono ?_;rintro e w2 ⟨rfl,hR2,hF2⟩;have P2:=lh (PK9.out.tail hR2 hF2);have F2:=lh (FK9.out.trans hF2);clear hR2 hF2 HT;rcases Z09 HQ2.out with ⟨⟨c,p⟩,hv,rfl⟩ | ⟨t,vs,hv,hq4⟩
  ·have HC := HV.out w2 rb B d _ _ P2.out hv;unfold rArg at HC;have HC := lh HC;clear hv;go_wp2_with fail
   refine HC.out.mono ?_;rintro e wz ⟨⟨b,rfl,h1,h2⟩,hF⟩;exact ⟨rfl,Z0r.pre F2.out (r:=.error (c,p)) ⟨⟨b,rfl,h1,h2⟩,hF⟩⟩
  have HC:=HV.out w2 rb B d _ _ P2.out hv;unfold rArg at HC;have HC:=lh HC;have HVL:=lh (Z1i hv);have HQ4:=lh hq4;clear hv hq4;go_wp2_with fail
  refine HC.out.mono ?_;rintro e w4 ⟨x,rfl,hX,hR,hF4⟩;have hX4:=hX.pre F2.out;have hFW:=F2.out.trans hF4;have hb1:Below w4.heap.size w4 (w4.alloc (.cells #[.pointer (some ⟨x.b,0,none⟩)] 22)):=(Y8 _ _).alloc (Y5 _) _;have hb2:Below w4.heap.size w4 ((w4.alloc (.cells #[.pointer (some ⟨x.b,0,none⟩)] 22)).alloc (.cells #[.int .i64 11,.string ⟨#[]⟩,.int .i64 0,.slice (some ⟨w4.heap.size,0,none⟩) 1 1] 38)):=hb1.alloc (by simp) _;have hA:=Got.one (k:=11) (t:=⟨#[]⟩) HP.out.le hFW hX4;have hR2:=hR.below hb2
  have hF2:=hFW.trans (RFr.below (rb:=rb) hb2);have HN:=lh (Z14 (w4.alloc (.cells #[.pointer (some ⟨x.b,0,none⟩)] 22)) rb 11 ⟨#[]⟩ (some ⟨w4.heap.size,0,none⟩) 1 1);obtain ⟨sb,hsb⟩:=zX w4.heap.size
  rw [← hsb] at HN hA hb2 hR2 hF2;have HSB:=lh hsb;go_wp2_with fail
  rw [← HSB.out];refine HN.out.mono ?_;rintro e wn ⟨rfl,hwn⟩;have hb3:Below w4.heap.size w4 wn:=by rw [hwn]; exact hb1.alloc (by simp) _
  have hsz:(w4.alloc (.cells #[.pointer (some ⟨x.b,0,none⟩)] 22)).heap.size=sb + 1:=by rw [HSB.out]; simp
  rw [hsz];obtain ⟨nb,hnb⟩:=zX (sb + 1)
  rw [← hnb] at hA ⊢;have hA:Got w B wn (.mk nb (.slice (some ⟨sb,0,none⟩) 1 1) 11 ⟨#[]⟩ 0 [x]) (.mk 11 ⟨#[]⟩ 0 [t]):=by rw [hwn]; exact hA
  rw [← hwn] at hR2 hF2;have HE:=Z6u w wn rb B d _ _ _ r ((P2.out.next (ts':=vs) hR hF4 HVL.out).next hR2 (RFr.below (rb:=rb) hb3) (Y5 _)) hA hF2 HQ4.out;simp only [ATree.b] at HE;have HE:=lh HE;clear hX4 hFW hX hR hF4 hb1 hb2 hb3 hA hR2 hF2 HN hsb hwn hsz hnb HC;go_wp2_with fail
  refine HE.out.mono ?_;rcases r with ⟨c,p⟩ | ⟨t,ts'⟩
  ·rintro e wz ⟨⟨b,rfl,h1,h2⟩,hF⟩;exact ⟨rfl,⟨b,rfl,h1,h2⟩,hF⟩
  ·rintro e wz ⟨az,rfl,hG,hR,hF⟩;have HG:=lh hG;have HR:=lh hR;have HF:=lh hF;clear hG hR hF HE;go_wp2;go_ret;exact ⟨az,rfl,HG.out,HR.out,HF.out⟩
 have h':isT Z0s ts=false:=by simpa using h
 have hq:=QK9.out;rw [Y9 h] at hq;have QK10:=lh hq;have HT:=Z22 wk9 rb ts d Z0s PK9.out.rd h';unfold Z0s at HT;have HT:=lh HT;clear h h' hq;go_wp2_with fail
 refine HT.out.mono ?_;rintro e wk10 ⟨rfl,hB2⟩;have PK10:=lh (PK9.out.below hB2);have FK10:=lh (FK9.out.trans (RFr.below (rb:=rb) hB2));clear hB2 HT PK9 FK9 QK9;by_cases h:isT Z1j ts=true
 ·have hq := QK10.out;rw [Yb h] at hq;have HQ2 := lh hq;have HT := Z1g wk10 rb ts d Z1j PK10.out.rd h;unfold Z1j at HT;have HT := lh HT;clear h hq;go_wp2_with fail
  refine HT.out.mono ?_;rintro e w2 ⟨rfl,hR2,hF2⟩;have P2:=lh (PK10.out.tail hR2 hF2);have F2:=lh (FK10.out.trans hF2);clear hR2 hF2 HT;have HC:=HTR.out w2 rb B d _ r P2.out HQ2.out;unfold rArg at HC;have HC:=lh HC;go_wp2_with fail
  refine HC.out.mono ?_;rcases r with ⟨c,p⟩ | ⟨t,ts'⟩
  ·rintro e wz ⟨⟨b,rfl,h1,h2⟩,hF⟩;exact ⟨rfl,Z0r.pre F2.out (r:=.error (c,p)) ⟨⟨b,rfl,h1,h2⟩,hF⟩⟩
  ·rintro e wz ⟨a,rfl,hG,hR,hF⟩;have HG:=lh (hG.pre F2.out);have HR:=lh hR;have HF:=lh (F2.out.trans hF);clear hG hR hF HC;go_wp2;go_ret;exact ⟨a,rfl,HG.out,HR.out,HF.out⟩
 have h':isT Z1j ts=false:=by simpa using h
 have hq:=QK10.out;rw [Y9 h] at hq;have QK11:=lh hq;have HT:=Z22 wk10 rb ts d Z1j PK10.out.rd h';unfold Z1j at HT;have HT:=lh HT;clear h h' hq;go_wp2_with fail
 refine HT.out.mono ?_;rintro e wk11 ⟨rfl,hB2⟩;have PK11:=lh (PK10.out.below hB2);have FK11:=lh (FK10.out.trans (RFr.below (rb:=rb) hB2));clear hB2 HT PK10 FK10 QK10;obtain ⟨w2,rfl⟩:∃ w2:World,w2=wk11:=⟨_,rfl⟩
 have P2:=PK11;have F2:=FK11;have HQ2:=QK11;rcases Z09 HQ2.out with ⟨⟨c,p⟩,hv,rfl⟩ | ⟨t,vs,hv,hq4⟩
 ·have HC := HV.out w2 rb B d _ _ P2.out hv;unfold rArg at HC;have HC := lh HC;clear hv;go_wp2_with fail
  refine HC.out.mono ?_;rintro e wz ⟨⟨b,rfl,h1,h2⟩,hF⟩;exact ⟨rfl,Z0r.pre F2.out (r:=.error (c,p)) ⟨⟨b,rfl,h1,h2⟩,hF⟩⟩
 have HC:=HV.out w2 rb B d _ _ P2.out hv;unfold rArg at HC;have HC:=lh HC;have HVL:=lh (Z1i hv);have HQ4:=lh hq4;clear hv hq4;go_wp2_with fail
 refine HC.out.mono ?_;rintro e w4 ⟨x,rfl,hX,hR,hF4⟩;have hX4:=hX.pre F2.out;have hFW:=F2.out.trans hF4;have hb1:Below w4.heap.size w4 (w4.alloc (.cells #[.pointer (some ⟨x.b,0,none⟩)] 22)):=(Y8 _ _).alloc (Y5 _) _;have hb2:Below w4.heap.size w4 ((w4.alloc (.cells #[.pointer (some ⟨x.b,0,none⟩)] 22)).alloc (.cells #[.int .i64 15,.string ⟨#[]⟩,.int .i64 0,.slice (some ⟨w4.heap.size,0,none⟩) 1 1] 38)):=hb1.alloc (by simp) _;have hA:=Got.one (k:=15) (t:=⟨#[]⟩) HP.out.le hFW hX4;have hR2:=hR.below hb2;have hF2:=hFW.trans (RFr.below (rb:=rb) hb2)
 have HN:=lh (Z14 (w4.alloc (.cells #[.pointer (some ⟨x.b,0,none⟩)] 22)) rb 15 ⟨#[]⟩ (some ⟨w4.heap.size,0,none⟩) 1 1);obtain ⟨sb,hsb⟩:=zX w4.heap.size
 rw [← hsb] at HN hA hb2 hR2 hF2;have HSB:=lh hsb;go_wp2_with fail
 rw [← HSB.out];refine HN.out.mono ?_;rintro e wn ⟨rfl,hwn⟩;have hb3:Below w4.heap.size w4 wn:=by rw [hwn]; exact hb1.alloc (by simp) _
 have hsz:(w4.alloc (.cells #[.pointer (some ⟨x.b,0,none⟩)] 22)).heap.size=sb + 1:=by rw [HSB.out]; simp
 rw [hsz];obtain ⟨nb,hnb⟩:=zX (sb + 1)
 rw [← hnb] at hA ⊢;have hA:Got w B wn (.mk nb (.slice (some ⟨sb,0,none⟩) 1 1) 15 ⟨#[]⟩ 0 [x]) (.mk 15 ⟨#[]⟩ 0 [t]):=by rw [hwn]; exact hA
 rw [← hwn] at hR2 hF2;have HE:=Z6u w wn rb B d _ _ _ r ((P2.out.next (ts':=vs) hR hF4 HVL.out).next hR2 (RFr.below (rb:=rb) hb3) (Y5 _)) hA hF2 HQ4.out;simp only [ATree.b] at HE;have HE:=lh HE;clear hX4 hFW hX hR hF4 hb1 hb2 hb3 hA hR2 hF2 HN hsb hwn hsz hnb HC;go_wp2_with fail
 refine HE.out.mono ?_;rcases r with ⟨c,p⟩ | ⟨t,ts'⟩
 ·rintro e wz ⟨⟨b,rfl,h1,h2⟩,hF⟩;exact ⟨rfl,⟨b,rfl,h1,h2⟩,hF⟩
 ·rintro e wz ⟨az,rfl,hG,hR,hF⟩;have HG:=lh hG;have HR:=lh hR;have HF:=lh hF;clear hG hR hF HE;go_wp2;go_ret;exact ⟨az,rfl,HG.out,HR.out,HF.out⟩
structure AllSay (f:Nat):Prop where
 stmt:Says 53 rArg .stmt f
 value:Says 80 rArg .value f
 assign:Says 101 rArg .assign f
 bin:∀ lv,lv≤6→Says 115 (bArg lv) (.bin lv) f
 unary:Says 126 rArg .unary f
 postfix_:Says 135 rArg .postfix_ f
 primary:Says 147 rArg .primary f
 around:Says 79 rArg .around f
 func:∀ k s,Says 77 (fun rb=>#[.pointer (some ⟨rb,0,none⟩),.int .i64 k,.string s]) (.func k s) f
 object:Says 156 rArg (.object []) f
 block:∀ b,Says 73 (fun rb=>#[.pointer (some ⟨rb,0,none⟩),.bool b]) (.block b) f
 stmts:Says 19 (fun rb=>#[.pointer (some ⟨rb,0,none⟩),.int .i64 6,.string Z01]) (.stmts 6 []) f
 try_:Says 81 rArg .try_ f
 decl:∀ k m,Says 76 (fun rb=>#[.pointer (some ⟨rb,0,none⟩),.int .i64 k,.bool m]) (.decl k m) f
theorem Z2d {F:FuncId} {args:Nat→Array Value} {job:Job}:Says F args job 0:=by
 intro w rb B d ts r _ h;cases h
theorem Zle:∀ f,AllSay f:=by
 intro f;induction f using Nat.strongRecOn with
 | _ f ih =>
   cases f with
   | zero=>exact ⟨Z2d,Z2d,Z2d,fun _ _=>Z2d,Z2d,Z2d,Z2d,Z2d,fun _ _=>Z2d,Z2d,fun _=>Z2d,Z2d,Z2d,fun _ _=>Z2d⟩
   | succ f =>
     have I:=ih f (Nat.lt_succ_self f)
     refine ⟨Zgu f (I.block false) I.decl (I.func 5) I.around I.stmt I.value I.try_,Zfe f I.assign,Zce f (I.bin 0 (by omega)) I.value,fun lv hlv=>?_,Zey f I.unary I.postfix_,Zbk f I.primary (fun g hg=>(ih g (by omega)).value),Zb7 f I.around (I.func 37) I.object,Zdb f I.value,
      fun k s=>Zh2 f k s (I.block true),Zcm (f + 1) (fun g hg=>(ih g hg).value),fun b=>Zew f b I.stmts,Zef (f + 1) (fun g hg=>(ih g hg).stmt),Zi2 f (I.block false),fun k m=>Zft f k m I.value⟩
     by_cases h6:lv=6;·subst h6; exact Zho f I.unary
     ·exact Ziz f lv (by omega) fun g hg=>(ih g (by omega)).bin (lv + 1) (by omega)
theorem Zj1 (f:Nat):Says 19 (fun rb=>#[.pointer (some ⟨rb,0,none⟩),.int .i64 1,.string ⟨#[]⟩]) (.stmts 1 []) f:=
 Zgf f fun g _=>(Zle g).stmt
theorem Zlb (p0:Addr) {σ:Type} (Inv:σ→World→Prop) (g:σ→ATree→Bool×σ) (B:Nat):∀ (m:Nat) (a:ATree),a.many≤m→(∀ s w,Inv s w→TreeAt w B a) →
 (∀ x∈a.subs,∀ s w,Inv s w→Calls Tryz.prog 21 #[x.ptr,.pointer (some p0)] w fun e w'=>e=.returned (.bool (g s x).1)∧Inv (g s x).2 w') →
 ∀ s w,Inv s w→Calls Tryz.prog 20 #[a.ptr,.func (.func 21) #[] #[.pointer (some p0)]] w fun e w'=>e=.returned (.tuple #[])∧Inv (Zcr g a s) w':=by
 intro m;induction m with
 | zero=>intro a h; exfalso; cases a; simp [ATree.many] at h
 | succ m ih =>
   intro a hm hT hg s w hI;have IH:=lh ih;have HT:=lh hT;have HG:=lh hg;have HM:=lh hm;have HC:=hg a (Zbm a) s w hI;rw [Zj4];unfold ATree.ptr at HC ⊢;obtain ⟨ok,s1,hgs⟩:∃ ok s1,g s a=(ok,s1):=⟨_,_,rfl⟩
   rw [hgs] at HC ⊢;have HC:=lh HC;clear ih hT hg hm hI hgs;cases ok
   ·go_enter Tryz.func20, Tryz.ntmps20
    go_wp2_with fail
    refine HC.out.mono ?_;rintro e w1 ⟨rfl,hI1⟩;have HI1:=lh hI1;clear hI1 HC;go_wp2;refine bodyPost_ret (results_none rfl _ _ _) rfl ?_;exact ⟨rfl,HI1.out⟩
   ·simp only [if_true];go_enter Tryz.func20, Tryz.ntmps20
    go_wp2_with fail
    refine HC.out.mono ?_;rintro e w1 ⟨rfl,hI1⟩;have hT1:=HT.out _ _ hI1;have hblk:=hT1.blkOf;have hrow:=hT1.rowOf;obtain ⟨p,cp,hv⟩:∃ p cp,a.v=.slice p a.kids.length cp:=by
     rcases Zq hrow with ⟨h1,h2⟩ | ⟨g0,cap0,h1,_⟩;·exact ⟨none,0,by rw [h1,h2]⟩
     ·exact ⟨_,_,h1⟩
    rw [hv] at hblk;have c3:w1.cell? ⟨a.b,3,none⟩=some (.slice p a.kids.length cp):=by simp [World.cell?,hblk]
    have hlen:a.kids.length≤9223372036854775807:=by
     rcases Zq hrow with ⟨h1,h2⟩ | ⟨g0,cap0,h1,k1,k2,k3⟩;·omega
     ·unfold maxLen at k2; omega
    have HI1:=lh hI1;have HV:=lh hv;obtain ⟨n,hn⟩:=zX a.kids.length
    rw [← hn] at c3 hlen;have HN:=lh hn;clear hI1 hT1 hblk hrow hv hn HC;go_wp2_with fail
    go_loopw [19] (fun i wr=>∃ k:Nat,k≤n∧i=.int .i64 k∧Hid (Inv (Z80 g (a.kids.take k) s1) wr)) (fun i _=>n - (intOf i).toNat)
    case atStart=>exact ⟨0,Yp _,rfl,lh (by simpa [Z80] using HI1.out)⟩
    case round=>
     obtain ⟨k,hk,rfl,HI⟩:=hrel;by_cases hkn:k < n
     ·obtain ⟨x, hx⟩ : ∃ x, a.kids[k]? = some x := ⟨_, Yd (by rw [← HN.out]; exact hkn)⟩
      have hT2:=HT.out _ _ HI.out;have hrow:=hT2.rowOf;rcases Zq hrow with ⟨_,h2⟩ | ⟨g0,cap0,hv0,k1,k2,k3⟩;·rw [← HN.out] at h2; omega
      have hp:p=some ⟨g0,0,none⟩:=by
       have:=HV.out.symm.trans hv0;simp only [Value.slice.injEq] at this;exact this.1
      subst hp;have cx:=Z17 hrow (g:=g0) (by rw [hv0]; rfl) (i:=k) (x:=x.ptr) (by rw [Yo,hx]; rfl);unfold ATree.ptr at cx;have hmem:x∈a.kids:=Yl hx;have hcall:=IH.out x (by have:=Zam hmem; have:=HM.out; omega) (fun s w h=>(HT.out s w h).kid hmem) (fun y hy=>HG.out y (Zdl hmem hy)) _ _ HI.out;unfold ATree.ptr at hcall;have HCALL:=lh hcall;have HX:=lh hx;have hge:n≤cp:=by
       have:=HV.out.symm.trans hv0;simp only [Value.slice.injEq] at this;rw [HN.out,this.2.2]; exact k1
      clear hx hT2 hrow hv0 k1 k2 k3 hmem hcall;go_wp2_with fail
      refine HCALL.out.mono ?_;rintro e w2 ⟨rfl,hI2⟩;have HI2:=lh hI2;clear hI2 HCALL;go_wp2;go_roundw
      case rel=>exact ⟨k + 1,by omega,by go_num,lh (by rw [Z7e HX.out,Zfb]; exact HI2.out)⟩
      case measure=>simp [intOf]; omega
     ·have hk2 : k = n := by omega
      subst hk2;go_wp2;go_end0
      refine ⟨rfl,?_⟩;have:=HI.out;rwa [Ym (by rw [← HN.out]; exact Y5 _)] at this
theorem Z5x {P:Program} {f:FuncId} {fn:Func} {c:Code} {args:Array Value} {u:FrameMode} {w:World} {R:Ending→FrameMode→World→Prop}
 (hf:P.funcs[f]?=some fn) (hb:fn.body=some c) (T:Array Value) (hT:args ++ Array.replicate (fn.ntmps - args.size) undef=T)
 (h:∀ (c₀:Frame) (cs:List Frame),c₀.mode=u→c.wpS P (bodyPostS P fn c₀ cs R) { tmps:=T,defers:=[] } (c₀ :: cs) w):CallsD P f args u w R:=
 callsD_of_wpS hf hb (by rw [hT]; exact h)
theorem Tryz.asFault (v:Value) (w:World):(Instr.typeAssert (.iface 57 v) 20 57 true).run Tryz.prog w=.ok (.tuple #[v,.bool true]) w:=by kernel_rfl
theorem Z9x (p q:Addr) (w:World) :
 CallsD Tryz.prog 18 #[.pointer (some p),.pointer (some q)] .returning w fun e u' w'=>e=.returned (.tuple #[])∧u'=.returning∧w'=w:=by
 refine Z5x Tryz.func18 rfl #[.pointer (some p),.pointer (some q),undef,undef,undef,undef,undef,undef,undef,undef,undef,undef,undef,undef,undef,undef,undef,undef] (by rfl) fun c₀ cs hu=>?_;apply wpS_seq;apply wpS_region;simp [wpOpsS,go_sem,recoverD,hu,Exit.thenS];refine wpS_of_wp ?_;go_wp2;cases c₀;simp_all [bodyPostS,results,Tryz.results18]
def Z60 (w:World) (pb qb:Nat) (x:Value) (w':World):Prop:=
 w'.heap[pb]?=some (.cells #[.pointer none] 22 (0,0))∧w'.heap[qb]?=some (.cells #[x] 29 (0,0))∧w'.os=w.os∧w'.tape=w.tape∧w'.output=w.output∧w.heap.size≤w'.heap.size∧∀ k,k < w.heap.size→k≠pb→k≠qb→w'.heap[k]?=w.heap[k]?
theorem Zax {w w1:World} {pb qb:Nat} {x x0 y0:Value} (hp:w.heap[pb]?=some (.cells #[x0] 22 (0,0))) (hq:w.heap[qb]?=some (.cells #[y0] 29 (0,0))) (hpq:pb≠qb) (hB:Below w.heap.size w w1) :
 Z60 w pb qb x ((w1.setCell ⟨pb,0,none⟩ (.pointer none)).setCell ⟨qb,0,none⟩ x):=by
 have hpl:pb < w.heap.size:=(Y6.1 hp).1;have hql:qb < w.heap.size:=(Y6.1 hq).1;refine ⟨?_,?_,hB.os,hB.tape,hB.output,by rw [Yn,Yn]; exact hB.size,fun k hk h1 h2=>?_⟩;·exact (Yg _ _ _ _ hpq).trans (Z07 (o:=0) _ ((hB.block pb hpl).trans hp))
 ·exact Z07 (o:=0) _ ((Yg _ _ _ _ (Ne.symm hpq)).trans ((hB.block qb hql).trans hq))
 ·exact (Yg _ _ _ _ h2).trans ((Yg _ _ _ _ h1).trans (hB.block k hk))
theorem Z60.below {w w1 w2:World} {pb qb:Nat} {x:Value} (h:Z60 w pb qb x w1) (hB:Below w1.heap.size w1 w2):Z60 w pb qb x w2:=by
 obtain ⟨h1,h2,h3,h4,h5,h6,h7⟩:=h;refine ⟨(hB.block pb (Y6.1 h1).1).trans h1,(hB.block qb (Y6.1 h2).1).trans h2,hB.os.trans h3,hB.tape.trans h4,hB.output.trans h5,Ya h6 hB.size,fun k hk a b=>(hB.block k (Ye hk h6)).trans (h7 k hk a b)⟩
theorem Zcf (pb qb:Nat) (b:Nat) (older:List PanicEntry) (w:World) (x0 y0:Value) (hp:w.heap[pb]?=some (.cells #[x0] 22 (0,0))) (hq:w.heap[qb]?=some (.cells #[y0] 29 (0,0))) (hpq:pb≠qb) :
 CallsD Tryz.prog 18 #[.pointer (some ⟨pb,0,none⟩),.pointer (some ⟨qb,0,none⟩)] (.panicking ({ v:=.iface 57 (.agg #[.iface 88 (.pointer (some ⟨b,0,none⟩))]),recovered:=false } :: older)) w fun e u' w'=>
  e=.returned (.tuple #[])∧u'=.panicking ({ v:=.iface 57 (.agg #[.iface 88 (.pointer (some ⟨b,0,none⟩))]),recovered:=true } :: older)∧Z60 w pb qb (.iface 88 (.pointer (some ⟨b,0,none⟩))) w':=by
 have hpl:pb < w.heap.size:=(Y6.1 hp).1;have hql:qb < w.heap.size:=(Y6.1 hq).1;have cp:w.cell? ⟨pb,0,none⟩=some x0:=by simp [World.cell?,hp]
 have cq:w.cell? ⟨qb,0,none⟩=some y0:=by simp [World.cell?,hq]
 have zp:w.frozen? ⟨pb,0,none⟩=false:=by simp [World.frozen?,hp]
 have zq:w.frozen? ⟨qb,0,none⟩=false:=by simp [World.frozen?,hq]
 have hta:=Tryz.asFault (.agg #[.iface 88 (.pointer (some ⟨b,0,none⟩))]);refine Z5x Tryz.func18 rfl #[.pointer (some ⟨pb,0,none⟩),.pointer (some ⟨qb,0,none⟩),undef,undef,undef,undef,undef,undef,undef,undef,undef,undef,undef,undef,undef,undef,undef,undef] (by rfl) fun c₀ cs hu=>?_;apply wpS_seq;apply wpS_region;simp [wpOpsS,go_sem,recoverD,hu,Exit.thenS];refine wpS_of_wp ?_;clear hu;go_wp2;go_region
 have CP:=((Zax (x:=.iface 88 (.pointer (some ⟨b,0,none⟩))) hp hq hpq (Y8 _ w)).below ((Y8 _ _).alloc (Y5 _) (.cells #[.iface 88 (.pointer (some ⟨b,0,none⟩))] 57))).below (Y8 _ _).drew;have CP:=lh CP;clear hp hq hpq hpl hql cp cq zp zq hta;show bodyPostS _ _ _ _ _ Exit.normal _ _ _;cases c₀;simp [bodyPostS,results,Tryz.results18];exact CP.out
theorem Zd3 (w:World) (text:ByteArray) (hm:3000 < text.size) :
 Calls Tryz.prog 17 #[.string text] w fun e w'=>e=.returned (.tuple #[.slice none 0 0,.iface 23 (.int .i64 4)])∧w=w':=by
 have hm':(3000:Int) < text.size:=by omega
 go_enter Tryz.func17,Tryz.ntmps17
 go_wp2;go_ret2
 exact ⟨rfl,rfl⟩
def Zkc (w':World) (base:Nat) (x:Value) (c p:Int):Prop:=(p=-1∧x=.iface 23 (.int .i64 c))∨∃ q:Nat,p=q∧Zkp w' base x c q
def Z4s (w:World) (r:Except (Int×Int) Tree) (e:Ending) (w':World):Prop:=
 Below w.heap.size w w'∧match r with
 | .ok t=>∃ a,e=.returned (.tuple #[.pointer (some ⟨a.b,0,none⟩),.nilIface])∧Got w w.heap.size w' a t
 | .error (c,p)=>∃ x,e=.returned (.tuple #[.pointer none,x])∧Zkc w' w.heap.size x c p
def Z4h (w:World):World:=(w.alloc (.cells #[.pointer none] 22)).alloc (.cells #[.nilIface] 29)
theorem Z9f (w:World):(Z4h w).heap[w.heap.size]?=some (.cells #[.pointer none] 22 (0,0))∧(Z4h w).heap[w.heap.size + 1]?=some (.cells #[.nilIface] 29 (0,0))∧(Z4h w).heap.size=w.heap.size + 2∧Below w.heap.size w (Z4h w):=by
 have h1:Below w.heap.size w (w.alloc (.cells #[.pointer none] 22)):=(Y8 _ _).alloc (Y5 _) _;have h2:Below (w.alloc (.cells #[.pointer none] 22)).heap.size (w.alloc (.cells #[.pointer none] 22)) (Z4h w):=(Y8 _ _).alloc (Y5 _) _;have e1:(w.alloc (.cells #[.pointer none] 22)).heap.size=w.heap.size + 1:=by simp
 refine ⟨?_,?_,by simp [Z4h],h1.alloc (by simp) _⟩;·rw [h2.block w.heap.size (by omega)]; exact heap_alloc_new w _
 ·have:=heap_alloc_new (w.alloc (.cells #[.pointer none] 22)) (.cells #[.nilIface] 29);rw [e1] at this;exact this
theorem Z6k {R:Ending→World→Prop} {tmps:Array Value} {W:World} {pb eb:Nat} {x y:Value} (h2:tmps.getD 2 undef=.pointer (some ⟨pb,0,none⟩)) (h3:tmps.getD 3 undef=.pointer (some ⟨eb,0,none⟩))
 (c1:W.cell? ⟨pb,0,none⟩=some x) (c2:W.cell? ⟨eb,0,none⟩=some y) (hR:R (.returned (.tuple #[x,y])) W):Go.Leaves Tryz.prog Tryz.f5 tmps R [] .returning W:=by
 refine ⟨.tuple #[x,y],?_,hR⟩;have h2':tmps[2]?.getD undef=.pointer (some ⟨pb,0,none⟩):=by simpa using h2
 have h3':tmps[3]?.getD undef=.pointer (some ⟨eb,0,none⟩):=by simpa using h3
 simp [results,Tryz.results5,go_sem,h2',h3',c1,c2]
theorem Z4s.bad {w w1 W:World} {c p:Int} {x:Value} (hx:Zkc w1 (w.heap.size + 2) x c p) (hB:Below w.heap.size w w1) (hW:∀ k,k < w1.heap.size→k≠w.heap.size→k≠w.heap.size + 1→W.heap[k]?=w1.heap[k]?) (hs:w1.heap.size≤W.heap.size)
 (ho:W.os=w1.os) (ht:W.tape=w1.tape) (hu:W.output=w1.output):Z4s w (.error (c,p)) (.returned (.tuple #[.pointer none,x])) W:=by
 refine ⟨⟨ho.trans hB.os,ht.trans hB.tape,hu.trans hB.output,Ya hB.size hs,fun k hk=>(hW k (Ye hk hB.size) (by omega) (by omega)).trans (hB.block k hk)⟩,x,rfl,?_⟩;rcases hx with h | ⟨q,hq,b,h1,h2,h3⟩;·exact .inl h
 ·exact .inr ⟨q,hq,b,h1,by omega,(hW b (Y6.1 h3).1 (by omega) (by omega)).trans h3⟩
theorem Zbx (w:World) (text:ByteArray) (c p:Int) (HC:Calls Tryz.prog 17 #[.string text] (Z4h w) fun e w'=>(∃ x,e=.returned (.tuple #[.slice none 0 0,x])∧Zkc w' (Z4h w).heap.size x c p)∧Below (Z4h w).heap.size (Z4h w) w') :
 Calls Tryz.prog 5 #[.string text] w (Z4s w (.error (c,p))):=by
 obtain ⟨k1,k2,k3,k4⟩:=Z9f w;have K1:=lh k1;have K2:=lh k2;have K3:=lh k3;have K4:=lh k4;obtain ⟨w0,hw0⟩:=zX (Z4h w)
 rw [← hw0] at HC K1 K2 K3 K4;unfold Z4h at hw0;have HW0:=lh hw0;have HC:=lh HC;clear hw0 k1 k2 k3 k4;go_enter_defers Tryz.func5,Tryz.ntmps5
 go_wp2_with fail
 rw [← HW0.out];refine HC.out.mono ?_;rintro e w1 ⟨⟨x,rfl,hx⟩,hB⟩;have b1:=(hB.block w.heap.size (by rw [K3.out]; omega)).trans K1.out;have b2:=(hB.block (w.heap.size + 1) (by rw [K3.out]; omega)).trans K2.out;obtain ⟨pb,hpb⟩:=zX w.heap.size
 obtain ⟨eb,heb⟩:=zX (w.heap.size + 1)
 rw [← heb] at b2;rw [← hpb] at b1;rw [← heb,← hpb];have c1:w1.cell? ⟨pb,0,none⟩=some (.pointer none):=by simp [World.cell?,b1]
 have c2:w1.cell? ⟨eb,0,none⟩=some .nilIface:=by simp [World.cell?,b2]
 have z1:w1.frozen? ⟨pb,0,none⟩=false:=by simp [World.frozen?,b1]
 have z2:w1.frozen? ⟨eb,0,none⟩=false:=by simp [World.frozen?,b2]
 have hne:pb≠eb:=by omega
 have hl1:pb < w1.heap.size:=(Y6.1 b1).1;have hl2:eb < w1.heap.size:=(Y6.1 b2).1;have HX:=lh hx;have HB:=lh hB;have HPB:=lh hpb;have HEB:=lh heb;have B1:=lh b1;have B2:=lh b2;obtain ⟨tx,vx,hxx⟩:∃ tx vx,x=.iface tx vx:=by
  rcases hx with ⟨_,rfl⟩ | ⟨q,_,b,rfl,_⟩;·exact ⟨_,_,rfl⟩
  ·exact ⟨_,_,rfl⟩
 subst hxx;clear hx hB hpb heb b1 b2 HC;go_wp2_with fail
 go_region
 go_wp2;refine Z6k (pb:=pb) (eb:=eb) rfl rfl (x:=.pointer none) (y:=.iface tx vx) ?_ ?_ ?_;·go_simp
 ·go_simp
 ·refine Z4s.bad (w1 := w1) (by have := HX.out; rwa [K3.out] at this) (K4.out.trans (HB.out.mono K4.out.size)) (fun k hk h1 h2 => ?_) ?_ rfl rfl rfl
  ·rw [← HPB.out] at h1;rw [← HEB.out] at h2;exact ((Yg _ _ _ _ h2).trans (Yg _ _ _ _ h1)).trans (Yg _ _ _ _ h2)
  ·show _≤(World.setCell _ _ _).heap.size;rw [Yn,Yn,Yn];exact Y5 _
theorem Z57.mono {w:World} {rb rb':Nat} (h:Z57 w rb) (hr:rb≤rb'):Z57 w rb':=by
 intro lv hl;obtain ⟨b,off,cap,h1,h2,h3⟩:=h lv hl;exact ⟨b,off,cap,by omega,by omega,h3⟩
theorem Rd.new {w1 w2:World} {base rb:Nat} {ts:List Tok} {v:Value} (hv:w1.ownsRow base 87 4 v ts.length (ts.flatMap Tok.cells)) (hl:∃ l e,ts=l ++ [e]∧e.kind=6∧∀ t∈l,t.kind≠6)
 (hb:w2.heap[rb]?=some (.cells #[v,.int .i64 0] 61 (0,0))) (hr:rb=w1.heap.size) (hk:∀ k,k < w1.heap.size→v.ownBlock=some k→w2.heap[k]?=w1.heap[k]?) (hs:w1.heap.size≤w2.heap.size) (hL:Z57 w2 rb):Rd w2 rb ts 0:=by
 have hpos:0 < ts.length:=by obtain ⟨l,e,h,_⟩:=hl; rw [h]; simp
 rcases Zq hv with ⟨_,h2⟩ | ⟨g,cap,rfl,h1,h2,h3⟩;·omega
 have hg:g < w1.heap.size:=(hv.lt g rfl).2;refine ⟨g,0,cap,⟨hb,h1,h2,by omega,Ye hg hs,fun k t j x hi hj=>?_,hl,hL⟩⟩;have:=Zdp (f:=Tok.cells) (fun _=>rfl) hv (g:=g) rfl hi hj;rw [Nat.zero_add];exact (Yj (hk g hg rfl)).trans this
theorem Zfq (c:Int):IntKind.i64.wrap (IntKind.i64.wrap c + 1)=IntKind.i64.wrap (c + 1):=by
 simp only [IntKind.wrap_i64];omega
def Zc0 (w4:World) (B mb:Nat) (a:ATree) (c:Nat) (W:World):Prop:=
 TreeAt W B a∧W.heap[mb]?=some (.cells #[.int .i64 (IntKind.i64.wrap c)] 3 (0,0))∧W.os=w4.os∧W.tape=w4.tape∧W.output=w4.output∧w4.heap.size≤W.heap.size∧∀ k,k < w4.heap.size→k≠mb→W.heap[k]?=w4.heap[k]?
def cntG (c:Nat) (x:ATree):Bool×Nat:=(true,c + 1)
mutual
theorem Zdq:∀ (a:ATree) (c:Nat),Zcr cntG a c=c + a.many
 | .mk b v k t n l,c=>by simp only [Zcr,cntG,if_true,ATree.many]; rw [Zbc l]; omega
theorem Zbc:∀ (l:List ATree) (c:Nat),Z80 cntG l c=c + Z47 l
 | [],c=>by simp [Z80,Z47]
 | a :: l,c=>by simp only [Z80,Z47]; rw [Zdq a,Zbc l]; omega
end
theorem Zl7 (w4:World) (B mb:Nat) (a x:ATree) (hmb:mb < B∨mb ∉ a.blocks) (hml:mb < w4.heap.size) (c:Nat) (w:World) (hI:Zc0 w4 B mb a c w) :
 Calls Tryz.prog 21 #[x.ptr,.pointer (some ⟨mb,0,none⟩)] w fun e w'=>e=.returned (.bool (cntG c x).1)∧Zc0 w4 B mb a (cntG c x).2 w':=by
 obtain ⟨h1,h2,h3,h4,h5,h6,h7⟩:=hI;have c1:w.cell? ⟨mb,0,none⟩=some (.int .i64 (IntKind.i64.wrap c)):=by simp [World.cell?,h2]
 have z1:w.frozen? ⟨mb,0,none⟩=false:=by simp [World.frozen?,h2]
 have hn:mb ∉ a.blocks:=by
  rcases hmb with h | h;·intro hx; have:=(h1.has mb hx).1; omega
  ·exact h
 obtain ⟨y,hy⟩:∃ y,y=IntKind.i64.wrap (c:Int):=⟨_,rfl⟩
 rw [← hy] at c1;have H:Hid (Zc0 w4 B mb a (c + 1) (w.setCell ⟨mb,0,none⟩ (.int .i64 (IntKind.i64.wrap (y + 1))))):=by
  refine lh ⟨h1.keepB fun k hk=>Yg _ _ _ _ (fun e=>hn (by have e':k=mb:=e; rw [← e']; exact hk)),?_,h3,h4,h5,by rw [Yn]; exact h6,fun k hk hne=>(Yg _ _ _ _ hne).trans (h7 k hk hne)⟩;rw [show IntKind.i64.wrap (((c + 1:Nat):Int))=IntKind.i64.wrap (y + 1) by rw [hy,Zfq]; rfl];exact Z07 (o:=0) _ h2
 unfold ATree.ptr;clear h1 h2 h3 h4 h5 h6 h7 hn hy hmb;go_enter Tryz.func21,Tryz.ntmps21
 go_wp2;go_ret;rw [show wrap64 (y + 1)=IntKind.i64.wrap (y + 1) by simp only [IntKind.wrap_i64,wrap64]];exact ⟨rfl,H.out⟩
def finP:Except (Int×Nat) (Tree×List Tok)→Except (Int×Int) Tree
 | .error (e,p)=>.error (e,p)
 | .ok (t,_)=>if 1500 < t.many then .error (4,-1) else .ok t
theorem Zeq (w:World) (text:ByteArray) (hm:text.size≤3000) (hW:Words w) (hL:Z57 w w.heap.size) (ts:List Tok) (ht:Z6d text=.ok ts) :
 Calls Tryz.prog 5 #[.string text] w (Z4s w (Z1p text)):=by
 obtain ⟨k1,k2,k3,k4⟩:=Z9f w;obtain ⟨w0,hw0⟩:=zX (Z4h w)
 rw [← hw0] at k1 k2 k3 k4;have HC:=Za3 w0 text hm (hW.below k4);rw [ht] at HC;have HC:=lh HC;have HL:=lh hL;obtain ⟨s1,s2,s3⟩:=Z73 ts 0 (Yp _) (Z68 ht);have S1:=lh s1;have S2:=lh s2;have HM:=lh hm;have HT:=lh ht;have hmf:∀ (fn:Fn) (first cap:Array Value) (w:World),(Instr.makeFunc fn first cap).run Tryz.prog w=.ok (.func fn first cap) w:=fun _ _ _ _=>rfl;obtain ⟨r,hr⟩:∃ r,Z0 (40 * ts.length + 31) (.stmts 1 []) 0 ts=some r:=by
  have:=Za1 (40 * ts.length + 31) (.stmts 1 []) 0 ts (by simp only [Job.rank]; omega);cases h:Z0 (40 * ts.length + 31) (.stmts 1 []) 0 ts with
  | none=>exact absurd h this
  | some r=>exact ⟨r,rfl⟩
 have hall:Z1p text=finP r:=by
  unfold Z1p;rw [Y9 (by omega),ht];simp only [hr];rcases r with ⟨e,p⟩ | ⟨t,us⟩ <;> rfl
 have HR:=lh hr;have HALL:=lh hall;have K1:=lh k1;have K2:=lh k2;have K3:=lh k3;have K4:=lh k4;unfold Z4h at hw0;have HW0:=lh hw0;clear hw0 k1 k2 k3 k4 s1 s2 s3 ht hr hall hm hL hW;go_enter_defers Tryz.func5,Tryz.ntmps5
 go_wp2_with fail
 rw [← HW0.out];refine HC.out.mono ?_;rintro e w1 ⟨⟨v,rfl,hv⟩,hB⟩;obtain ⟨vp,vn,vc,hvv⟩:∃ p n c,v=.slice p n c:=by
  rcases Zq hv with ⟨h1,_⟩ | ⟨g,cap,h1,_⟩;·exact ⟨_,_,_,h1⟩
  ·exact ⟨_,_,_,h1⟩
 subst hvv;have b1:=(hB.block w.heap.size (by rw [K3.out]; omega)).trans K1.out;have b2:=(hB.block (w.heap.size + 1) (by rw [K3.out]; omega)).trans K2.out;obtain ⟨pb,hpb⟩:=zX w.heap.size
 obtain ⟨eb,heb⟩:=zX (w.heap.size + 1)
 rw [← heb] at b2;rw [← hpb] at b1;rw [← heb,← hpb];have hne:pb≠eb:=by omega
 have c1:w1.cell? ⟨pb,0,none⟩=some (.pointer none):=by simp [World.cell?,b1]
 have c2:w1.cell? ⟨eb,0,none⟩=some .nilIface:=by simp [World.cell?,b2]
 have z1:w1.frozen? ⟨pb,0,none⟩=false:=by simp [World.frozen?,b1]
 have z2:w1.frozen? ⟨eb,0,none⟩=false:=by simp [World.frozen?,b2]
 have hl1:pb < w1.heap.size:=(Y6.1 b1).1;have hl2:eb < w1.heap.size:=(Y6.1 b2).1;have B01:=zT K4 hB;have HV:=lh hv;have HPB:=lh hpb;have HEB:=lh heb;have BB1:=lh b1;have BB2:=lh b2;obtain ⟨w2,hw2⟩:=zX ((w1.setCell ⟨eb,0,none⟩ .nilIface).alloc (.cells #[.slice vp vn vc,.int .i64 0] 61))
 obtain ⟨rb,hrb⟩:=zX w1.heap.size
 have hs1:(w1.setCell ⟨eb,0,none⟩ .nilIface).heap.size=rb:=by rw [hrb]; exact Yn ..
 have hs2:w2.heap.size=rb + 1:=by rw [hw2]; simp [hrb]
 have far2:∀ k,k < rb→k≠eb→w2.heap[k]?=w1.heap[k]?:=fun k hk hn=>by
  rw [hw2];exact (Below.heap_alloc _ _ _ (by rw [hs1]; exact hk)).trans (Yg _ _ _ _ hn)
 have e2:w2.heap[eb]?=some (.cells #[.nilIface] 29 (0,0)):=by
  rw [hw2];exact (Below.heap_alloc _ _ _ (by rw [hs1]; omega)).trans (Z07 (o:=0) .nilIface b2)
 have r2:w2.heap[rb]?=some (.cells #[.slice vp vn vc,.int .i64 0] 61 (0,0)):=by
  rw [hw2,← hs1]; exact heap_alloc_new _ _
 have hlev:Z57 w2 rb:=by
  refine (HL.out.keep (w':=w2) fun k hk=>?_).mono (by have:=B01.out.size; omega);exact (far2 k (by have:=B01.out.size; omega) (by omega)).trans (B01.out.block k hk)
 have hvb:∀ k,(Value.slice vp vn vc).ownBlock=some k→k≠eb:=fun k hk=>by have:=(hv.lt k hk).1; rw [K3.out] at this; omega
 have hrd:Rd w2 rb ts 0:=Rd.new hv S1.out r2 hrb (fun k hk hk2=>far2 k (by omega) (hvb k hk2)) (by omega) hlev;have hP:Pre w2 rb w2.heap.size 0 ts:=⟨hrd,by omega,by omega,Y5 _,by have:=S2.out; have:=HM.out; omega⟩
 have HS:=Zj1 _ w2 rb w2.heap.size 0 ts r hP HR.out;simp only at HS;have HS:=lh HS;have FAR2:=lh far2;have E2:=lh e2;have HW2:=lh hw2;have HRB:=lh hrb;have HS2:=lh hs2;have p2:=(FAR2.out pb (by omega) hne).trans b1;have PP2:=lh p2;have RFR2:=lh (show w2.os=w1.os∧w2.tape=w1.tape∧w2.output=w1.output by rw [hw2]; exact ⟨rfl,rfl,rfl⟩);clear hB hv hpb heb b1 b2 HC hw2 hrb hs1 hs2 far2 e2 r2 hlev hvb hrd hP p2;go_wp2_with fail
 rw [← HW2.out,← HRB.out];refine HS.out.mono ?_;have BW2:Hid (∀ k,k < w.heap.size→w2.heap[k]?=w.heap[k]?):=lh fun k hk=>(FAR2.out k (by have:=B01.out.size; have:=HRB.out; omega) (by have:=HEB.out; omega)).trans (B01.out.block k hk);have SZ:Hid (w.heap.size + 2≤rb):=lh (by have:=HEB.out; have:=HRB.out; omega);rcases r with ⟨c,p⟩ | ⟨t,us⟩
 ·rintro e w3 ⟨⟨b, rfl, h1, h2⟩, hF⟩;have p3 := (hF.block pb (by have := HS2.out; have := HRB.out; omega) (by have := SZ.out; have := HPB.out; omega)).trans PP2.out;have e3 := (hF.block eb (by have := HS2.out; have := HRB.out; omega) (by have := SZ.out; have := HEB.out; omega)).trans E2.out;have H1 := lh h1;have H2 := lh h2;have FF := lh hF;rw [HALL.out];clear h1 h2 hF HS;refine leaves_cons (f := 18) (args := #[.pointer (some ⟨pb, 0, none⟩), .pointer (some ⟨eb, 0, none⟩)]) (by simp) (by simp [go_sem]) ?_;refine (Zcf pb eb b [] w3 _ _ p3 e3 hne).mono ?_;rintro e u' w4 ⟨rfl, rfl, hCP⟩
  obtain ⟨q1,q2,q3,q4,q5,q6,q7⟩:=hCP;show Go.Leaves _ _ _ _ [] .returning _;refine Z6k (pb:=pb) (eb:=eb) rfl rfl (x:=.pointer none) (y:=.iface 88 (.pointer (some ⟨b,0,none⟩))) (by simp [World.cell?,q1]) (by simp [World.cell?,q2]) ?_;have hsz:=FF.out.size;have hb3:b < w3.heap.size:=(Y6.1 H2.out).1;have hbb:=H1.out;refine ⟨⟨?_,?_,?_,?_,fun k hk=>?_⟩,.iface 88 (.pointer (some ⟨b,0,none⟩)),rfl,.inr ⟨p,rfl,b,rfl,?_,?_⟩⟩;·exact q3.trans (FF.out.os.trans (RFR2.out.1.trans B01.out.os))
  ·exact q4.trans (FF.out.tape.trans (RFR2.out.2.1.trans B01.out.tape))
  ·exact q5.trans (FF.out.output.trans (RFR2.out.2.2.trans B01.out.output))
  ·have:=HS2.out; have:=SZ.out; omega
  ·have h2:=HS2.out; have h3:=SZ.out; have h4:=HPB.out; have h5:=HEB.out;exact (q7 k (by omega) (by omega) (by omega)).trans ((FF.out.block k (by omega) (by omega)).trans (BW2.out k hk))
  ·have:=HS2.out; have:=SZ.out; omega
  ·have h2:=HS2.out; have h3:=SZ.out; have h4:=HPB.out; have h5:=HEB.out;exact (q7 b hb3 (by omega) (by omega)).trans H2.out
 ·rintro e w3 ⟨a, rfl, hG, hR3, hF⟩;have h2 := HS2.out; have h3 := SZ.out; have h4 := HPB.out; have h5 := HEB.out; have h6 := HRB.out;have p3 := (hF.block pb (by omega) (by omega)).trans PP2.out;have e3 := (hF.block eb (by omega) (by omega)).trans E2.out;have hsz := hF.size;obtain ⟨mb, hmb⟩ := zX w3.heap.size
  obtain ⟨w4,hw4⟩:=zX ((w3.setCell ⟨pb,0,none⟩ (.pointer (some ⟨a.b,0,none⟩))).alloc (.cells #[.int .i64 0] 3))
  have hs3:(w3.setCell ⟨pb,0,none⟩ (.pointer (some ⟨a.b,0,none⟩))).heap.size=mb:=by rw [hmb]; exact Yn ..
  have hs4:w4.heap.size=mb + 1:=by rw [hw4]; simp [hmb]
  have far4:∀ k,k < mb→k≠pb→w4.heap[k]?=w3.heap[k]?:=fun k hk hn=>by
   rw [hw4];exact (Below.heap_alloc _ _ _ (by rw [hs3]; exact hk)).trans (Yg _ _ _ _ hn)
  have p4:w4.heap[pb]?=some (.cells #[.pointer (some ⟨a.b,0,none⟩)] 22 (0,0)):=by
   rw [hw4];exact (Below.heap_alloc _ _ _ (by rw [hs3]; omega)).trans (Z07 (o:=0) _ p3)
  have m4:w4.heap[mb]?=some (.cells #[.int .i64 0] 3 (0,0)):=by
   rw [hw4,← hs3]; exact heap_alloc_new _ _
  have hT4:TreeAt w4 w2.heap.size a:=hG.at'.keepB fun k hk=>far4 k (by have:=(hG.new k hk).2; omega) (by have:=(hG.new k hk).1; omega);have hI:Zc0 w4 w2.heap.size mb a 0 w4:=⟨hT4,m4,rfl,rfl,rfl,Y5 _,fun _ _ _=>rfl⟩
  have hmn:mb ∉ a.blocks:=fun hx=>by have:=(hG.new mb hx).2; omega
  have HWK:=Zlb ⟨mb,0,none⟩ (Zc0 w4 w2.heap.size mb a) cntG w2.heap.size a.many a (Y5 _) (fun s W h=>h.1) (fun x hx s W h=>Zl7 w4 w2.heap.size mb a x (.inr hmn) (by omega) s W h) 0 w4 hI;unfold ATree.ptr at HWK;rw [Zdq,Nat.zero_add,← Z78,hG.tree] at HWK;have HWK:=lh HWK;have c3:w3.cell? ⟨pb,0,none⟩=some (.pointer none):=by simp [World.cell?,p3]
  have z3:w3.frozen? ⟨pb,0,none⟩=false:=by simp [World.frozen?,p3]
  have hpl3:pb < w3.heap.size:=by omega
  have HG:=lh hG;have FF:=lh hF;have HW4:=lh hw4;have HMB:=lh hmb;have HS4:=lh hs4;have FAR4:=lh far4;have P4:=lh p4;have E3:=lh e3;have hmany:t.many≤6100:=by
   have:=Zaa _ _ _ _ _ _ HR.out;simp only [Job.base,Zv] at this;have:=S2.out; have:=HM.out;omega
  have RF4:=lh (show w4.os=w3.os∧w4.tape=w3.tape∧w4.output=w3.output by rw [hw4]; exact ⟨rfl,rfl,rfl⟩);clear hG hR3 hF hw4 hmb hs3 hs4 far4 p4 m4 hT4 hI hmn p3 e3 h2 h3 h4 h5 h6 hsz HS;go_wp2_with fail
  rw [← HW4.out,← HMB.out];refine HWK.out.mono ?_;rintro e w5 ⟨rfl,i1,i2,i3,i4,i5,i6,i7⟩;rw [show IntKind.i64.wrap ((t.many:Nat):Int)=(t.many:Int) by simp only [IntKind.wrap_i64]; omega] at i2;have h2:=HS2.out; have h3:=SZ.out; have h4:=HPB.out; have h5:=HEB.out; have h6:=HRB.out; have h7:=HS4.out; have h8:=HMB.out; have h9:=FF.out.size;have p5:=(i7 pb (by omega) (by omega)).trans P4.out;have e5:=(i7 eb (by omega) (by omega)).trans ((FAR4.out eb (by omega) (by omega)).trans E3.out)
  have cm:w5.cell? ⟨mb,0,none⟩=some (.int .i64 (t.many:Int)):=by simp [World.cell?,i2]
  have cp:w5.cell? ⟨pb,0,none⟩=some (.pointer (some ⟨a.b,0,none⟩)):=by simp [World.cell?,p5]
  have ce:w5.cell? ⟨eb,0,none⟩=some .nilIface:=by simp [World.cell?,e5]
  have zp:w5.frozen? ⟨pb,0,none⟩=false:=by simp [World.frozen?,p5]
  have ze:w5.frozen? ⟨eb,0,none⟩=false:=by simp [World.frozen?,e5]
  have hl5:pb < w5.heap.size:=by omega
  have hl6:eb < w5.heap.size:=by omega
  have fin:Hid (∀ (W:World) (x y:Value),W=(w5.setCell ⟨pb,0,none⟩ x).setCell ⟨eb,0,none⟩ y→Below w.heap.size w W∧Got w w.heap.size W a t):=by
   refine lh fun W x y hW=>?_;have hsW:W.heap.size=w5.heap.size:=by rw [hW,Yn,Yn]
   have farW:∀ k,k≠pb→k≠eb→W.heap[k]?=w5.heap[k]?:=fun k h1 h2=>by rw [hW]; exact (Yg _ _ _ _ h2).trans (Yg _ _ _ _ h1)
   have farA:∀ k,k < mb→k≠pb→k≠eb→W.heap[k]?=w3.heap[k]?:=fun k hk h1 h2=>(farW k h1 h2).trans ((i7 k (by omega) (by omega)).trans (FAR4.out k (by omega) h1));have o1:W.os=w5.os∧W.tape=w5.tape∧W.output=w5.output:=by rw [hW]; exact ⟨rfl,rfl,rfl⟩
   refine ⟨⟨?_,?_,?_,by omega,fun k hk=>?_⟩,⟨HG.out.tree,?_,HG.out.nodup,fun z hz=>?_⟩⟩;·exact o1.1.trans (i3.trans (RF4.out.1.trans (FF.out.os.trans (RFR2.out.1.trans B01.out.os))))
   ·exact o1.2.1.trans (i4.trans (RF4.out.2.1.trans (FF.out.tape.trans (RFR2.out.2.1.trans B01.out.tape))))
   ·exact o1.2.2.trans (i5.trans (RF4.out.2.2.trans (FF.out.output.trans (RFR2.out.2.2.trans B01.out.output))))
   ·exact (farA k (by omega) (by omega) (by omega)).trans ((FF.out.block k (by omega) (by omega)).trans (BW2.out k hk))
   ·refine (HG.out.at'.keepB fun k hk=>?_).base (by omega);have:=HG.out.new k hk;exact farA k (by omega) (by omega) (by omega)
   ·have:=HG.out.new z hz; omega
  have HALL2:Z1p text=if 1500 < t.many then .error (4,-1) else .ok t:=HALL.out;clear i1 i2 i3 i4 i5 i6 i7 p5 e5 h2 h3 h4 h5 h6 h7 h8 h9 HWK;by_cases hbig:1500 < t.many
  ·rw [Yb hbig] at HALL2;have hb : decide ((t.many : Int) > 1500) = true := by simp; omega
   have HA:=lh HALL2;clear HALL2 hbig;go_wp2_with fail
   refine leaves_cons (f:=18) (args:=#[.pointer (some ⟨pb,0,none⟩),.pointer (some ⟨eb,0,none⟩)]) (by simp) (by simp [go_sem]) ?_;refine (Z9x ⟨pb,0,none⟩ ⟨eb,0,none⟩ _).mono ?_;rintro e u' w6 ⟨rfl,rfl,rfl⟩;show Go.Leaves _ _ _ _ [] .returning _;refine Z6k (pb:=pb) (eb:=eb) rfl rfl (x:=.pointer none) (y:=.iface 23 (.int .i64 4)) (by go_simp) (by go_simp) ?_;rw [HA.out];have hf:=fin.out _ (.pointer none) (.iface 23 (.int .i64 4)) rfl;exact ⟨hf.1,_,rfl,.inl ⟨rfl,rfl⟩⟩
  ·rw [Y9 hbig] at HALL2;have hb : decide ((t.many : Int) > 1500) = false := by simp; omega
   have HA:=lh HALL2;clear HALL2 hbig;go_wp2_with fail
   refine leaves_cons (f:=18) (args:=#[.pointer (some ⟨pb,0,none⟩),.pointer (some ⟨eb,0,none⟩)]) (by simp) (by simp [go_sem]) ?_;refine (Z9x ⟨pb,0,none⟩ ⟨eb,0,none⟩ _).mono ?_;rintro e u' w6 ⟨rfl,rfl,rfl⟩;show Go.Leaves _ _ _ _ [] .returning _;refine Z6k (pb:=pb) (eb:=eb) rfl rfl (x:=.pointer (some ⟨a.b,0,none⟩)) (y:=.nilIface) (by go_simp) (by go_simp) ?_;rw [HA.out];have hf:=fin.out _ (.pointer (some ⟨a.b,0,none⟩)) (.nilIface) rfl;exact ⟨hf.1,a,rfl,hf.2⟩
theorem Zgl (w:World) (text:ByteArray) (hW:Words w) (hL:Z57 w w.heap.size) :
 Calls Tryz.prog 5 #[.string text] w (Z4s w (Z1p text)):=by
 have k4:=(Z9f w).2.2.2;by_cases hm:3000 < text.size
 ·have e : Z1p text = .error (4, -1) := by unfold Z1p; rw [Yb hm]
  rw [e];exact Zbx w text 4 (-1) ((Zd3 (Z4h w) text hm).mono fun e w' ⟨h1,h2⟩=>by subst h1; subst h2; exact ⟨⟨_,rfl,.inl ⟨rfl,rfl⟩⟩,Y8 _ _⟩)
 ·cases ht : Z6d text with
  | ok ts=>exact Zeq w text (by omega) hW hL ts ht
  | error x =>
    obtain ⟨c,p⟩:=x;have e:Z1p text=.error (c,(p:Int)):=by unfold Z1p; rw [Y9 hm,ht]
    rw [e];have HC:=Za3 (Z4h w) text (by omega) (hW.below k4);rw [ht] at HC;exact Zbx w text c p (HC.mono fun e w' ⟨⟨x,h1,h2⟩,h3⟩=>⟨⟨x,h1,.inr ⟨p,rfl,h2⟩⟩,h3⟩)
end Go.Proofs.YtmeiggjboakmpaaGreatDoor
