/- Package tree: try. -/
import Derived.Test.YtmeiggjboakmpaaGreatDoorJ16
import Derived.Recover
import Derived.Stop.Asserts
import Derived.Outline
namespace Go.Proofs.YtmeiggjboakmpaaGreatDoor
open Go Go.RowKit
set_option maxRecDepth 100000
set_option maxHeartbeats 20000000
set_option linter.unusedVariables false
def finT (F d:Nat) (l:List Tree) (ts:List Tok):PR:=
 if isT Zt ts then Z0g (Z0 F (.block false) d ts.tail) fun c ts=>okT (.mk 12 ByteArray.empty 0 (l ++ [.mk 14 ByteArray.empty 0 [c]])) ts
 else if l.length=1 then Z30 3 ts else okT (.mk 12 ByteArray.empty 0 l) ts
def Zg9 (F d:Nat) (b:Tree) (ts:List Tok):PR:=
 if isT Z0r ts then Z1e Z0u ts.tail fun ts=>Z3f ts fun s ts=>Z1e Z0v ts fun ts=>Z0g (Z0 F (.block false) d ts) fun c ts=>finT F d [b,.mk 13 s 0 [c]] ts
 else finT F d [b] ts
theorem Ze3 (F d:Nat) (ts:List Tok):Z0 (F + 1) .try_ d ts=Z0g (Z0 F (.block false) d ts) fun b ts=>Zg9 F d b ts:=rfl
theorem Zjr (F:Nat) (hB:Says 73 (fun rb=>#[.pointer (some ⟨rb,0,none⟩),.bool false]) (.block false) F) :
 Says 81 rArg .try_ (F + 1):=by
 intro w rb B d ts r hP hp;rw [Ze3] at hp;have HP:=lh hP;have HB:=lh hB;have H1:=lh hp;have hlt:=hP.lt;unfold rArg;clear hP hp hB;rcases Z09 H1.out with ⟨⟨c,p⟩,hv,rfl⟩ | ⟨t0,us,hv,h2⟩
 ·have HC := HB.out w rb B d _ _ HP.out hv;simp only at HC;have HC := lh HC;clear hv;go_enter Tryz.func81, Tryz.ntmps81
  go_wp2_with fail
  refine HC.out.mono ?_;rintro e w2 ⟨⟨b,rfl,h1,h2⟩,hF⟩;exact ⟨rfl,⟨b,rfl,h1,h2⟩,hF⟩
 have HC:=HB.out w rb B d _ _ HP.out hv;simp only at HC;have HC:=lh HC;have HL:=lh (Z1h hv);have HQ0:=lh h2;clear hv h2;go_enter Tryz.func81,Tryz.ntmps81
 go_wp2_with fail
 refine HC.out.mono ?_;rintro e w1 ⟨b0,rfl,hG1,hR1,hF1⟩;have hb1:Below w1.heap.size w1 (w1.alloc (.cells #[.pointer (some ⟨b0.b,0,none⟩)] 22)):=(Y8 _ _).alloc (Y5 _) _;have hb2:Below w1.heap.size w1 ((w1.alloc (.cells #[.pointer (some ⟨b0.b,0,none⟩)] 22)).alloc (.cells #[.int .i64 12,.string ⟨#[]⟩,.int .i64 0,.slice (some ⟨w1.heap.size,0,none⟩) 1 1] 38)):=hb1.alloc (by simp) _;have hA:=Got.one (k:=12) (t:=⟨#[]⟩) HP.out.le hF1 hG1;have hR2:=hR1.below hb2;have hF2:=hF1.trans (RFr.below (rb:=rb) hb2)
 have HN:=lh (Z14 (w1.alloc (.cells #[.pointer (some ⟨b0.b,0,none⟩)] 22)) rb 12 ⟨#[]⟩ (some ⟨w1.heap.size,0,none⟩) 1 1);obtain ⟨sb,hsb⟩:=zX w1.heap.size
 rw [← hsb] at HN hA hb2 hR2 hF2;go_wp2_with fail
 rw [← hsb];refine HN.out.mono ?_;rintro e w2 ⟨rfl,hw2⟩;have hsz:(w1.alloc (.cells #[.pointer (some ⟨b0.b,0,none⟩)] 22)).heap.size=sb + 1:=by rw [hsb]; simp
 rw [hsz];obtain ⟨nb,hnb⟩:=zX (sb + 1)
 rw [← hnb] at hA ⊢;have hA:Got w B w2 (.mk nb (.slice (some ⟨sb,0,none⟩) 1 1) 12 ⟨#[]⟩ 0 [b0]) (.mk 12 ⟨#[]⟩ 0 [t0]):=by rw [hw2]; exact hA
 rw [← hw2] at hR2 hF2;have N:=lh hA;have FQ:=lh hF2;have PQ:=lh (HP.out.next hR2 hF2 HL.out);have HSB:=lh hsb;clear hG1 hR1 hF1 hb1 hb2 hA hR2 hF2 HN hsb hw2 hsz hnb HC;by_cases hc:isT Z0r us=true
 ·have hq := HQ0.out;unfold Zg9 at hq;rw [Yb hc] at hq;have HQ1 := lh hq;have HT := Z1g _ rb us d Z0r PQ.out.rd hc;unfold Z0r at HT;have HT := lh HT;clear hc hq;go_wp2_with fail
  refine HT.out.mono ?_;rintro e w3 ⟨rfl,hR3,hF3⟩;have N:=lh (N.out.rfr hlt hF3);have PQ:=lh (PQ.out.tail hR3 hF3);have FQ:=lh (FQ.out.trans hF3);clear hR3 hF3 HT;rcases Z29 HQ1.out with ⟨hs,h2⟩ | ⟨hs,rfl⟩
  ·have HT := Z2b _ rb us.tail d Z0u PQ.out.rd hs;unfold Z0u at HT;have HT := lh HT;have HQ2 := lh h2;clear hs h2;go_wp2_with fail
   refine HT.out.mono ?_;rintro e w4 ⟨rfl,hR4,hF4⟩;have N:=lh (N.out.rfr hlt hF4);have PQ:=lh (PQ.out.tail hR4 hF4);have FQ:=lh (FQ.out.trans hF4);clear hR4 hF4 HT;rcases Z3x HQ2.out with ⟨hk,h1⟩ | ⟨hk,rfl⟩
   ·have HT := lh (Z44 _ rb us.tail.tail d PQ.out.rd hk);obtain ⟨s, hs⟩ := zX ((hdT us.tail.tail).text)
    rw [← hs] at HT h1;have HQ3:=lh h1;clear hk h1 hs;go_wp2_with fail
    refine HT.out.mono ?_;rintro e w5 ⟨rfl,hR5,hF5⟩;have N:=lh (N.out.rfr hlt hF5);have PQ:=lh (PQ.out.tail hR5 hF5);have FQ:=lh (FQ.out.trans hF5);clear hR5 hF5 HT;rcases Z29 HQ3.out with ⟨hs,h2⟩ | ⟨hs,rfl⟩
    ·have HT := Z2b _ rb us.tail.tail.tail d Z0v PQ.out.rd hs;unfold Z0v at HT;have HT := lh HT;have H2 := lh h2;clear hs h2;go_wp2_with fail
     refine HT.out.mono ?_;rintro e w6 ⟨rfl,hR6,hF6⟩;have N:=lh (N.out.rfr hlt hF6);have PQ:=lh (PQ.out.tail hR6 hF6);have FQ:=lh (FQ.out.trans hF6);have HL:=lh (show us.tail.tail.tail.tail.length≤ts.length by have:=HL.out; simp only [List.length_tail]; omega);clear hR6 hF6 HT;have hblk:=N.out.at'.blkOf;simp only [ATree.b,ATree.v,ATree.kind,ATree.text,ATree.n] at hblk;have n3:w6.cell? ⟨nb,3,none⟩=some (.slice (some ⟨sb,0,none⟩) 1 1):=by simp [World.cell?,hblk]
     clear hblk;go_wp2_with fail
     refine Zf [0,2,4,6,8,10,12,14,17,19,21,23,25] [13,14,15] (fun W=>W.cell? ⟨nb,3,none⟩=some (.slice (some ⟨sb,0,none⟩) 1 1)) n3 fun _=>?_;simp only [Zh,pD,zD,zE,zF,zG,zH,zI,zJ,zK]
     iterate 8
      first | refine Za _ ?_ | refine Zb ?_
      simp only [Act.put,zA,zB,zC]
     refine Z5 (fun K hK=>?_);go_simp
     have P7:Pre w6.drew rb B d _:=PQ.out.below (Y8 _ _).drew;rcases Z09 H2.out with ⟨⟨c,p⟩,hv,rfl⟩ | ⟨t,vs,hv,hq4⟩
     ·refine (HB.out w6.drew rb B d _ _ P7 hv).mono ?_;rintro e w7 ⟨⟨b,rfl,h1,h2⟩,hF7⟩;exact ⟨rfl,Z0t.pre FQ.out.drew (r:=.error (c,p)) ⟨⟨b,rfl,h1,h2⟩,hF7⟩⟩
     have hvl:=Z1h hv;have HQ4:=lh hq4;refine (HB.out w6.drew rb B d _ _ P7 hv).mono ?_;rintro e w7 ⟨x,rfl,hX,hR7,hF7⟩;have hF67:RFr w6 w7 rb:=(RFr.refl w6 rb).drew.trans hF7;have hN7:=N.out.rfr hlt hF67;have hblk:=hN7.at'.blkOf;simp only [ATree.b,ATree.v,ATree.kind,ATree.text,ATree.n] at hblk;have m3:w7.cell? ⟨nb,3,none⟩=some (.slice (some ⟨sb,0,none⟩) 1 1):=by simp [World.cell?,hblk]
     refine hK _ _ m3 ?_;clear hK K;refine Z5 (fun K hK=>?_);go_simp
     have hb1:Below w7.heap.size w7 (w7.alloc (.cells #[.pointer (some ⟨x.b,0,none⟩)] 22)):=(Y8 _ _).alloc (Y5 _) _;refine hK _ _ ((hb1.cell (p:=⟨nb,3,none⟩) (Y6.1 hblk).1).trans m3) ?_;clear hK K;refine Z5 (fun K hK=>?_);go_simp
     have hA:=Got.one (w0:=w6.drew) (w:=w7) (rb:=rb) (k:=13) (t:=s) (Ya HP.out.le FQ.out.size) hF7 hX;have hb2:Below w7.heap.size w7 ((w7.alloc (.cells #[.pointer (some ⟨x.b,0,none⟩)] 22)).alloc (.cells #[.int .i64 13,.string s,.int .i64 0,.slice (some ⟨w7.heap.size,0,none⟩) 1 1] 38)):=hb1.alloc (by simp) _;refine (Z14 (w7.alloc (.cells #[.pointer (some ⟨x.b,0,none⟩)] 22)) rb 13 s (some ⟨w7.heap.size,0,none⟩) 1 1).mono ?_;rintro e w3' ⟨rfl,hw3'⟩
     have hA:Got w6.drew B w3' (.mk (w7.heap.size + 1) (.slice (some ⟨w7.heap.size,0,none⟩) 1 1) 13 s 0 [x]) (.mk 13 s 0 [t]):=by rw [hw3']; exact hA
     rw [← hw3'] at hb2;have hN3:=hN7.rfr hlt (RFr.below (rb:=rb) hb2);have hR3:=hR7.below hb2;have hF63:RFr w6 w3' rb:=hF67.trans (RFr.below hb2);clear hblk m3 hw3' hb1;have hblk:=hN3.at'.blkOf;simp only [ATree.b,ATree.v,ATree.kind,ATree.text,ATree.n] at hblk;have m3:w3'.cell? ⟨nb,3,none⟩=some (.slice (some ⟨sb,0,none⟩) 1 1):=by simp [World.cell?,hblk]
     have mz:w3'.frozen? ⟨nb,3,none⟩=false:=by simp [World.frozen?,hblk]
     have hnb3:nb < w3'.heap.size:=(Y6.1 hblk).1;have hnd:=hN3.nodup;simp only [ATree.blocks,List.nodup_cons,List.mem_append,Option.mem_toList,not_or] at hnd;have hne:=hnd.1.1;have hk4:([b0]).length≤8:=by simp
     have hsz7:(w7.alloc (.cells #[.pointer (some ⟨x.b,0,none⟩)] 22)).heap.size=w7.heap.size + 1:=by simp
     rw [hsz7];obtain ⟨a,ha⟩:∃ a:ATree,a=.mk (w7.heap.size + 1) (.slice (some ⟨w7.heap.size,0,none⟩) 1 1) 13 s 0 [x]:=⟨_,rfl⟩
     rw [← ha] at hA;have hap:Value.pointer (some ⟨w7.heap.size + 1,0,none⟩)=.pointer (some ⟨a.b,0,none⟩):=by rw [ha]; rfl
     rw [hap];clear ha hap hsz7;have N3:=lh hN3;have A3:=lh hA;have R3:=lh hR3;have F3':=lh (FQ.out.trans hF63);have NE:=lh hne;have NA:=lh (show ∀ y∈(ATree.mk nb (.slice (some ⟨sb,0,none⟩) 1 1) 12 ⟨#[]⟩ 0 [b0]).blocks,y < w6.drew.heap.size from fun y hy=>(N.out.new y hy).2);have HVL:=lh hvl;refine hK _ _ m3 ?_;obtain ⟨i0,hi,hz0,hz1,hz2⟩:=info_parts Tryz.infoPtr;clear hK K hA hR3 hF63 hN3 hblk hnd hne n3 hX hR7 hF7 hF67 hN7 hb2 hv hq4 P7 hvl;refine Z5 (fun K hK=>?_);go_simp
     refine hK _ _ ((Z8 hnb3).trans m3) ?_;clear hK K;refine Z5 (fun K hK=>?_)
     refine step_append_lies _ (by rfl) (.tmp 22) (.tmp 29) 36 (by rfl) B 22 i0 _ 1 8 Tryz.underlying36 hi hz0 hz1 hz2 rfl (by decide) (.slice (some ⟨sb,0,none⟩) 1 1) ([b0]).length (([b0]).map ATree.ptr) (by rfl) (N3.out.at'.rowOf.alloc _) ⟨w3'.heap.size,0,none⟩ 1 1 [a.ptr] (by rfl) rfl (Yi (cs:=#[a.ptr]) (t:=22) (fr:=(0,0)) (heap_alloc_new w3' _)) (by simp [ATree.ptr,Value.oneCell']) (by decide) (by unfold maxLen; omega) (by omega) (by simp; have:=F3'.out.size; have:=HP.out.le; omega) (w3'.heap.size + 1) (by simp) ?_;intro gg cap w4 hown4 hgrow4 hat4 hlt4
     have m4:w4.cell? ⟨nb,3,none⟩=some (.slice (some ⟨sb,0,none⟩) 1 1):=(hgrow4.cell_far ⟨nb,3,none⟩ (by simp; omega) (fun e=>NE.out e.symm)).trans ((Z8 hnb3).trans m3);have mz4:w4.frozen? ⟨nb,3,none⟩=false:=(hgrow4.frozen_far ⟨nb,3,none⟩ (by simp; omega) (fun e=>NE.out e.symm)).trans ((Z0m hnb3).trans mz);refine hK _ _ m4 ?_;clear hK K;simp only [Act.put,zA,zB,zC]
     have hfin:=Got.push hlt HP.out.le N3.out (wA:=w6.drew) NA.out A3.out F3'.out R3.out ((Y8 _ _).alloc (Y5 _) _) hgrow4 hown4 (by rcases hat4 with h | h; (exact .inl h); (exact .inr (by omega))) hlt4;have FIN:=lh hfin;clear hgrow4 hown4 hat4 hlt4 hfin;refine Z6 ?_;go_wp2_with fail
     have hn4:Got w B (w4.setCell ⟨nb,3,none⟩ (.slice (some ⟨gg,0,none⟩) 2 cap)) (.mk nb (.slice (some ⟨gg,0,none⟩) 2 cap) 12 ⟨#[]⟩ 0 [b0,a]) (.mk 12 ⟨#[]⟩ 0 [t0,.mk 13 s 0 [t]]):=by
      have h1:=FIN.out.1;have h2:=N.out.tree;simp only [ATree.tree,Tree.mk.injEq,true_and] at h2;rw [h2] at h1;exact h1
     have hF4:RFr w (w4.setCell ⟨nb,3,none⟩ (.slice (some ⟨gg,0,none⟩) 2 cap)) rb:=FIN.out.2.1;have hR4:Rd (w4.setCell ⟨nb,3,none⟩ (.slice (some ⟨gg,0,none⟩) 2 cap)) rb vs d:=FIN.out.2.2;have hl4:vs.length≤ts.length:=by have:=HVL.out; have:=HL.out; omega
     have hP4:Pre (w4.setCell ⟨nb,3,none⟩ (.slice (some ⟨gg,0,none⟩) 2 cap)) rb B d vs:=HP.out.next hR4 hF4 hl4;obtain ⟨w5,hw5⟩:=zX (w4.setCell ⟨nb,3,none⟩ (.slice (some ⟨gg,0,none⟩) 2 cap))
     have HW5:=lh hw5;rw [← hw5] at hn4 hF4 hP4;have N:=lh hn4;have FQ:=lh hF4;have PQ:=lh hP4;have HQ:=lh (show finT F d [t0,.mk 13 s 0 [t]] vs=some r from HQ4.out);clear hn4 hF4 hR4 hl4 hP4 FIN m4 mz4 NA NE A3 N3 R3 F3' m3 mz hnb3 hk4;rw [← hw5];clear hw5;obtain ⟨c0,rfl⟩:∃ c0:ATree,c0=a:=⟨_,rfl⟩
     obtain ⟨tc,rfl⟩:∃ tc:Tree,tc=t:=⟨_,rfl⟩
     obtain ⟨g2,rfl⟩:∃ g2:Nat,g2=gg:=⟨_,rfl⟩
     obtain ⟨cap2,rfl⟩:∃ c2:Nat,c2=cap:=⟨_,rfl⟩
     obtain ⟨vs2,rfl⟩:∃ c2:List Tok,c2=vs:=⟨_,rfl⟩
     by_cases hf:isT Zt vs2=true
     ·have hq := HQ.out;unfold finT at hq;rw [Yb hf] at hq;have H2 := lh hq;have HT := Z1g _ rb vs2 d Zt PQ.out.rd hf;unfold Zt at HT;have HT := lh HT;clear hf hq;go_wp2_with fail
      refine HT.out.mono ?_;rintro e wf ⟨rfl,hRf,hFf⟩;have N:=lh (N.out.rfr hlt hFf);have PQ:=lh (PQ.out.tail hRf hFf);have FQ:=lh (FQ.out.trans hFf);clear hRf hFf HT;have hblk:=N.out.at'.blkOf;simp only [ATree.b,ATree.v,ATree.kind,ATree.text,ATree.n] at hblk;have n3:wf.cell? ⟨nb,3,none⟩=some (.slice (some ⟨g2,0,none⟩) 2 cap2):=by simp [World.cell?,hblk]
      clear hblk;go_wp2_with fail
      refine Zf [0,2,4,6,8,10,12,15,17,19,21,23] [12,13,14] (fun W=>W.cell? ⟨nb,3,none⟩=some (.slice (some ⟨g2,0,none⟩) 2 cap2)) n3 fun _=>?_;simp only [Zh,pD,zD,zE,zF,zG,zH,zI,zJ,zK]
      iterate 7
       first | refine Za _ ?_ | refine Zb ?_
       simp only [Act.put,zA,zB,zC]
      refine Z5 (fun K hK=>?_);go_simp
      have P7:Pre wf.drew rb B d _:=PQ.out.below (Y8 _ _).drew;rcases Z09 H2.out with ⟨⟨c,p⟩,hv,rfl⟩ | ⟨t,vs,hv,hq4⟩
      ·refine (HB.out wf.drew rb B d _ _ P7 hv).mono ?_;rintro e w7 ⟨⟨b,rfl,h1,h2⟩,hF7⟩;exact ⟨rfl,Z0t.pre FQ.out.drew (r:=.error (c,p)) ⟨⟨b,rfl,h1,h2⟩,hF7⟩⟩
      have hvl:=Z1h hv;have HQ4:=lh hq4;refine (HB.out wf.drew rb B d _ _ P7 hv).mono ?_;rintro e w7 ⟨x,rfl,hX,hR7,hF7⟩;have hF67:RFr wf w7 rb:=(RFr.refl wf rb).drew.trans hF7;have hN7:=N.out.rfr hlt hF67;have hblk:=hN7.at'.blkOf;simp only [ATree.b,ATree.v,ATree.kind,ATree.text,ATree.n] at hblk;have m3:w7.cell? ⟨nb,3,none⟩=some (.slice (some ⟨g2,0,none⟩) 2 cap2):=by simp [World.cell?,hblk]
      refine hK _ _ m3 ?_;clear hK K;refine Z5 (fun K hK=>?_);go_simp
      have hb1:Below w7.heap.size w7 (w7.alloc (.cells #[.pointer (some ⟨x.b,0,none⟩)] 22)):=(Y8 _ _).alloc (Y5 _) _;refine hK _ _ ((hb1.cell (p:=⟨nb,3,none⟩) (Y6.1 hblk).1).trans m3) ?_;clear hK K;refine Z5 (fun K hK=>?_);go_simp
      have hA:=Got.one (w0:=wf.drew) (w:=w7) (rb:=rb) (k:=14) (t:=⟨#[]⟩) (Ya HP.out.le FQ.out.size) hF7 hX;have hb2:Below w7.heap.size w7 ((w7.alloc (.cells #[.pointer (some ⟨x.b,0,none⟩)] 22)).alloc (.cells #[.int .i64 14,.string ⟨#[]⟩,.int .i64 0,.slice (some ⟨w7.heap.size,0,none⟩) 1 1] 38)):=hb1.alloc (by simp) _;refine (Z14 (w7.alloc (.cells #[.pointer (some ⟨x.b,0,none⟩)] 22)) rb 14 ⟨#[]⟩ (some ⟨w7.heap.size,0,none⟩) 1 1).mono ?_;rintro e w3' ⟨rfl,hw3'⟩
      have hA:Got wf.drew B w3' (.mk (w7.heap.size + 1) (.slice (some ⟨w7.heap.size,0,none⟩) 1 1) 14 ⟨#[]⟩ 0 [x]) (.mk 14 ⟨#[]⟩ 0 [t]):=by rw [hw3']; exact hA
      rw [← hw3'] at hb2;have hN3:=hN7.rfr hlt (RFr.below (rb:=rb) hb2);have hR3:=hR7.below hb2;have hF63:RFr wf w3' rb:=hF67.trans (RFr.below hb2);clear hblk m3 hw3' hb1;have hblk:=hN3.at'.blkOf;simp only [ATree.b,ATree.v,ATree.kind,ATree.text,ATree.n] at hblk;have m3:w3'.cell? ⟨nb,3,none⟩=some (.slice (some ⟨g2,0,none⟩) 2 cap2):=by simp [World.cell?,hblk]
      have mz:w3'.frozen? ⟨nb,3,none⟩=false:=by simp [World.frozen?,hblk]
      have hnb3:nb < w3'.heap.size:=(Y6.1 hblk).1;have hnd:=hN3.nodup;simp only [ATree.blocks,List.nodup_cons,List.mem_append,Option.mem_toList,not_or] at hnd;have hne:=hnd.1.1;have hk4:([b0,c0]).length≤8:=by simp
      have hsz7:(w7.alloc (.cells #[.pointer (some ⟨x.b,0,none⟩)] 22)).heap.size=w7.heap.size + 1:=by simp
      rw [hsz7];obtain ⟨a,ha⟩:∃ a:ATree,a=.mk (w7.heap.size + 1) (.slice (some ⟨w7.heap.size,0,none⟩) 1 1) 14 ⟨#[]⟩ 0 [x]:=⟨_,rfl⟩
      rw [← ha] at hA;have hap:Value.pointer (some ⟨w7.heap.size + 1,0,none⟩)=.pointer (some ⟨a.b,0,none⟩):=by rw [ha]; rfl
      rw [hap];clear ha hap hsz7;have N3:=lh hN3;have A3:=lh hA;have R3:=lh hR3;have F3':=lh (FQ.out.trans hF63);have NE:=lh hne;have NA:=lh (show ∀ y∈(ATree.mk nb (.slice (some ⟨g2,0,none⟩) 2 cap2) 12 ⟨#[]⟩ 0 [b0,c0]).blocks,y < wf.drew.heap.size from fun y hy=>(N.out.new y hy).2);have HVL:=lh hvl;refine hK _ _ m3 ?_;obtain ⟨i0,hi,hz0,hz1,hz2⟩:=info_parts Tryz.infoPtr;clear hK K hA hR3 hF63 hN3 hblk hnd hne n3 hX hR7 hF7 hF67 hN7 hb2 hv hq4 P7 hvl;refine Z5 (fun K hK=>?_);go_simp
      refine hK _ _ ((Z8 hnb3).trans m3) ?_;clear hK K;refine Z5 (fun K hK=>?_)
      refine step_append_lies _ (by rfl) (.tmp 39) (.tmp 45) 36 (by rfl) B 22 i0 _ 1 8 Tryz.underlying36 hi hz0 hz1 hz2 rfl (by decide) (.slice (some ⟨g2,0,none⟩) 2 cap2) ([b0,c0]).length (([b0,c0]).map ATree.ptr) (by rfl) (N3.out.at'.rowOf.alloc _) ⟨w3'.heap.size,0,none⟩ 1 1 [a.ptr] (by rfl) rfl (Yi (cs:=#[a.ptr]) (t:=22) (fr:=(0,0)) (heap_alloc_new w3' _)) (by simp [ATree.ptr,Value.oneCell']) (by decide) (by unfold maxLen; omega) (by omega) (by simp; have:=F3'.out.size; have:=HP.out.le; omega) (w3'.heap.size + 1) (by simp) ?_
      intro gg cap w4 hown4 hgrow4 hat4 hlt4;have m4:w4.cell? ⟨nb,3,none⟩=some (.slice (some ⟨g2,0,none⟩) 2 cap2):=(hgrow4.cell_far ⟨nb,3,none⟩ (by simp; omega) (fun e=>NE.out e.symm)).trans ((Z8 hnb3).trans m3);have mz4:w4.frozen? ⟨nb,3,none⟩=false:=(hgrow4.frozen_far ⟨nb,3,none⟩ (by simp; omega) (fun e=>NE.out e.symm)).trans ((Z0m hnb3).trans mz);refine hK _ _ m4 ?_;clear hK K;simp only [Act.put,zA,zB,zC]
      have hfin:=Got.push hlt HP.out.le N3.out (wA:=wf.drew) NA.out A3.out F3'.out R3.out ((Y8 _ _).alloc (Y5 _) _) hgrow4 hown4 (by rcases hat4 with h | h; (exact .inl h); (exact .inr (by omega))) hlt4;have FIN:=lh hfin;clear hgrow4 hown4 hat4 hlt4 hfin;refine Z6 ?_;have hq5:=Yk HQ4.out;have HR5:=lh hq5.symm;have hblk:=FIN.out.1.at'.blkOf;simp only [ATree.b,ATree.v,ATree.kind,ATree.text,ATree.n] at hblk
      have e3:(w4.setCell ⟨nb,3,none⟩ (.slice (some ⟨gg,0,none⟩) (([b0,c0]).length + 1) cap)).cell? ⟨nb,3,none⟩=some (.slice (some ⟨gg,0,none⟩) (([b0,c0]).length + 1) cap):=by unfold World.cell?; rw [hblk]; rfl
      have n1:(((([b0,c0]).length + 1:Nat):Int) == 1)=false:=by simp
      clear hq5 hblk;go_wp2;go_ret;rw [HR5.out];refine ⟨.mk nb (.slice (some ⟨gg,0,none⟩) (([b0,c0]).length + 1) cap) 12 ⟨#[]⟩ 0 ([b0,c0] ++ [a]),rfl,?_,FIN.out.2.2,FIN.out.2.1⟩;have h1:=FIN.out.1;have h2:=N.out.tree;simp only [ATree.tree,Tree.mk.injEq,true_and] at h2;rw [h2] at h1;exact h1
     ·have hf' : isT Zt vs2 = false := by simpa using hf
      have hq:=HQ.out;unfold finT at hq;rw [Y9 hf] at hq;have HQ2:=lh hq;have HT:=Z22 _ rb vs2 d Zt PQ.out.rd hf';unfold Zt at HT;have HT:=lh HT;clear hf hf' hq;go_wp2_with fail
      refine HT.out.mono ?_;rintro e wf ⟨rfl,hBf⟩;have N:=lh (N.out.rfr hlt (RFr.below (rb:=rb) hBf));have PQ:=lh (PQ.out.below hBf);have FQ:=lh (FQ.out.trans (RFr.below (rb:=rb) hBf));have hblk:=N.out.at'.blkOf;simp only [ATree.b,ATree.v,ATree.kind,ATree.text,ATree.n] at hblk;have n3:wf.cell? ⟨nb,3,none⟩=some (.slice (some ⟨g2,0,none⟩) 2 cap2):=by simp [World.cell?,hblk]
      clear hBf HT hblk;have hq:=HQ2.out;rw [Y9 (by simp)] at hq;have HR5:=lh (Yk hq).symm;clear hq;go_wp2;go_ret;rw [HR5.out];exact ⟨_,rfl,N.out,PQ.out.rd,FQ.out⟩
    ·have HT := Z3k _ rb us.tail.tail.tail d Z0v PQ.out.rd hs;unfold Z0v at HT;have HT := lh HT;clear hs;go_wp2_with fail
     refine HT.out.mono ?_;rintro e w9 ⟨⟨b,rfl,h1,h2⟩,hB⟩;exact ⟨rfl,Z0t.err FQ.out ⟨b,rfl,h1,h2⟩ hB⟩
   ·have HT := lh (Z61 _ rb us.tail.tail d PQ.out.rd hk);clear hk;go_wp2_with fail
    refine HT.out.mono ?_;rintro e w9 ⟨⟨b,rfl,h1,h2⟩,hB⟩;exact ⟨rfl,Z0t.err FQ.out ⟨b,rfl,h1,h2⟩ hB⟩
  ·have HT := Z3k _ rb us.tail d Z0u PQ.out.rd hs;unfold Z0u at HT;have HT := lh HT;clear hs;go_wp2_with fail
   refine HT.out.mono ?_;rintro e w9 ⟨⟨b,rfl,h1,h2⟩,hB⟩;exact ⟨rfl,Z0t.err FQ.out ⟨b,rfl,h1,h2⟩ hB⟩
 ·have hc' : isT Z0r us = false := by simpa using hc
  have hq:=HQ0.out;unfold Zg9 at hq;rw [Y9 hc] at hq;have HQ:=lh hq;have HT:=Z22 _ rb us d Z0r PQ.out.rd hc';unfold Z0r at HT;have HT:=lh HT;clear hc hc' hq;go_wp2_with fail
  refine HT.out.mono ?_;rintro e w3 ⟨rfl,hB3⟩;have N:=lh (N.out.rfr hlt (RFr.below (rb:=rb) hB3));have PQ:=lh (PQ.out.below hB3);have FQ:=lh (FQ.out.trans (RFr.below (rb:=rb) hB3));clear hB3 HT;by_cases hf:isT Zt us=true
  ·have hq := HQ.out;unfold finT at hq;rw [Yb hf] at hq;have H2 := lh hq;have HT := Z1g _ rb us d Zt PQ.out.rd hf;unfold Zt at HT;have HT := lh HT;clear hf hq;go_wp2_with fail
   refine HT.out.mono ?_;rintro e wf ⟨rfl,hRf,hFf⟩;have N:=lh (N.out.rfr hlt hFf);have PQ:=lh (PQ.out.tail hRf hFf);have FQ:=lh (FQ.out.trans hFf);clear hRf hFf HT;have hblk:=N.out.at'.blkOf;simp only [ATree.b,ATree.v,ATree.kind,ATree.text,ATree.n] at hblk;have n3:wf.cell? ⟨nb,3,none⟩=some (.slice (some ⟨sb,0,none⟩) 1 1):=by simp [World.cell?,hblk]
   clear hblk;go_wp2_with fail
   refine Zf [0,2,4,6,8,10,12,15,17,19,21,23] [12,13,14] (fun W=>W.cell? ⟨nb,3,none⟩=some (.slice (some ⟨sb,0,none⟩) 1 1)) n3 fun _=>?_;simp only [Zh,pD,zD,zE,zF,zG,zH,zI,zJ,zK]
   iterate 7
    first | refine Za _ ?_ | refine Zb ?_
    simp only [Act.put,zA,zB,zC]
   refine Z5 (fun K hK=>?_);go_simp
   have P7:Pre wf.drew rb B d _:=PQ.out.below (Y8 _ _).drew;rcases Z09 H2.out with ⟨⟨c,p⟩,hv,rfl⟩ | ⟨t,vs,hv,hq4⟩
   ·refine (HB.out wf.drew rb B d _ _ P7 hv).mono ?_;rintro e w7 ⟨⟨b,rfl,h1,h2⟩,hF7⟩;exact ⟨rfl,Z0t.pre FQ.out.drew (r:=.error (c,p)) ⟨⟨b,rfl,h1,h2⟩,hF7⟩⟩
   have hvl:=Z1h hv;have HQ4:=lh hq4;refine (HB.out wf.drew rb B d _ _ P7 hv).mono ?_;rintro e w7 ⟨x,rfl,hX,hR7,hF7⟩;have hF67:RFr wf w7 rb:=(RFr.refl wf rb).drew.trans hF7;have hN7:=N.out.rfr hlt hF67;have hblk:=hN7.at'.blkOf;simp only [ATree.b,ATree.v,ATree.kind,ATree.text,ATree.n] at hblk;have m3:w7.cell? ⟨nb,3,none⟩=some (.slice (some ⟨sb,0,none⟩) 1 1):=by simp [World.cell?,hblk]
   refine hK _ _ m3 ?_;clear hK K;refine Z5 (fun K hK=>?_);go_simp
   have hb1:Below w7.heap.size w7 (w7.alloc (.cells #[.pointer (some ⟨x.b,0,none⟩)] 22)):=(Y8 _ _).alloc (Y5 _) _;refine hK _ _ ((hb1.cell (p:=⟨nb,3,none⟩) (Y6.1 hblk).1).trans m3) ?_;clear hK K;refine Z5 (fun K hK=>?_);go_simp
   have hA:=Got.one (w0:=wf.drew) (w:=w7) (rb:=rb) (k:=14) (t:=⟨#[]⟩) (Ya HP.out.le FQ.out.size) hF7 hX;have hb2:Below w7.heap.size w7 ((w7.alloc (.cells #[.pointer (some ⟨x.b,0,none⟩)] 22)).alloc (.cells #[.int .i64 14,.string ⟨#[]⟩,.int .i64 0,.slice (some ⟨w7.heap.size,0,none⟩) 1 1] 38)):=hb1.alloc (by simp) _;refine (Z14 (w7.alloc (.cells #[.pointer (some ⟨x.b,0,none⟩)] 22)) rb 14 ⟨#[]⟩ (some ⟨w7.heap.size,0,none⟩) 1 1).mono ?_;rintro e w3' ⟨rfl,hw3'⟩
   have hA:Got wf.drew B w3' (.mk (w7.heap.size + 1) (.slice (some ⟨w7.heap.size,0,none⟩) 1 1) 14 ⟨#[]⟩ 0 [x]) (.mk 14 ⟨#[]⟩ 0 [t]):=by rw [hw3']; exact hA
   rw [← hw3'] at hb2;have hN3:=hN7.rfr hlt (RFr.below (rb:=rb) hb2);have hR3:=hR7.below hb2;have hF63:RFr wf w3' rb:=hF67.trans (RFr.below hb2);clear hblk m3 hw3' hb1;have hblk:=hN3.at'.blkOf;simp only [ATree.b,ATree.v,ATree.kind,ATree.text,ATree.n] at hblk;have m3:w3'.cell? ⟨nb,3,none⟩=some (.slice (some ⟨sb,0,none⟩) 1 1):=by simp [World.cell?,hblk]
   have mz:w3'.frozen? ⟨nb,3,none⟩=false:=by simp [World.frozen?,hblk]
   have hnb3:nb < w3'.heap.size:=(Y6.1 hblk).1;have hnd:=hN3.nodup;simp only [ATree.blocks,List.nodup_cons,List.mem_append,Option.mem_toList,not_or] at hnd;have hne:=hnd.1.1;have hk4:([b0]).length≤8:=by simp
   have hsz7:(w7.alloc (.cells #[.pointer (some ⟨x.b,0,none⟩)] 22)).heap.size=w7.heap.size + 1:=by simp
   rw [hsz7];obtain ⟨a,ha⟩:∃ a:ATree,a=.mk (w7.heap.size + 1) (.slice (some ⟨w7.heap.size,0,none⟩) 1 1) 14 ⟨#[]⟩ 0 [x]:=⟨_,rfl⟩
   rw [← ha] at hA;have hap:Value.pointer (some ⟨w7.heap.size + 1,0,none⟩)=.pointer (some ⟨a.b,0,none⟩):=by rw [ha]; rfl
   rw [hap];clear ha hap hsz7;have N3:=lh hN3;have A3:=lh hA;have R3:=lh hR3;have F3':=lh (FQ.out.trans hF63);have NE:=lh hne;have NA:=lh (show ∀ y∈(ATree.mk nb (.slice (some ⟨sb,0,none⟩) 1 1) 12 ⟨#[]⟩ 0 [b0]).blocks,y < wf.drew.heap.size from fun y hy=>(N.out.new y hy).2);have HVL:=lh hvl;refine hK _ _ m3 ?_;obtain ⟨i0,hi,hz0,hz1,hz2⟩:=info_parts Tryz.infoPtr;clear hK K hA hR3 hF63 hN3 hblk hnd hne n3 hX hR7 hF7 hF67 hN7 hb2 hv hq4 P7 hvl;refine Z5 (fun K hK=>?_);go_simp
   refine hK _ _ ((Z8 hnb3).trans m3) ?_;clear hK K;refine Z5 (fun K hK=>?_)
   refine step_append_lies _ (by rfl) (.tmp 39) (.tmp 45) 36 (by rfl) B 22 i0 _ 1 8 Tryz.underlying36 hi hz0 hz1 hz2 rfl (by decide) (.slice (some ⟨sb,0,none⟩) 1 1) ([b0]).length (([b0]).map ATree.ptr) (by rfl) (N3.out.at'.rowOf.alloc _) ⟨w3'.heap.size,0,none⟩ 1 1 [a.ptr] (by rfl) rfl (Yi (cs:=#[a.ptr]) (t:=22) (fr:=(0,0)) (heap_alloc_new w3' _)) (by simp [ATree.ptr,Value.oneCell']) (by decide) (by unfold maxLen; omega) (by omega) (by simp; have:=F3'.out.size; have:=HP.out.le; omega) (w3'.heap.size + 1) (by simp) ?_;intro gg cap w4 hown4 hgrow4 hat4 hlt4
   have m4:w4.cell? ⟨nb,3,none⟩=some (.slice (some ⟨sb,0,none⟩) 1 1):=(hgrow4.cell_far ⟨nb,3,none⟩ (by simp; omega) (fun e=>NE.out e.symm)).trans ((Z8 hnb3).trans m3);have mz4:w4.frozen? ⟨nb,3,none⟩=false:=(hgrow4.frozen_far ⟨nb,3,none⟩ (by simp; omega) (fun e=>NE.out e.symm)).trans ((Z0m hnb3).trans mz);refine hK _ _ m4 ?_;clear hK K;simp only [Act.put,zA,zB,zC]
   have hfin:=Got.push hlt HP.out.le N3.out (wA:=wf.drew) NA.out A3.out F3'.out R3.out ((Y8 _ _).alloc (Y5 _) _) hgrow4 hown4 (by rcases hat4 with h | h; (exact .inl h); (exact .inr (by omega))) hlt4;have FIN:=lh hfin;clear hgrow4 hown4 hat4 hlt4 hfin;refine Z6 ?_;have hq5:=Yk HQ4.out;have HR5:=lh hq5.symm;have hblk:=FIN.out.1.at'.blkOf;simp only [ATree.b,ATree.v,ATree.kind,ATree.text,ATree.n] at hblk
   have e3:(w4.setCell ⟨nb,3,none⟩ (.slice (some ⟨gg,0,none⟩) (([b0]).length + 1) cap)).cell? ⟨nb,3,none⟩=some (.slice (some ⟨gg,0,none⟩) (([b0]).length + 1) cap):=by unfold World.cell?; rw [hblk]; rfl
   have n1:(((([b0]).length + 1:Nat):Int) == 1)=false:=by simp
   clear hq5 hblk;go_wp2;go_ret;rw [HR5.out];refine ⟨.mk nb (.slice (some ⟨gg,0,none⟩) (([b0]).length + 1) cap) 12 ⟨#[]⟩ 0 ([b0] ++ [a]),rfl,?_,FIN.out.2.2,FIN.out.2.1⟩;have h1:=FIN.out.1;have h2:=N.out.tree;simp only [ATree.tree,Tree.mk.injEq,true_and] at h2;rw [h2] at h1;exact h1
  ·have hf' : isT Zt us = false := by simpa using hf
   have hq:=HQ.out;unfold finT at hq;rw [Y9 hf] at hq;have HQ2:=lh hq;have HT:=Z22 _ rb us d Zt PQ.out.rd hf';unfold Zt at HT;have HT:=lh HT;clear hf hf' hq;go_wp2_with fail
   refine HT.out.mono ?_;rintro e wf ⟨rfl,hBf⟩;have N:=lh (N.out.rfr hlt (RFr.below (rb:=rb) hBf));have PQ:=lh (PQ.out.below hBf);have FQ:=lh (FQ.out.trans (RFr.below (rb:=rb) hBf));have hblk:=N.out.at'.blkOf;simp only [ATree.b,ATree.v,ATree.kind,ATree.text,ATree.n] at hblk;have n3:wf.cell? ⟨nb,3,none⟩=some (.slice (some ⟨sb,0,none⟩) 1 1):=by simp [World.cell?,hblk]
   clear hBf HT hblk;have hq:=HQ2.out;rw [Yb (show [t0].length=1 from rfl)] at hq;obtain rfl:=Yk hq;have HF:=lh (Z35 wf rb us d 3 PQ.out.rd);clear hq;go_wp2_with fail
   refine HF.out.mono ?_;rintro e w9 ⟨⟨b,rfl,h1,h2⟩,hB⟩;exact ⟨rfl,Z0t.err FQ.out ⟨b,rfl,h1,h2⟩ hB⟩
theorem Zgq (f:Nat) (hBl:Says 73 (fun rb=>#[.pointer (some ⟨rb,0,none⟩),.bool false]) (.block false) f)
 (hD:∀ k m,Says 76 (fun rb=>#[.pointer (some ⟨rb,0,none⟩),.int .i64 k,.bool m]) (.decl k m) f)
 (hFn:∀ s,Says 77 (fun rb=>#[.pointer (some ⟨rb,0,none⟩),.int .i64 5,.string s]) (.func 5 s) f)
 (hA:Says 79 rArg .around f) (hS:Says 53 rArg .stmt f)
 (hV:Says 80 rArg .value f) (hT:Says 81 rArg .try_ f):Says 53 rArg .stmt (f + 1):=by
 intro w rb B d ts r hP hp;have HP:=lh hP;have HBL:=lh hBl;have HD:=lh hD;have HFN:=lh hFn;have HA:=lh hA;have HS:=lh hS;have HV:=lh hV;have HTR:=lh hT;have hlt:=hP.lt;have hq0:=hp;rw [Z0] at hq0;have HQ:=lh hq0;have P0:=lh hP;have F0:=lh (RFr.refl w rb);have hmf:∀ (fn:Fn) (first cap:Array Value) (w:World),(Instr.makeFunc fn first cap).run Tryz.prog w=.ok (.func fn first cap) w:=fun _ _ _ _=>rfl;clear hP hp hBl hD hFn hA hS hV hT hq0;unfold rArg;go_enter Tryz.func53,Tryz.ntmps53
 by_cases h:isT Zi ts=true
 ·have hq := HQ.out;rw [Yb h] at hq;have HQ2 := lh hq;have HB := Z4h w rb ts d Zi P0.out.rd;rw [h] at HB;unfold Zi at HB;have HB := lh HB;clear h hq;go_wp2_with fail
  refine HB.out.mono ?_;rintro e w2 ⟨rfl,hB2⟩;have F2:=lh (F0.out.trans (RFr.below (rb:=rb) hB2));have HC:=HBL.out w2 rb B d _ r (P0.out.below hB2) HQ2.out;simp only at HC;have HC:=lh HC;clear hB2 HB;go_wp2_with fail
  refine HC.out.mono ?_;rcases r with ⟨c,p⟩ | ⟨t,ts'⟩
  ·rintro e wz ⟨⟨b,rfl,h1,h2⟩,hF⟩;exact ⟨rfl,Z0t.pre F2.out (r:=.error (c,p)) ⟨⟨b,rfl,h1,h2⟩,hF⟩⟩
  ·rintro e wz ⟨a,rfl,hG,hR,hF⟩;have HG:=lh (hG.pre F2.out);have HR:=lh hR;have HF:=lh (F2.out.trans hF);clear hG hR hF HC;go_wp2;go_ret;exact ⟨a,rfl,HG.out,HR.out,HF.out⟩
 have h':isT Zi ts=false:=by simpa using h
 have hq:=HQ.out;rw [Y9 h] at hq;have QK0:=lh hq;have HB:=Z4h w rb ts d Zi P0.out.rd;rw [h'] at HB;unfold Zi at HB;have HB:=lh HB;clear h h' hq;go_wp2_with fail
 refine HB.out.mono ?_;rintro e wk0 ⟨rfl,hB2⟩;have PK0:=lh (P0.out.below hB2);have FK0:=lh (F0.out.trans (RFr.below (rb:=rb) hB2));clear hB2 HB P0 F0 HQ;by_cases h:isT Zs ts=true
 ·have hq := QK0.out;rw [Yb h] at hq;have HQ2 := lh hq;have HT := Z1g wk0 rb ts d Zs PK0.out.rd h;unfold Zs at HT;have HT := lh HT;clear h hq;go_wp2_with fail
  refine HT.out.mono ?_;rintro e w2 ⟨rfl,hR2,hF2⟩;have P2:=lh (PK0.out.tail hR2 hF2);have F2:=lh (FK0.out.trans hF2);clear hR2 hF2 HT;have HR:=lh (Yk HQ2.out).symm;have HN:=lh (Z14 w2 rb 16 ⟨#[]⟩ none 0 0);have G3:=lh (Got.leaf (k:=16) (t:=⟨#[]⟩) (n:=0) HP.out.le F2.out);go_wp2_with fail
  refine HN.out.mono ?_;rintro e w3 ⟨rfl,hw3⟩;have hal:Below w2.heap.size w2 w3:=by rw [hw3]; exact (Y8 _ _).alloc (Y5 _) _
  have AL:=lh hal;have HW3:=lh hw3;clear hal hw3 HN;go_wp2;go_ret;rw [HR.out];exact ⟨_,rfl,by rw [HW3.out]; exact G3.out,P2.out.rd.below AL.out,F2.out.trans (RFr.below AL.out)⟩
 have h':isT Zs ts=false:=by simpa using h
 have hq:=QK0.out;rw [Y9 h] at hq;have QK1:=lh hq;have HT:=Z22 wk0 rb ts d Zs PK0.out.rd h';unfold Zs at HT;have HT:=lh HT;clear h h' hq;go_wp2_with fail
 refine HT.out.mono ?_;rintro e wk1 ⟨rfl,hB2⟩;have PK1:=lh (PK0.out.below hB2);have FK1:=lh (FK0.out.trans (RFr.below (rb:=rb) hB2));clear hB2 HT PK0 FK0 QK0;by_cases h:isT Z18 ts=true
 ·have hq := QK1.out;rw [Yb h] at hq;have HQ2 := lh hq;have HT := Z1g wk1 rb ts d Z18 PK1.out.rd h;unfold Z18 at HT;have HT := lh HT;clear h hq;go_wp2_with fail
  refine HT.out.mono ?_;rintro e w2 ⟨rfl,hR2,hF2⟩;have P2:=lh (PK1.out.tail hR2 hF2);have F2:=lh (FK1.out.trans hF2);clear hR2 hF2 HT;rcases Z09 HQ2.out with ⟨⟨c,p⟩,hv,rfl⟩ | ⟨t,vs,hv,hq4⟩
  ·have HC := HD.out 2 false w2 rb B d _ _ P2.out hv;simp only at HC;have HC := lh HC;clear hv;go_wp2_with fail
   refine HC.out.mono ?_;rintro e wz ⟨⟨b,rfl,h1,h2⟩,hF⟩;exact ⟨rfl,Z0t.pre F2.out (r:=.error (c,p)) ⟨⟨b,rfl,h1,h2⟩,hF⟩⟩
  have HC:=HD.out 2 false w2 rb B d _ _ P2.out hv;simp only at HC;have HC:=lh HC;have HVL:=lh (Z1h hv);have HQ4:=lh hq4;clear hv hq4;go_wp2_with fail
  refine HC.out.mono ?_;rintro e w3 ⟨a,rfl,hG,hR,hF⟩;have HE:=lh (Z71 w w3 rb B d vs a t r (P2.out.next hR hF HVL.out) (hG.pre F2.out) (F2.out.trans hF) HQ4.out);clear hG hR hF HC;go_wp2_with fail
  refine HE.out.mono ?_;rcases r with ⟨c,p⟩ | ⟨t,ts'⟩
  ·rintro e wz ⟨⟨b,rfl,h1,h2⟩,hF⟩;exact ⟨rfl,⟨b,rfl,h1,h2⟩,hF⟩
  ·rintro e wz ⟨az,rfl,hG,hR,hF⟩;have HG:=lh hG;have HR:=lh hR;have HF:=lh hF;clear hG hR hF HE;go_wp2;go_ret;exact ⟨az,rfl,HG.out,HR.out,HF.out⟩
 have h':isT Z18 ts=false:=by simpa using h
 have hq:=QK1.out;rw [Y9 h] at hq;have QK2:=lh hq;have HT:=Z22 wk1 rb ts d Z18 PK1.out.rd h';unfold Z18 at HT;have HT:=lh HT;clear h h' hq;go_wp2_with fail
 refine HT.out.mono ?_;rintro e wk2 ⟨rfl,hB2⟩;have PK2:=lh (PK1.out.below hB2);have FK2:=lh (FK1.out.trans (RFr.below (rb:=rb) hB2));clear hB2 HT PK1 FK1 QK1;by_cases h:isT Z1c ts=true
 ·have hq := QK2.out;rw [Yb h] at hq;have HQ2 := lh hq;have HT := Z1g wk2 rb ts d Z1c PK2.out.rd h;unfold Z1c at HT;have HT := lh HT;clear h hq;go_wp2_with fail
  refine HT.out.mono ?_;rintro e w2 ⟨rfl,hR2,hF2⟩;have P2:=lh (PK2.out.tail hR2 hF2);have F2:=lh (FK2.out.trans hF2);clear hR2 hF2 HT;rcases Z09 HQ2.out with ⟨⟨c,p⟩,hv,rfl⟩ | ⟨t,vs,hv,hq4⟩
  ·have HC := HD.out 3 false w2 rb B d _ _ P2.out hv;simp only at HC;have HC := lh HC;clear hv;go_wp2_with fail
   refine HC.out.mono ?_;rintro e wz ⟨⟨b,rfl,h1,h2⟩,hF⟩;exact ⟨rfl,Z0t.pre F2.out (r:=.error (c,p)) ⟨⟨b,rfl,h1,h2⟩,hF⟩⟩
  have HC:=HD.out 3 false w2 rb B d _ _ P2.out hv;simp only at HC;have HC:=lh HC;have HVL:=lh (Z1h hv);have HQ4:=lh hq4;clear hv hq4;go_wp2_with fail
  refine HC.out.mono ?_;rintro e w3 ⟨a,rfl,hG,hR,hF⟩;have HE:=lh (Z71 w w3 rb B d vs a t r (P2.out.next hR hF HVL.out) (hG.pre F2.out) (F2.out.trans hF) HQ4.out);clear hG hR hF HC;go_wp2_with fail
  refine HE.out.mono ?_;rcases r with ⟨c,p⟩ | ⟨t,ts'⟩
  ·rintro e wz ⟨⟨b,rfl,h1,h2⟩,hF⟩;exact ⟨rfl,⟨b,rfl,h1,h2⟩,hF⟩
  ·rintro e wz ⟨az,rfl,hG,hR,hF⟩;have HG:=lh hG;have HR:=lh hR;have HF:=lh hF;clear hG hR hF HE;go_wp2;go_ret;exact ⟨az,rfl,HG.out,HR.out,HF.out⟩
 have h':isT Z1c ts=false:=by simpa using h
 have hq:=QK2.out;rw [Y9 h] at hq;have QK3:=lh hq;have HT:=Z22 wk2 rb ts d Z1c PK2.out.rd h';unfold Z1c at HT;have HT:=lh HT;clear h h' hq;go_wp2_with fail
 refine HT.out.mono ?_;rintro e wk3 ⟨rfl,hB2⟩;have PK3:=lh (PK2.out.below hB2);have FK3:=lh (FK2.out.trans (RFr.below (rb:=rb) hB2));clear hB2 HT PK2 FK2 QK2;by_cases h:isT Z06 ts=true
 ·have hq := QK3.out;rw [Yb h] at hq;have HQ2 := lh hq;have HT := Z1g wk3 rb ts d Z06 PK3.out.rd h;unfold Z06 at HT;have HT := lh HT;clear h hq;go_wp2_with fail
  refine HT.out.mono ?_;rintro e w2 ⟨rfl,hR2,hF2⟩;have P2:=lh (PK3.out.tail hR2 hF2);have F2:=lh (FK3.out.trans hF2);clear hR2 hF2 HT;rcases Z09 HQ2.out with ⟨⟨c,p⟩,hv,rfl⟩ | ⟨t,vs,hv,hq4⟩
  ·have HC := HD.out 4 true w2 rb B d _ _ P2.out hv;simp only at HC;have HC := lh HC;clear hv;go_wp2_with fail
   refine HC.out.mono ?_;rintro e wz ⟨⟨b,rfl,h1,h2⟩,hF⟩;exact ⟨rfl,Z0t.pre F2.out (r:=.error (c,p)) ⟨⟨b,rfl,h1,h2⟩,hF⟩⟩
  have HC:=HD.out 4 true w2 rb B d _ _ P2.out hv;simp only at HC;have HC:=lh HC;have HVL:=lh (Z1h hv);have HQ4:=lh hq4;clear hv hq4;go_wp2_with fail
  refine HC.out.mono ?_;rintro e w3 ⟨a,rfl,hG,hR,hF⟩;have HE:=lh (Z71 w w3 rb B d vs a t r (P2.out.next hR hF HVL.out) (hG.pre F2.out) (F2.out.trans hF) HQ4.out);clear hG hR hF HC;go_wp2_with fail
  refine HE.out.mono ?_;rcases r with ⟨c,p⟩ | ⟨t,ts'⟩
  ·rintro e wz ⟨⟨b,rfl,h1,h2⟩,hF⟩;exact ⟨rfl,⟨b,rfl,h1,h2⟩,hF⟩
  ·rintro e wz ⟨az,rfl,hG,hR,hF⟩;have HG:=lh hG;have HR:=lh hR;have HF:=lh hF;clear hG hR hF HE;go_wp2;go_ret;exact ⟨az,rfl,HG.out,HR.out,HF.out⟩
 have h':isT Z06 ts=false:=by simpa using h
 have hq:=QK3.out;rw [Y9 h] at hq;have QK4:=lh hq;have HT:=Z22 wk3 rb ts d Z06 PK3.out.rd h';unfold Z06 at HT;have HT:=lh HT;clear h h' hq;go_wp2_with fail
 refine HT.out.mono ?_;rintro e wk4 ⟨rfl,hB2⟩;have PK4:=lh (PK3.out.below hB2);have FK4:=lh (FK3.out.trans (RFr.below (rb:=rb) hB2));clear hB2 HT PK3 FK3 QK3;by_cases h:isT Ze ts=true
 ·have hq := QK4.out;rw [Yb h] at hq;have HQ2 := lh hq;have HT := Z1g wk4 rb ts d Ze PK4.out.rd h;unfold Ze at HT;have HT := lh HT;clear h hq;go_wp2_with fail
  refine HT.out.mono ?_;rintro e w2 ⟨rfl,hR2,hF2⟩;have P2:=lh (PK4.out.tail hR2 hF2);have F2:=lh (FK4.out.trans hF2);clear hR2 hF2 HT;rcases Z3x HQ2.out with ⟨hk,h1⟩ | ⟨hk,rfl⟩
  ·have HC := lh (Z44 w2 rb ts.tail d P2.out.rd hk);obtain ⟨s, hs⟩ := zX ((hdT ts.tail).text)
   rw [← hs] at HC h1;have HQ4:=lh h1;clear hk h1 hs;go_wp2_with fail
   refine HC.out.mono ?_;rintro e w4 ⟨rfl,hR4,hF4⟩;have HC2:=HFN.out s w4 rb B d _ r (P2.out.tail hR4 hF4) HQ4.out;simp only at HC2;have HC2:=lh HC2;have F4:=lh (F2.out.trans hF4);clear hR4 hF4 HC;go_wp2_with fail
   refine HC2.out.mono ?_;rcases r with ⟨c,p⟩ | ⟨t,ts'⟩
   ·rintro e wz ⟨⟨b,rfl,h1,h2⟩,hF⟩;exact ⟨rfl,Z0t.pre F4.out (r:=.error (c,p)) ⟨⟨b,rfl,h1,h2⟩,hF⟩⟩
   ·rintro e wz ⟨a,rfl,hG,hR,hF⟩;have HG:=lh (hG.pre F4.out);have HR:=lh hR;have HF:=lh (F4.out.trans hF);clear hG hR hF HC2;go_wp2;go_ret;exact ⟨a,rfl,HG.out,HR.out,HF.out⟩
  ·have HC := lh (Z61 w2 rb ts.tail d P2.out.rd hk);clear hk;go_wp2_with fail
   refine HC.out.mono ?_;rintro e w9 ⟨⟨b,rfl,h1,h2⟩,hB⟩;exact ⟨rfl,Z0t.err F2.out ⟨b,rfl,h1,h2⟩ hB⟩
 have h':isT Ze ts=false:=by simpa using h
 have hq:=QK4.out;rw [Y9 h] at hq;have QK5:=lh hq;have HT:=Z22 wk4 rb ts d Ze PK4.out.rd h';unfold Ze at HT;have HT:=lh HT;clear h h' hq;go_wp2_with fail
 refine HT.out.mono ?_;rintro e wk5 ⟨rfl,hB2⟩;have PK5:=lh (PK4.out.below hB2);have FK5:=lh (FK4.out.trans (RFr.below (rb:=rb) hB2));clear hB2 HT PK4 FK4 QK4;by_cases h:isT s_if ts=true
 ·have hq := QK5.out;rw [Yb h] at hq;have HQ2 := lh hq;have HT := Z1g wk5 rb ts d s_if PK5.out.rd h;unfold s_if at HT;have HT := lh HT;clear h hq;go_wp2_with fail
  refine HT.out.mono ?_;rintro e w2 ⟨rfl,hR2,hF2⟩;have P2:=lh (PK5.out.tail hR2 hF2);have F2:=lh (FK5.out.trans hF2);clear hR2 hF2 HT;rcases Z09 HQ2.out with ⟨⟨c,p⟩,hv,rfl⟩ | ⟨t,vs,hv,hq4⟩
  ·have HC := HA.out w2 rb B d _ _ P2.out hv;unfold rArg at HC;have HC := lh HC;clear hv;go_wp2_with fail
   refine HC.out.mono ?_;rintro e wz ⟨⟨b,rfl,h1,h2⟩,hF⟩;exact ⟨rfl,Z0t.pre F2.out (r:=.error (c,p)) ⟨⟨b,rfl,h1,h2⟩,hF⟩⟩
  have HC:=HA.out w2 rb B d _ _ P2.out hv;unfold rArg at HC;have HC:=lh HC;have HVL:=lh (Z1h hv);have HQ4:=lh hq4;clear hv hq4;go_wp2_with fail
  refine HC.out.mono ?_;rintro e w3 ⟨x,rfl,hX,hR3,hF3⟩;have P3:=lh (P2.out.next hR3 hF3 HVL.out);have F3:=lh (F2.out.trans hF3);have X3:=lh (hX.pre F2.out);obtain ⟨xb,hxb⟩:=zX x.b
  have HXB:=lh hxb;rw [← hxb];clear hX hR3 hF3 HC hxb;rcases Z09 HQ4.out with ⟨⟨c,p⟩,hv,rfl⟩ | ⟨ty,us,hv,hq5⟩
  ·have HC := lh (Z10 w3 rb B _ d _ _ P3.out.rd (by have := P3.out.deep; omega) hlt hv fun hd h1 w4 hR hs => HS.out w4 rb B (d + 1) _ _ ⟨hR, hd, hlt, by have := P3.out.le; omega, P3.out.few⟩ h1);clear hv;go_wp2_with fail
   refine HC.out.mono ?_;rintro e wz ⟨⟨b,rfl,h1,h2⟩,hF⟩;exact ⟨rfl,Z0t.pre F3.out (r:=.error (c,p)) ⟨⟨b,rfl,h1,h2⟩,hF⟩⟩
  have HC:=lh (Z10 w3 rb B _ d _ _ P3.out.rd (by have:=P3.out.deep; omega) hlt hv fun hd h1 w4 hR hs=>HS.out w4 rb B (d + 1) _ _ ⟨hR,hd,hlt,by have:=P3.out.le; omega,P3.out.few⟩ h1);have HVL2:=lh (Nat.le_of_lt (Leaves.within (Z24 f .stmt (d + 1) _) ty us hv));have HQ5:=lh hq5;clear hv hq5;go_wp2_with fail
  refine HC.out.mono ?_;rintro e w4 ⟨y,rfl,hY,hR,hF4⟩;have hX4:=X3.out.rfr hlt hF4;have hFW:=F3.out.trans hF4;have hX4':Got w B w4 x t:=hX4;have hb1:Below w4.heap.size w4 (w4.alloc (.cells #[.pointer (some ⟨xb,0,none⟩),.pointer (some ⟨y.b,0,none⟩)] 22)):=(Y8 _ _).alloc (Y5 _) _;have hb2:Below w4.heap.size w4 ((w4.alloc (.cells #[.pointer (some ⟨xb,0,none⟩),.pointer (some ⟨y.b,0,none⟩)] 22)).alloc (.cells #[.int .i64 7,.string ⟨#[]⟩,.int .i64 0,.slice (some ⟨w4.heap.size,0,none⟩) 2 2] 38)):=hb1.alloc (by simp) _
  have hA:=Got.two (k:=7) (t:=⟨#[]⟩) HP.out.le hFW hX4 (wA:=w3) (fun z hz=>(X3.out.new z hz).2) F3.out.size hY;have hR2:=hR.below hb2;have hF2:=hFW.trans (RFr.below (rb:=rb) hb2);have HN:=lh (Z14 (w4.alloc (.cells #[.pointer (some ⟨xb,0,none⟩),.pointer (some ⟨y.b,0,none⟩)] 22)) rb 7 ⟨#[]⟩ (some ⟨w4.heap.size,0,none⟩) 2 2);obtain ⟨sb,hsb⟩:=zX w4.heap.size
  rw [← hsb] at HN hA hb2 hR2 hF2;have HSB:=lh hsb;go_wp2_with fail
  rw [← HSB.out];refine HN.out.mono ?_;rintro e wn ⟨rfl,hwn⟩;have hb3:Below w4.heap.size w4 wn:=by rw [hwn]; exact hb1.alloc (by simp) _
  have hsz:(w4.alloc (.cells #[.pointer (some ⟨xb,0,none⟩),.pointer (some ⟨y.b,0,none⟩)] 22)).heap.size=sb + 1:=by rw [HSB.out]; simp
  rw [hsz];obtain ⟨nb,hnb⟩:=zX (sb + 1)
  rw [← hnb] at hA ⊢;have hA:Got w B wn (.mk nb (.slice (some ⟨sb,0,none⟩) 2 2) 7 ⟨#[]⟩ 0 [x,y]) (.mk 7 ⟨#[]⟩ 0 [t,ty]):=by rw [hwn,HXB.out]; exact hA
  rw [← hwn] at hR2 hF2;have N:=lh hA;have FQ:=lh hF2;have PQ:=lh ((P3.out.next (ts':=us) hR hF4 HVL2.out).next hR2 (RFr.below (rb:=rb) hb3) (Y5 _));clear hX4 hX4' hFW hY hR hF4 hb1 hb2 hb3 hA hR2 hF2 HN hsb hwn hsz hnb HC;by_cases he:isT Z1y us=true
  ·have hq := HQ5.out;rw [Yb he] at hq;have H2 := lh hq;have HT := Z1g wn rb us d Z1y PQ.out.rd he;unfold Z1y at HT;have HT := lh HT;clear he hq;go_wp2_with fail
   refine HT.out.mono ?_;rintro e wf ⟨rfl,hRf,hFf⟩;have N:=lh (N.out.rfr hlt hFf);have PQ:=lh (PQ.out.tail hRf hFf);have FQ:=lh (FQ.out.trans hFf);clear hRf hFf HT;have hblk:=N.out.at'.blkOf;simp only [ATree.b,ATree.v,ATree.kind,ATree.text,ATree.n] at hblk;have n3:wf.cell? ⟨nb,3,none⟩=some (.slice (some ⟨sb,0,none⟩) 2 2):=by simp [World.cell?,hblk]
   clear hblk;go_wp2_with fail
   refine Zf [0,2,4,6,8,10,12,14,17,19,21] [11,12,13] (fun W=>W.cell? ⟨nb,3,none⟩=some (.slice (some ⟨sb,0,none⟩) 2 2)) n3 fun _=>?_;simp only [Zh,pD,zD,zE,zF,zG,zH,zI,zJ,zK]
   iterate 8
    first | refine Za _ ?_ | refine Zb ?_
    simp only [Act.put,zA,zB,zC]
   refine Z5 (fun K hK=>?_);go_simp
   have P7:Pre wf.drew rb B d _:=PQ.out.below (Y8 _ _).drew;rcases Z09 H2.out with ⟨⟨c,p⟩,hv,rfl⟩ | ⟨t6,vs6,hv,hq6⟩
   ·refine (Z10 wf.drew rb B _ d _ _ P7.rd (by have:=P7.deep; omega) hlt hv fun hd h1 w4 hR hs=>HS.out w4 rb B (d + 1) _ _ ⟨hR,hd,hlt,by have:=P7.le; omega,P7.few⟩ h1).mono ?_;rintro e wz ⟨⟨b,rfl,h1,h2⟩,hF⟩;exact ⟨rfl,Z0t.pre FQ.out.drew (r:=.error (c,p)) ⟨⟨b,rfl,h1,h2⟩,hF⟩⟩
   have HVL6:=lh (Nat.le_of_lt (Leaves.within (Z24 f .stmt (d + 1) _) t6 vs6 hv));have HQ6:=lh hq6;refine (Z10 wf.drew rb B _ d _ _ P7.rd (by have:=P7.deep; omega) hlt hv fun hd h1 w4 hR hs=>HS.out w4 rb B (d + 1) _ _ ⟨hR,hd,hlt,by have:=P7.le; omega,P7.few⟩ h1).mono ?_;rintro e w3' ⟨a,rfl,hA,hR3,hF7⟩;have hF63:RFr wf w3' rb:=(RFr.refl wf rb).drew.trans hF7;have hN3:=N.out.rfr hlt hF63;have hblk:=hN3.at'.blkOf;simp only [ATree.b,ATree.v,ATree.kind,ATree.text,ATree.n] at hblk
   have m3:w3'.cell? ⟨nb,3,none⟩=some (.slice (some ⟨sb,0,none⟩) 2 2):=by simp [World.cell?,hblk]
   have mz:w3'.frozen? ⟨nb,3,none⟩=false:=by simp [World.frozen?,hblk]
   have hnb3:nb < w3'.heap.size:=(Y6.1 hblk).1;have hnd:=hN3.nodup;simp only [ATree.blocks,List.nodup_cons,List.mem_append,Option.mem_toList,not_or] at hnd;have hne:=hnd.1.1;have hk4:([x,y]).length≤8:=by simp
   have N3:=lh hN3;have A3:=lh hA;have R3:=lh hR3;have F3':=lh (FQ.out.trans hF63);have NE:=lh hne;have NA:=lh (show ∀ z∈(ATree.mk nb (.slice (some ⟨sb,0,none⟩) 2 2) 7 ⟨#[]⟩ 0 [x,y]).blocks,z < wf.drew.heap.size from fun z hz=>(N.out.new z hz).2);refine hK _ _ m3 ?_;obtain ⟨i0,hi,hz0,hz1,hz2⟩:=info_parts Tryz.infoPtr;clear hK K hA hR3 hF63 hN3 hblk hnd hne n3 hF7 hv hq6 P7;refine Z5 (fun K hK=>?_);go_simp
   refine hK _ _ ((Z8 hnb3).trans m3) ?_;clear hK K;refine Z5 (fun K hK=>?_)
   refine step_append_lies _ (by rfl) (.tmp 65) (.tmp 70) 36 (by rfl) B 22 i0 _ 1 8 Tryz.underlying36 hi hz0 hz1 hz2 rfl (by decide) (.slice (some ⟨sb,0,none⟩) 2 2) ([x,y]).length (([x,y]).map ATree.ptr) (by rfl) (N3.out.at'.rowOf.alloc _) ⟨w3'.heap.size,0,none⟩ 1 1 [a.ptr] (by rfl) rfl (Yi (cs:=#[a.ptr]) (t:=22) (fr:=(0,0)) (heap_alloc_new w3' _)) (by simp [ATree.ptr,Value.oneCell']) (by decide) (by unfold maxLen; omega) (by omega) (by simp; have:=F3'.out.size; have:=HP.out.le; omega) (w3'.heap.size + 1) (by simp) ?_;intro gg cap w4 hown4 hgrow4 hat4 hlt4
   have m4:w4.cell? ⟨nb,3,none⟩=some (.slice (some ⟨sb,0,none⟩) 2 2):=(hgrow4.cell_far ⟨nb,3,none⟩ (by simp; omega) (fun e=>NE.out e.symm)).trans ((Z8 hnb3).trans m3);have mz4:w4.frozen? ⟨nb,3,none⟩=false:=(hgrow4.frozen_far ⟨nb,3,none⟩ (by simp; omega) (fun e=>NE.out e.symm)).trans ((Z0m hnb3).trans mz);refine hK _ _ m4 ?_;clear hK K;simp only [Act.put,zA,zB,zC]
   have hfin:=Got.push hlt HP.out.le N3.out (wA:=wf.drew) NA.out A3.out F3'.out R3.out ((Y8 _ _).alloc (Y5 _) _) hgrow4 hown4 (by rcases hat4 with h | h; (exact .inl h); (exact .inr (by omega))) hlt4;have FIN:=lh hfin;clear hgrow4 hown4 hat4 hlt4 hfin;refine Z6 ?_;have HR5:=lh (Yk HQ6.out).symm;go_wp2;go_ret;rw [HR5.out];refine ⟨.mk nb (.slice (some ⟨gg,0,none⟩) (([x,y]:List ATree).length + 1) cap) 7 ⟨#[]⟩ 0 ([x,y] ++ [a]),rfl,?_,FIN.out.2.2,FIN.out.2.1⟩;have h1:=FIN.out.1;have h2:=N.out.tree
   simp only [ATree.tree,Tree.mk.injEq,true_and] at h2;rw [h2] at h1;exact h1
  ·have he' : isT Z1y us = false := by simpa using he
   have hq:=HQ5.out;rw [Y9 he] at hq;have HR5:=lh (Yk hq).symm;have HT:=Z22 wn rb us d Z1y PQ.out.rd he';unfold Z1y at HT;have HT:=lh HT;clear he he' hq;go_wp2_with fail
   refine HT.out.mono ?_;rintro e wf ⟨rfl,hBf⟩;have N:=lh (N.out.rfr hlt (RFr.below (rb:=rb) hBf));have R:=lh (PQ.out.rd.below hBf);have FQ:=lh (FQ.out.trans (RFr.below (rb:=rb) hBf));clear hBf HT;go_wp2;go_ret;rw [HR5.out];exact ⟨_,rfl,N.out,R.out,FQ.out⟩
 have h':isT s_if ts=false:=by simpa using h
 have hq:=QK5.out;rw [Y9 h] at hq;have QK6:=lh hq;have HT:=Z22 wk5 rb ts d s_if PK5.out.rd h';unfold s_if at HT;have HT:=lh HT;clear h h' hq;go_wp2_with fail
 refine HT.out.mono ?_;rintro e wk6 ⟨rfl,hB2⟩;have PK6:=lh (PK5.out.below hB2);have FK6:=lh (FK5.out.trans (RFr.below (rb:=rb) hB2));clear hB2 HT PK5 FK5 QK5;by_cases h:isT Zz ts=true
 ·have hq := QK6.out;rw [Yb h] at hq;have HQ2 := lh hq;have HT := Z1g wk6 rb ts d Zz PK6.out.rd h;unfold Zz at HT;have HT := lh HT;clear h hq;go_wp2_with fail
  refine HT.out.mono ?_;rintro e w2 ⟨rfl,hR2,hF2⟩;have P2:=lh (PK6.out.tail hR2 hF2);have F2:=lh (FK6.out.trans hF2);clear hR2 hF2 HT;rcases Z09 HQ2.out with ⟨⟨c,p⟩,hv,rfl⟩ | ⟨t,vs,hv,hq4⟩
  ·have HC := HA.out w2 rb B d _ _ P2.out hv;unfold rArg at HC;have HC := lh HC;clear hv;go_wp2_with fail
   refine HC.out.mono ?_;rintro e wz ⟨⟨b,rfl,h1,h2⟩,hF⟩;exact ⟨rfl,Z0t.pre F2.out (r:=.error (c,p)) ⟨⟨b,rfl,h1,h2⟩,hF⟩⟩
  have HC:=HA.out w2 rb B d _ _ P2.out hv;unfold rArg at HC;have HC:=lh HC;have HVL:=lh (Z1h hv);have HQ4:=lh hq4;clear hv hq4;go_wp2_with fail
  refine HC.out.mono ?_;rintro e w3 ⟨x,rfl,hX,hR3,hF3⟩;have P3:=lh (P2.out.next hR3 hF3 HVL.out);have F3:=lh (F2.out.trans hF3);have X3:=lh (hX.pre F2.out);obtain ⟨xb,hxb⟩:=zX x.b
  have HXB:=lh hxb;rw [← hxb];clear hX hR3 hF3 HC hxb;rcases Z09 HQ4.out with ⟨⟨c,p⟩,hv,rfl⟩ | ⟨ty,us,hv,hq5⟩
  ·have HC := lh (Z10 w3 rb B _ d _ _ P3.out.rd (by have := P3.out.deep; omega) hlt hv fun hd h1 w4 hR hs => HS.out w4 rb B (d + 1) _ _ ⟨hR, hd, hlt, by have := P3.out.le; omega, P3.out.few⟩ h1);clear hv;go_wp2_with fail
   refine HC.out.mono ?_;rintro e wz ⟨⟨b,rfl,h1,h2⟩,hF⟩;exact ⟨rfl,Z0t.pre F3.out (r:=.error (c,p)) ⟨⟨b,rfl,h1,h2⟩,hF⟩⟩
  have HC:=lh (Z10 w3 rb B _ d _ _ P3.out.rd (by have:=P3.out.deep; omega) hlt hv fun hd h1 w4 hR hs=>HS.out w4 rb B (d + 1) _ _ ⟨hR,hd,hlt,by have:=P3.out.le; omega,P3.out.few⟩ h1);have HVL2:=lh (Nat.le_of_lt (Leaves.within (Z24 f .stmt (d + 1) _) ty us hv));have HQ5:=lh hq5;clear hv hq5;go_wp2_with fail
  refine HC.out.mono ?_;rintro e w4 ⟨y,rfl,hY,hR,hF4⟩;have hX4:=X3.out.rfr hlt hF4;have hFW:=F3.out.trans hF4;have hX4':Got w B w4 x t:=hX4;have hb1:Below w4.heap.size w4 (w4.alloc (.cells #[.pointer (some ⟨xb,0,none⟩),.pointer (some ⟨y.b,0,none⟩)] 22)):=(Y8 _ _).alloc (Y5 _) _;have hb2:Below w4.heap.size w4 ((w4.alloc (.cells #[.pointer (some ⟨xb,0,none⟩),.pointer (some ⟨y.b,0,none⟩)] 22)).alloc (.cells #[.int .i64 8,.string ⟨#[]⟩,.int .i64 0,.slice (some ⟨w4.heap.size,0,none⟩) 2 2] 38)):=hb1.alloc (by simp) _
  have hA:=Got.two (k:=8) (t:=⟨#[]⟩) HP.out.le hFW hX4 (wA:=w3) (fun z hz=>(X3.out.new z hz).2) F3.out.size hY;have hR2:=hR.below hb2;have hF2:=hFW.trans (RFr.below (rb:=rb) hb2);have HN:=lh (Z14 (w4.alloc (.cells #[.pointer (some ⟨xb,0,none⟩),.pointer (some ⟨y.b,0,none⟩)] 22)) rb 8 ⟨#[]⟩ (some ⟨w4.heap.size,0,none⟩) 2 2);obtain ⟨sb,hsb⟩:=zX w4.heap.size
  rw [← hsb] at HN hA hb2 hR2 hF2;have HSB:=lh hsb;go_wp2_with fail
  rw [← HSB.out];refine HN.out.mono ?_;rintro e wn ⟨rfl,hwn⟩;have hb3:Below w4.heap.size w4 wn:=by rw [hwn]; exact hb1.alloc (by simp) _
  have hsz:(w4.alloc (.cells #[.pointer (some ⟨xb,0,none⟩),.pointer (some ⟨y.b,0,none⟩)] 22)).heap.size=sb + 1:=by rw [HSB.out]; simp
  rw [hsz];obtain ⟨nb,hnb⟩:=zX (sb + 1)
  rw [← hnb] at hA ⊢;have hA:Got w B wn (.mk nb (.slice (some ⟨sb,0,none⟩) 2 2) 8 ⟨#[]⟩ 0 [x,y]) (.mk 8 ⟨#[]⟩ 0 [t,ty]):=by rw [hwn,HXB.out]; exact hA
  rw [← hwn] at hR2 hF2;have N:=lh hA;have FQ:=lh hF2;have PQ:=lh ((P3.out.next (ts':=us) hR hF4 HVL2.out).next hR2 (RFr.below (rb:=rb) hb3) (Y5 _));clear hX4 hX4' hFW hY hR hF4 hb1 hb2 hb3 hA hR2 hF2 HN hsb hwn hsz hnb HC;have HR5:=lh (Yk HQ5.out).symm;go_wp2;go_ret;rw [HR5.out];exact ⟨_,rfl,N.out,PQ.out.rd,FQ.out⟩
 have h':isT Zz ts=false:=by simpa using h
 have hq:=QK6.out;rw [Y9 h] at hq;have QK7:=lh hq;have HT:=Z22 wk6 rb ts d Zz PK6.out.rd h';unfold Zz at HT;have HT:=lh HT;clear h h' hq;go_wp2_with fail
 refine HT.out.mono ?_;rintro e wk7 ⟨rfl,hB2⟩;have PK7:=lh (PK6.out.below hB2);have FK7:=lh (FK6.out.trans (RFr.below (rb:=rb) hB2));clear hB2 HT PK6 FK6 QK6;by_cases h:isT Z0d ts=true
 ·have hq := QK7.out;rw [Yb h] at hq;have HQ2 := lh hq;have HT := Z1g wk7 rb ts d Z0d PK7.out.rd h;unfold Z0d at HT;have HT := lh HT;clear h hq;go_wp2_with fail
  refine HT.out.mono ?_;rintro e w2 ⟨rfl,hR2,hF2⟩;have P2:=lh (PK7.out.tail hR2 hF2);have F2:=lh (FK7.out.trans hF2);clear hR2 hF2 HT;rcases Z09 HQ2.out with ⟨⟨c,p⟩,hv,rfl⟩ | ⟨t,vs,hv,hq4⟩
  ·have HC := HA.out w2 rb B d _ _ P2.out hv;unfold rArg at HC;have HC := lh HC;clear hv;go_wp2_with fail
   refine HC.out.mono ?_;rintro e wz ⟨⟨b,rfl,h1,h2⟩,hF⟩;exact ⟨rfl,Z0t.pre F2.out (r:=.error (c,p)) ⟨⟨b,rfl,h1,h2⟩,hF⟩⟩
  have HC:=HA.out w2 rb B d _ _ P2.out hv;unfold rArg at HC;have HC:=lh HC;have HVL:=lh (Z1h hv);have HQ4:=lh hq4;clear hv hq4;go_wp2_with fail
  refine HC.out.mono ?_;rintro e w3 ⟨x,rfl,hX,hR3,hF3⟩;have P3:=lh (P2.out.next hR3 hF3 HVL.out);have F3:=lh (F2.out.trans hF3);have X3:=lh (hX.pre F2.out);obtain ⟨xb,hxb⟩:=zX x.b
  have HXB:=lh hxb;rw [← hxb];clear hX hR3 hF3 HC hxb;rcases Z09 HQ4.out with ⟨⟨c,p⟩,hv,rfl⟩ | ⟨ty,us,hv,hq5⟩
  ·have HC := lh (Z10 w3 rb B _ d _ _ P3.out.rd (by have := P3.out.deep; omega) hlt hv fun hd h1 w4 hR hs => HS.out w4 rb B (d + 1) _ _ ⟨hR, hd, hlt, by have := P3.out.le; omega, P3.out.few⟩ h1);clear hv;go_wp2_with fail
   refine HC.out.mono ?_;rintro e wz ⟨⟨b,rfl,h1,h2⟩,hF⟩;exact ⟨rfl,Z0t.pre F3.out (r:=.error (c,p)) ⟨⟨b,rfl,h1,h2⟩,hF⟩⟩
  have HC:=lh (Z10 w3 rb B _ d _ _ P3.out.rd (by have:=P3.out.deep; omega) hlt hv fun hd h1 w4 hR hs=>HS.out w4 rb B (d + 1) _ _ ⟨hR,hd,hlt,by have:=P3.out.le; omega,P3.out.few⟩ h1);have HVL2:=lh (Nat.le_of_lt (Leaves.within (Z24 f .stmt (d + 1) _) ty us hv));have HQ5:=lh hq5;clear hv hq5;go_wp2_with fail
  refine HC.out.mono ?_;rintro e w4 ⟨y,rfl,hY,hR,hF4⟩;have hX4:=X3.out.rfr hlt hF4;have hFW:=F3.out.trans hF4;have hX4':Got w B w4 x t:=hX4;have hb1:Below w4.heap.size w4 (w4.alloc (.cells #[.pointer (some ⟨xb,0,none⟩),.pointer (some ⟨y.b,0,none⟩)] 22)):=(Y8 _ _).alloc (Y5 _) _;have hb2:Below w4.heap.size w4 ((w4.alloc (.cells #[.pointer (some ⟨xb,0,none⟩),.pointer (some ⟨y.b,0,none⟩)] 22)).alloc (.cells #[.int .i64 9,.string ⟨#[]⟩,.int .i64 0,.slice (some ⟨w4.heap.size,0,none⟩) 2 2] 38)):=hb1.alloc (by simp) _
  have hA:=Got.two (k:=9) (t:=⟨#[]⟩) HP.out.le hFW hX4 (wA:=w3) (fun z hz=>(X3.out.new z hz).2) F3.out.size hY;have hR2:=hR.below hb2;have hF2:=hFW.trans (RFr.below (rb:=rb) hb2);have HN:=lh (Z14 (w4.alloc (.cells #[.pointer (some ⟨xb,0,none⟩),.pointer (some ⟨y.b,0,none⟩)] 22)) rb 9 ⟨#[]⟩ (some ⟨w4.heap.size,0,none⟩) 2 2);obtain ⟨sb,hsb⟩:=zX w4.heap.size
  rw [← hsb] at HN hA hb2 hR2 hF2;have HSB:=lh hsb;go_wp2_with fail
  rw [← HSB.out];refine HN.out.mono ?_;rintro e wn ⟨rfl,hwn⟩;have hb3:Below w4.heap.size w4 wn:=by rw [hwn]; exact hb1.alloc (by simp) _
  have hsz:(w4.alloc (.cells #[.pointer (some ⟨xb,0,none⟩),.pointer (some ⟨y.b,0,none⟩)] 22)).heap.size=sb + 1:=by rw [HSB.out]; simp
  rw [hsz];obtain ⟨nb,hnb⟩:=zX (sb + 1)
  rw [← hnb] at hA ⊢;have hA:Got w B wn (.mk nb (.slice (some ⟨sb,0,none⟩) 2 2) 9 ⟨#[]⟩ 0 [x,y]) (.mk 9 ⟨#[]⟩ 0 [t,ty]):=by rw [hwn,HXB.out]; exact hA
  rw [← hwn] at hR2 hF2;have N:=lh hA;have FQ:=lh hF2;have PQ:=lh ((P3.out.next (ts':=us) hR hF4 HVL2.out).next hR2 (RFr.below (rb:=rb) hb3) (Y5 _));clear hX4 hX4' hFW hY hR hF4 hb1 hb2 hb3 hA hR2 hF2 HN hsb hwn hsz hnb HC;have HR5:=lh (Yk HQ5.out).symm;go_wp2;go_ret;rw [HR5.out];exact ⟨_,rfl,N.out,PQ.out.rd,FQ.out⟩
 have h':isT Z0d ts=false:=by simpa using h
 have hq:=QK7.out;rw [Y9 h] at hq;have QK8:=lh hq;have HT:=Z22 wk7 rb ts d Z0d PK7.out.rd h';unfold Z0d at HT;have HT:=lh HT;clear h h' hq;go_wp2_with fail
 refine HT.out.mono ?_;rintro e wk8 ⟨rfl,hB2⟩;have PK8:=lh (PK7.out.below hB2);have FK8:=lh (FK7.out.trans (RFr.below (rb:=rb) hB2));clear hB2 HT PK7 FK7 QK7;by_cases h:isT Z08 ts=true
 ·have hq := QK8.out;rw [Yb h] at hq;have HQ2 := lh hq;have HT := Z1g wk8 rb ts d Z08 PK8.out.rd h;unfold Z08 at HT;have HT := lh HT;clear h hq;go_wp2_with fail
  refine HT.out.mono ?_;rintro e w2 ⟨rfl,hR2,hF2⟩;have P2:=lh (PK8.out.tail hR2 hF2);have F2:=lh (FK8.out.trans hF2);clear hR2 hF2 HT;have HN:=lh (Z14 w2 rb 10 ⟨#[]⟩ none 0 0);obtain ⟨nb,hnb⟩:=zX w2.heap.size
  have G3:=Got.leaf (k:=10) (t:=⟨#[]⟩) (n:=0) HP.out.le F2.out;have hal:Below w2.heap.size w2 (w2.alloc (.cells #[.int .i64 10,.string ⟨#[]⟩,.int .i64 0,.slice none 0 0] 38)):=(Y8 _ _).alloc (Y5 _) _;have P3:=P2.out.below hal;have F3:=F2.out.trans (RFr.below (rb:=rb) hal);rw [← hnb] at HN G3;go_wp2_with fail
  refine HN.out.mono ?_;rintro e w3 ⟨rfl,hw3⟩;rw [← hw3] at G3 P3 F3;have N:=lh G3;have PQ:=lh P3;have FQ:=lh F3;clear G3 P3 F3 hal hw3 HN hnb;by_cases hsm:isT Zs ts.tail=true
  ·have hq := HQ2.out;rw [Yb hsm] at hq;have HB := Z4h w3 rb ts.tail d Zs PQ.out.rd;rw [hsm] at HB;unfold Zs at HB;have HB := lh HB;have HQ4 := lh hq;clear hq hsm;go_wp2_with fail
   refine HB.out.mono ?_;rintro e w4 ⟨rfl,hB4⟩;have HE:=Z71 w w4 rb B d _ _ _ r (PQ.out.below hB4) (N.out.rfr hlt (RFr.below (rb:=rb) hB4)) (FQ.out.trans (RFr.below hB4)) HQ4.out;simp only [ATree.b] at HE;have HE:=lh HE;clear hB4 HB;go_wp2_with fail
   refine HE.out.mono ?_;rcases r with ⟨c,p⟩ | ⟨t,ts'⟩
   ·rintro e wz ⟨⟨b,rfl,h1,h2⟩,hF⟩;exact ⟨rfl,⟨b,rfl,h1,h2⟩,hF⟩
   ·rintro e wz ⟨az,rfl,hG,hR,hF⟩;have HG:=lh hG;have HR:=lh hR;have HF:=lh hF;clear hG hR hF HE;go_wp2;go_ret;exact ⟨az,rfl,HG.out,HR.out,HF.out⟩
  have hsm':isT Zs ts.tail=false:=by simpa using hsm
  have hq:=HQ2.out;rw [Y9 hsm] at hq;have HB:=Z4h w3 rb ts.tail d Zs PQ.out.rd;rw [hsm'] at HB;unfold Zs at HB;have HB:=lh HB;have H2:=lh hq;clear hq hsm hsm';go_wp2_with fail
  refine HB.out.mono ?_;rintro e wf ⟨rfl,hBf⟩;have N:=lh (N.out.rfr hlt (RFr.below (rb:=rb) hBf));have PQ:=lh (PQ.out.below hBf);have FQ:=lh (FQ.out.trans (RFr.below (rb:=rb) hBf));clear hBf HB;have hblk:=N.out.at'.blkOf;simp only [ATree.b,ATree.v,ATree.kind,ATree.text,ATree.n] at hblk;have n3:wf.cell? ⟨nb,3,none⟩=some (.slice none 0 0):=by simp [World.cell?,hblk]
  clear hblk;go_wp2_with fail
  refine Zf [0,2,4,6,8,10,13,15,17] [9,10,11] (fun W=>W.cell? ⟨nb,3,none⟩=some (.slice none 0 0)) n3 fun _=>?_;simp only [Zh,pD,zD,zE,zF,zG,zH,zI,zJ,zK]
  iterate 6
   first | refine Za _ ?_ | refine Zb ?_
   simp only [Act.put,zA,zB,zC]
  refine Z5 (fun K hK=>?_);go_simp
  have P7:Pre wf.drew rb B d _:=PQ.out.below (Y8 _ _).drew;rcases Z09 H2.out with ⟨⟨c,p⟩,hv,rfl⟩ | ⟨t6,vs6,hv,hq6⟩
  ·refine (HV.out wf.drew rb B d _ _ P7 hv).mono ?_;rintro e wz ⟨⟨b,rfl,h1,h2⟩,hF⟩;exact ⟨rfl,Z0t.pre FQ.out.drew (r:=.error (c,p)) ⟨⟨b,rfl,h1,h2⟩,hF⟩⟩
  have HVL6:=lh (Z1h hv);have HQ6:=lh hq6;refine (HV.out wf.drew rb B d _ _ P7 hv).mono ?_;rintro e w3' ⟨a,rfl,hA,hR3,hF7⟩;have hF63:RFr wf w3' rb:=(RFr.refl wf rb).drew.trans hF7;have hN3:=N.out.rfr hlt hF63;have hblk:=hN3.at'.blkOf;simp only [ATree.b,ATree.v,ATree.kind,ATree.text,ATree.n] at hblk;have m3:w3'.cell? ⟨nb,3,none⟩=some (.slice none 0 0):=by simp [World.cell?,hblk]
  have mz:w3'.frozen? ⟨nb,3,none⟩=false:=by simp [World.frozen?,hblk]
  have hnb3:nb < w3'.heap.size:=(Y6.1 hblk).1;have hnd:=hN3.nodup;simp only [ATree.blocks,List.nodup_cons,List.mem_append,Option.mem_toList,not_or] at hnd;have hne:=hnd.1.1;have hk4:(([]:List ATree)).length≤8:=by simp
  have N3:=lh hN3;have A3:=lh hA;have R3:=lh hR3;have F3':=lh (FQ.out.trans hF63);have NE:=lh hne;have NA:=lh (show ∀ z∈(ATree.mk nb (.slice none 0 0) 10 ⟨#[]⟩ 0 ([]:List ATree)).blocks,z < wf.drew.heap.size from fun z hz=>(N.out.new z hz).2);refine hK _ _ m3 ?_;obtain ⟨i0,hi,hz0,hz1,hz2⟩:=info_parts Tryz.infoPtr;clear hK K hA hR3 hF63 hN3 hblk hnd hne n3 hF7 hv hq6 P7;refine Z5 (fun K hK=>?_);go_simp
  refine hK _ _ ((Z8 hnb3).trans m3) ?_;clear hK K;refine Z5 (fun K hK=>?_)
  refine step_append_lies _ (by rfl) (.tmp 113) (.tmp 116) 36 (by rfl) B 22 i0 _ 1 8 Tryz.underlying36 hi hz0 hz1 hz2 rfl (by decide) (.slice none 0 0) (([]:List ATree)).length ((([]:List ATree)).map ATree.ptr) (by rfl) (N3.out.at'.rowOf.alloc _) ⟨w3'.heap.size,0,none⟩ 1 1 [a.ptr] (by rfl) rfl (Yi (cs:=#[a.ptr]) (t:=22) (fr:=(0,0)) (heap_alloc_new w3' _)) (by simp [ATree.ptr,Value.oneCell']) (by decide) (by unfold maxLen; omega) (by omega) (by simp; have:=F3'.out.size; have:=HP.out.le; omega) (w3'.heap.size + 1) (by simp) ?_
  intro gg cap w4 hown4 hgrow4 hat4 hlt4;have m4:w4.cell? ⟨nb,3,none⟩=some (.slice none 0 0):=(hgrow4.cell_far ⟨nb,3,none⟩ (by simp; omega) (fun e=>NE.out e.symm)).trans ((Z8 hnb3).trans m3);have mz4:w4.frozen? ⟨nb,3,none⟩=false:=(hgrow4.frozen_far ⟨nb,3,none⟩ (by simp; omega) (fun e=>NE.out e.symm)).trans ((Z0m hnb3).trans mz);refine hK _ _ m4 ?_;clear hK K;simp only [Act.put,zA,zB,zC]
  have hfin:=Got.push hlt HP.out.le N3.out (wA:=wf.drew) NA.out A3.out F3'.out R3.out ((Y8 _ _).alloc (Y5 _) _) hgrow4 hown4 (by rcases hat4 with h | h; (exact .inl h); (exact .inr (by omega))) hlt4;have FIN:=lh hfin;clear hgrow4 hown4 hat4 hlt4 hfin;refine Z6 ?_;have HE:=Z71 w _ rb B d _ _ _ r (HP.out.next FIN.out.2.2 FIN.out.2.1 (by have:=HVL6.out; have:=Z19 ts; omega)) FIN.out.1 FIN.out.2.1 HQ6.out;simp only [ATree.b] at HE;have HE:=lh HE;clear FIN;go_wp2_with fail
  refine HE.out.mono ?_;rcases r with ⟨c,p⟩ | ⟨t,ts'⟩
  ·rintro e wz ⟨⟨b,rfl,h1,h2⟩,hF⟩;exact ⟨rfl,⟨b,rfl,h1,h2⟩,hF⟩
  ·rintro e wz ⟨az,rfl,hG,hR,hF⟩;have HG:=lh hG;have HR:=lh hR;have HF:=lh hF;clear hG hR hF HE;go_wp2;go_ret;exact ⟨az,rfl,HG.out,HR.out,HF.out⟩
 have h':isT Z08 ts=false:=by simpa using h
 have hq:=QK8.out;rw [Y9 h] at hq;have QK9:=lh hq;have HT:=Z22 wk8 rb ts d Z08 PK8.out.rd h';unfold Z08 at HT;have HT:=lh HT;clear h h' hq;go_wp2_with fail
 refine HT.out.mono ?_;rintro e wk9 ⟨rfl,hB2⟩;have PK9:=lh (PK8.out.below hB2);have FK9:=lh (FK8.out.trans (RFr.below (rb:=rb) hB2));clear hB2 HT PK8 FK8 QK8;by_cases h:isT Z0s ts=true
 ·have hq := QK9.out;rw [Yb h] at hq;have HQ2 := lh hq;have HT := Z1g wk9 rb ts d Z0s PK9.out.rd h;unfold Z0s at HT;have HT := lh HT;clear h hq;go_wp2_with fail
  refine HT.out.mono ?_;rintro e w2 ⟨rfl,hR2,hF2⟩;have P2:=lh (PK9.out.tail hR2 hF2);have F2:=lh (FK9.out.trans hF2);clear hR2 hF2 HT;rcases Z09 HQ2.out with ⟨⟨c,p⟩,hv,rfl⟩ | ⟨t,vs,hv,hq4⟩
  ·have HC := HV.out w2 rb B d _ _ P2.out hv;unfold rArg at HC;have HC := lh HC;clear hv;go_wp2_with fail
   refine HC.out.mono ?_;rintro e wz ⟨⟨b,rfl,h1,h2⟩,hF⟩;exact ⟨rfl,Z0t.pre F2.out (r:=.error (c,p)) ⟨⟨b,rfl,h1,h2⟩,hF⟩⟩
  have HC:=HV.out w2 rb B d _ _ P2.out hv;unfold rArg at HC;have HC:=lh HC;have HVL:=lh (Z1h hv);have HQ4:=lh hq4;clear hv hq4;go_wp2_with fail
  refine HC.out.mono ?_;rintro e w4 ⟨x,rfl,hX,hR,hF4⟩;have hX4:=hX.pre F2.out;have hFW:=F2.out.trans hF4;have hb1:Below w4.heap.size w4 (w4.alloc (.cells #[.pointer (some ⟨x.b,0,none⟩)] 22)):=(Y8 _ _).alloc (Y5 _) _;have hb2:Below w4.heap.size w4 ((w4.alloc (.cells #[.pointer (some ⟨x.b,0,none⟩)] 22)).alloc (.cells #[.int .i64 11,.string ⟨#[]⟩,.int .i64 0,.slice (some ⟨w4.heap.size,0,none⟩) 1 1] 38)):=hb1.alloc (by simp) _;have hA:=Got.one (k:=11) (t:=⟨#[]⟩) HP.out.le hFW hX4;have hR2:=hR.below hb2
  have hF2:=hFW.trans (RFr.below (rb:=rb) hb2);have HN:=lh (Z14 (w4.alloc (.cells #[.pointer (some ⟨x.b,0,none⟩)] 22)) rb 11 ⟨#[]⟩ (some ⟨w4.heap.size,0,none⟩) 1 1);obtain ⟨sb,hsb⟩:=zX w4.heap.size
  rw [← hsb] at HN hA hb2 hR2 hF2;have HSB:=lh hsb;go_wp2_with fail
  rw [← HSB.out];refine HN.out.mono ?_;rintro e wn ⟨rfl,hwn⟩;have hb3:Below w4.heap.size w4 wn:=by rw [hwn]; exact hb1.alloc (by simp) _
  have hsz:(w4.alloc (.cells #[.pointer (some ⟨x.b,0,none⟩)] 22)).heap.size=sb + 1:=by rw [HSB.out]; simp
  rw [hsz];obtain ⟨nb,hnb⟩:=zX (sb + 1)
  rw [← hnb] at hA ⊢;have hA:Got w B wn (.mk nb (.slice (some ⟨sb,0,none⟩) 1 1) 11 ⟨#[]⟩ 0 [x]) (.mk 11 ⟨#[]⟩ 0 [t]):=by rw [hwn]; exact hA
  rw [← hwn] at hR2 hF2;have HE:=Z71 w wn rb B d _ _ _ r ((P2.out.next (ts':=vs) hR hF4 HVL.out).next hR2 (RFr.below (rb:=rb) hb3) (Y5 _)) hA hF2 HQ4.out;simp only [ATree.b] at HE;have HE:=lh HE;clear hX4 hFW hX hR hF4 hb1 hb2 hb3 hA hR2 hF2 HN hsb hwn hsz hnb HC;go_wp2_with fail
  refine HE.out.mono ?_;rcases r with ⟨c,p⟩ | ⟨t,ts'⟩
  ·rintro e wz ⟨⟨b,rfl,h1,h2⟩,hF⟩;exact ⟨rfl,⟨b,rfl,h1,h2⟩,hF⟩
  ·rintro e wz ⟨az,rfl,hG,hR,hF⟩;have HG:=lh hG;have HR:=lh hR;have HF:=lh hF;clear hG hR hF HE;go_wp2;go_ret;exact ⟨az,rfl,HG.out,HR.out,HF.out⟩
 have h':isT Z0s ts=false:=by simpa using h
 have hq:=QK9.out;rw [Y9 h] at hq;have QK10:=lh hq;have HT:=Z22 wk9 rb ts d Z0s PK9.out.rd h';unfold Z0s at HT;have HT:=lh HT;clear h h' hq;go_wp2_with fail
 refine HT.out.mono ?_;rintro e wk10 ⟨rfl,hB2⟩;have PK10:=lh (PK9.out.below hB2);have FK10:=lh (FK9.out.trans (RFr.below (rb:=rb) hB2));clear hB2 HT PK9 FK9 QK9;by_cases h:isT Z1j ts=true
 ·have hq := QK10.out;rw [Yb h] at hq;have HQ2 := lh hq;have HT := Z1g wk10 rb ts d Z1j PK10.out.rd h;unfold Z1j at HT;have HT := lh HT;clear h hq;go_wp2_with fail
  refine HT.out.mono ?_;rintro e w2 ⟨rfl,hR2,hF2⟩;have P2:=lh (PK10.out.tail hR2 hF2);have F2:=lh (FK10.out.trans hF2);clear hR2 hF2 HT;have HC:=HTR.out w2 rb B d _ r P2.out HQ2.out;unfold rArg at HC;have HC:=lh HC;go_wp2_with fail
  refine HC.out.mono ?_;rcases r with ⟨c,p⟩ | ⟨t,ts'⟩
  ·rintro e wz ⟨⟨b,rfl,h1,h2⟩,hF⟩;exact ⟨rfl,Z0t.pre F2.out (r:=.error (c,p)) ⟨⟨b,rfl,h1,h2⟩,hF⟩⟩
  ·rintro e wz ⟨a,rfl,hG,hR,hF⟩;have HG:=lh (hG.pre F2.out);have HR:=lh hR;have HF:=lh (F2.out.trans hF);clear hG hR hF HC;go_wp2;go_ret;exact ⟨a,rfl,HG.out,HR.out,HF.out⟩
 have h':isT Z1j ts=false:=by simpa using h
 have hq:=QK10.out;rw [Y9 h] at hq;have QK11:=lh hq;have HT:=Z22 wk10 rb ts d Z1j PK10.out.rd h';unfold Z1j at HT;have HT:=lh HT;clear h h' hq;go_wp2_with fail
 refine HT.out.mono ?_;rintro e wk11 ⟨rfl,hB2⟩;have PK11:=lh (PK10.out.below hB2);have FK11:=lh (FK10.out.trans (RFr.below (rb:=rb) hB2));clear hB2 HT PK10 FK10 QK10;obtain ⟨w2,rfl⟩:∃ w2:World,w2=wk11:=⟨_,rfl⟩
 have P2:=PK11;have F2:=FK11;have HQ2:=QK11;rcases Z09 HQ2.out with ⟨⟨c,p⟩,hv,rfl⟩ | ⟨t,vs,hv,hq4⟩
 ·have HC := HV.out w2 rb B d _ _ P2.out hv;unfold rArg at HC;have HC := lh HC;clear hv;go_wp2_with fail
  refine HC.out.mono ?_;rintro e wz ⟨⟨b,rfl,h1,h2⟩,hF⟩;exact ⟨rfl,Z0t.pre F2.out (r:=.error (c,p)) ⟨⟨b,rfl,h1,h2⟩,hF⟩⟩
 have HC:=HV.out w2 rb B d _ _ P2.out hv;unfold rArg at HC;have HC:=lh HC;have HVL:=lh (Z1h hv);have HQ4:=lh hq4;clear hv hq4;go_wp2_with fail
 refine HC.out.mono ?_;rintro e w4 ⟨x,rfl,hX,hR,hF4⟩;have hX4:=hX.pre F2.out;have hFW:=F2.out.trans hF4;have hb1:Below w4.heap.size w4 (w4.alloc (.cells #[.pointer (some ⟨x.b,0,none⟩)] 22)):=(Y8 _ _).alloc (Y5 _) _;have hb2:Below w4.heap.size w4 ((w4.alloc (.cells #[.pointer (some ⟨x.b,0,none⟩)] 22)).alloc (.cells #[.int .i64 15,.string ⟨#[]⟩,.int .i64 0,.slice (some ⟨w4.heap.size,0,none⟩) 1 1] 38)):=hb1.alloc (by simp) _;have hA:=Got.one (k:=15) (t:=⟨#[]⟩) HP.out.le hFW hX4;have hR2:=hR.below hb2;have hF2:=hFW.trans (RFr.below (rb:=rb) hb2)
 have HN:=lh (Z14 (w4.alloc (.cells #[.pointer (some ⟨x.b,0,none⟩)] 22)) rb 15 ⟨#[]⟩ (some ⟨w4.heap.size,0,none⟩) 1 1);obtain ⟨sb,hsb⟩:=zX w4.heap.size
 rw [← hsb] at HN hA hb2 hR2 hF2;have HSB:=lh hsb;go_wp2_with fail
 rw [← HSB.out];refine HN.out.mono ?_;rintro e wn ⟨rfl,hwn⟩;have hb3:Below w4.heap.size w4 wn:=by rw [hwn]; exact hb1.alloc (by simp) _
 have hsz:(w4.alloc (.cells #[.pointer (some ⟨x.b,0,none⟩)] 22)).heap.size=sb + 1:=by rw [HSB.out]; simp
 rw [hsz];obtain ⟨nb,hnb⟩:=zX (sb + 1)
 rw [← hnb] at hA ⊢;have hA:Got w B wn (.mk nb (.slice (some ⟨sb,0,none⟩) 1 1) 15 ⟨#[]⟩ 0 [x]) (.mk 15 ⟨#[]⟩ 0 [t]):=by rw [hwn]; exact hA
 rw [← hwn] at hR2 hF2;have HE:=Z71 w wn rb B d _ _ _ r ((P2.out.next (ts':=vs) hR hF4 HVL.out).next hR2 (RFr.below (rb:=rb) hb3) (Y5 _)) hA hF2 HQ4.out;simp only [ATree.b] at HE;have HE:=lh HE;clear hX4 hFW hX hR hF4 hb1 hb2 hb3 hA hR2 hF2 HN hsb hwn hsz hnb HC;go_wp2_with fail
 refine HE.out.mono ?_;rcases r with ⟨c,p⟩ | ⟨t,ts'⟩
 ·rintro e wz ⟨⟨b,rfl,h1,h2⟩,hF⟩;exact ⟨rfl,⟨b,rfl,h1,h2⟩,hF⟩
 ·rintro e wz ⟨az,rfl,hG,hR,hF⟩;have HG:=lh hG;have HR:=lh hR;have HF:=lh hF;clear hG hR hF HE;go_wp2;go_ret;exact ⟨az,rfl,HG.out,HR.out,HF.out⟩
structure AllSay (f:Nat):Prop where
 stmt:Says 53 rArg .stmt f
 value:Says 80 rArg .value f
 assign:Says 101 rArg .assign f
 bin:∀ lv,lv≤6→Says 115 (bArg lv) (.bin lv) f
 unary:Says 126 rArg .unary f
 postfix_:Says 135 rArg .postfix_ f
 primary:Says 147 rArg .primary f
 around:Says 79 rArg .around f
 func:∀ k s,Says 77 (fun rb=>#[.pointer (some ⟨rb,0,none⟩),.int .i64 k,.string s]) (.func k s) f
 object:Says 156 rArg (.object []) f
 block:∀ b,Says 73 (fun rb=>#[.pointer (some ⟨rb,0,none⟩),.bool b]) (.block b) f
 stmts:Says 19 (fun rb=>#[.pointer (some ⟨rb,0,none⟩),.int .i64 6,.string Z01]) (.stmts 6 []) f
 try_:Says 81 rArg .try_ f
 decl:∀ k m,Says 76 (fun rb=>#[.pointer (some ⟨rb,0,none⟩),.int .i64 k,.bool m]) (.decl k m) f
theorem Z2c {F:FuncId} {args:Nat→Array Value} {job:Job}:Says F args job 0:=by
 intro w rb B d ts r _ h;cases h
theorem Zkp:∀ f,AllSay f:=by
 intro f;induction f using Nat.strongRecOn with
 | _ f ih =>
   cases f with
   | zero=>exact ⟨Z2c,Z2c,Z2c,fun _ _=>Z2c,Z2c,Z2c,Z2c,Z2c,fun _ _=>Z2c,Z2c,fun _=>Z2c,Z2c,Z2c,fun _ _=>Z2c⟩
   | succ f =>
     have I:=ih f (Nat.lt_succ_self f)
     refine ⟨Zgq f (I.block false) I.decl (I.func 5) I.around I.stmt I.value I.try_,Zet f I.assign,Zd2 f (I.bin 0 (by omega)) I.value,fun lv hlv=>?_,Zea f I.unary I.postfix_,Zba f I.primary (fun g hg=>(ih g (by omega)).value),Zb6 f I.around (I.func 37) I.object,Zcy f I.value,
      fun k s=>Zhb f k s (I.block true),Zcc (f + 1) (fun g hg=>(ih g hg).value),fun b=>Ze8 f b I.stmts,Zeh (f + 1) (fun g hg=>(ih g hg).stmt),Zjr f (I.block false),fun k m=>Zhi f k m I.value⟩
     by_cases h6:lv=6;·subst h6; exact Zh9 f I.unary
     ·exact Zix f lv (by omega) fun g hg=>(ih g (by omega)).bin (lv + 1) (by omega)
theorem Zj8 (f:Nat):Says 19 (fun rb=>#[.pointer (some ⟨rb,0,none⟩),.int .i64 1,.string ⟨#[]⟩]) (.stmts 1 []) f:=
 Zfl f fun g _=>(Zkp g).stmt
theorem Zkh (p0:Addr) {σ:Type} (Inv:σ→World→Prop) (g:σ→ATree→Bool×σ) (B:Nat):∀ (m:Nat) (a:ATree),a.many≤m→(∀ s w,Inv s w→TreeAt w B a) →
 (∀ x∈a.subs,∀ s w,Inv s w→Calls Tryz.prog 21 #[x.ptr,.pointer (some p0)] w fun e w'=>e=.returned (.bool (g s x).1)∧Inv (g s x).2 w') →
 ∀ s w,Inv s w→Calls Tryz.prog 20 #[a.ptr,.func (.func 21) #[] #[.pointer (some p0)]] w fun e w'=>e=.returned (.tuple #[])∧Inv (Zcj g a s) w':=by
 intro m;induction m with
 | zero=>intro a h; exfalso; cases a; simp [ATree.many] at h
 | succ m ih =>
   intro a hm hT hg s w hI;have IH:=lh ih;have HT:=lh hT;have HG:=lh hg;have HM:=lh hm;have HC:=hg a (Zb4 a) s w hI;rw [Zik];unfold ATree.ptr at HC ⊢;obtain ⟨ok,s1,hgs⟩:∃ ok s1,g s a=(ok,s1):=⟨_,_,rfl⟩
   rw [hgs] at HC ⊢;have HC:=lh HC;clear ih hT hg hm hI hgs;cases ok
   ·go_enter Tryz.func20, Tryz.ntmps20
    go_wp2_with fail
    refine HC.out.mono ?_;rintro e w1 ⟨rfl,hI1⟩;have HI1:=lh hI1;clear hI1 HC;go_wp2;refine bodyPost_ret (results_none rfl _ _ _) rfl ?_;exact ⟨rfl,HI1.out⟩
   ·simp only [if_true];go_enter Tryz.func20, Tryz.ntmps20
    go_wp2_with fail
    refine HC.out.mono ?_;rintro e w1 ⟨rfl,hI1⟩;have hT1:=HT.out _ _ hI1;have hblk:=hT1.blkOf;have hrow:=hT1.rowOf;obtain ⟨p,cp,hv⟩:∃ p cp,a.v=.slice p a.kids.length cp:=by
     rcases Zp hrow with ⟨h1,h2⟩ | ⟨g0,cap0,h1,_⟩;·exact ⟨none,0,by rw [h1,h2]⟩
     ·exact ⟨_,_,h1⟩
    rw [hv] at hblk;have c3:w1.cell? ⟨a.b,3,none⟩=some (.slice p a.kids.length cp):=by simp [World.cell?,hblk]
    have hlen:a.kids.length≤9223372036854775807:=by
     rcases Zp hrow with ⟨h1,h2⟩ | ⟨g0,cap0,h1,k1,k2,k3⟩;·omega
     ·unfold maxLen at k2; omega
    have HI1:=lh hI1;have HV:=lh hv;obtain ⟨n,hn⟩:=zX a.kids.length
    rw [← hn] at c3 hlen;have HN:=lh hn;clear hI1 hT1 hblk hrow hv hn HC;go_wp2_with fail
    go_loopw [19] (fun i wr=>∃ k:Nat,k≤n∧i=.int .i64 k∧Hid (Inv (Z82 g (a.kids.take k) s1) wr)) (fun i _=>n - (intOf i).toNat)
    case atStart=>exact ⟨0,Yp _,rfl,lh (by simpa [Z82] using HI1.out)⟩
    case round=>
     obtain ⟨k,hk,rfl,HI⟩:=hrel;by_cases hkn:k < n
     ·obtain ⟨x, hx⟩ : ∃ x, a.kids[k]? = some x := ⟨_, Yd (by rw [← HN.out]; exact hkn)⟩
      have hT2:=HT.out _ _ HI.out;have hrow:=hT2.rowOf;rcases Zp hrow with ⟨_,h2⟩ | ⟨g0,cap0,hv0,k1,k2,k3⟩;·rw [← HN.out] at h2; omega
      have hp:p=some ⟨g0,0,none⟩:=by
       have:=HV.out.symm.trans hv0;simp only [Value.slice.injEq] at this;exact this.1
      subst hp;have cx:=Z17 hrow (g:=g0) (by rw [hv0]; rfl) (i:=k) (x:=x.ptr) (by rw [Yo,hx]; rfl);unfold ATree.ptr at cx;have hmem:x∈a.kids:=Yl hx;have hcall:=IH.out x (by have:=Zam hmem; have:=HM.out; omega) (fun s w h=>(HT.out s w h).kid hmem) (fun y hy=>HG.out y (Zdn hmem hy)) _ _ HI.out;unfold ATree.ptr at hcall;have HCALL:=lh hcall;have HX:=lh hx;have hge:n≤cp:=by
       have:=HV.out.symm.trans hv0;simp only [Value.slice.injEq] at this;rw [HN.out,this.2.2]; exact k1
      clear hx hT2 hrow hv0 k1 k2 k3 hmem hcall;go_wp2_with fail
      refine HCALL.out.mono ?_;rintro e w2 ⟨rfl,hI2⟩;have HI2:=lh hI2;clear hI2 HCALL;go_wp2;go_roundw
      case rel=>exact ⟨k + 1,by omega,by go_num,lh (by rw [Z7b HX.out,Zeu]; exact HI2.out)⟩
      case measure=>simp [intOf]; omega
     ·have hk2 : k = n := by omega
      subst hk2;go_wp2;go_end0
      refine ⟨rfl,?_⟩;have:=HI.out;rwa [Ym (by rw [← HN.out]; exact Y5 _)] at this
theorem Z5x {P:Program} {f:FuncId} {fn:Func} {c:Code} {args:Array Value} {u:FrameMode} {w:World} {R:Ending→FrameMode→World→Prop}
 (hf:P.funcs[f]?=some fn) (hb:fn.body=some c) (T:Array Value) (hT:args ++ Array.replicate (fn.ntmps - args.size) undef=T)
 (h:∀ (c₀:Frame) (cs:List Frame),c₀.mode=u→c.wpS P (bodyPostS P fn c₀ cs R) { tmps:=T,defers:=[] } (c₀ :: cs) w):CallsD P f args u w R:=
 callsD_of_wpS hf hb (by rw [hT]; exact h)
theorem Tryz.asFault (v:Value) (w:World):(Instr.typeAssert (.iface 57 v) 20 57 true).run Tryz.prog w=.ok (.tuple #[v,.bool true]) w:=by kernel_rfl
theorem Z9y (p q:Addr) (w:World) :
 CallsD Tryz.prog 18 #[.pointer (some p),.pointer (some q)] .returning w fun e u' w'=>e=.returned (.tuple #[])∧u'=.returning∧w'=w:=by
 refine Z5x Tryz.func18 rfl #[.pointer (some p),.pointer (some q),undef,undef,undef,undef,undef,undef,undef,undef,undef,undef,undef,undef,undef,undef,undef,undef] (by rfl) fun c₀ cs hu=>?_;apply wpS_seq;apply wpS_region;simp [wpOpsS,go_sem,recoverD,hu,Exit.thenS];refine wpS_of_wp ?_;go_wp2;cases c₀;simp_all [bodyPostS,results,Tryz.results18]
def Z60 (w:World) (pb qb:Nat) (x:Value) (w':World):Prop:=
 w'.heap[pb]?=some (.cells #[.pointer none] 22 (0,0))∧w'.heap[qb]?=some (.cells #[x] 29 (0,0))∧w'.os=w.os∧w'.tape=w.tape∧w'.output=w.output∧w.heap.size≤w'.heap.size∧∀ k,k < w.heap.size→k≠pb→k≠qb→w'.heap[k]?=w.heap[k]?
theorem Zbw {w w1:World} {pb qb:Nat} {x x0 y0:Value} (hp:w.heap[pb]?=some (.cells #[x0] 22 (0,0))) (hq:w.heap[qb]?=some (.cells #[y0] 29 (0,0))) (hpq:pb≠qb) (hB:Below w.heap.size w w1) :
 Z60 w pb qb x ((w1.setCell ⟨pb,0,none⟩ (.pointer none)).setCell ⟨qb,0,none⟩ x):=by
 have hpl:pb < w.heap.size:=(Y6.1 hp).1;have hql:qb < w.heap.size:=(Y6.1 hq).1;refine ⟨?_,?_,hB.os,hB.tape,hB.output,by rw [Yn,Yn]; exact hB.size,fun k hk h1 h2=>?_⟩;·exact (Yg _ _ _ _ hpq).trans (Z07 (o:=0) _ ((hB.block pb hpl).trans hp))
 ·exact Z07 (o:=0) _ ((Yg _ _ _ _ (Ne.symm hpq)).trans ((hB.block qb hql).trans hq))
 ·exact (Yg _ _ _ _ h2).trans ((Yg _ _ _ _ h1).trans (hB.block k hk))
theorem Z60.below {w w1 w2:World} {pb qb:Nat} {x:Value} (h:Z60 w pb qb x w1) (hB:Below w1.heap.size w1 w2):Z60 w pb qb x w2:=by
 obtain ⟨h1,h2,h3,h4,h5,h6,h7⟩:=h;refine ⟨(hB.block pb (Y6.1 h1).1).trans h1,(hB.block qb (Y6.1 h2).1).trans h2,hB.os.trans h3,hB.tape.trans h4,hB.output.trans h5,Ya h6 hB.size,fun k hk a b=>(hB.block k (Ye hk h6)).trans (h7 k hk a b)⟩
theorem Zcu (pb qb:Nat) (b:Nat) (older:List PanicEntry) (w:World) (x0 y0:Value) (hp:w.heap[pb]?=some (.cells #[x0] 22 (0,0))) (hq:w.heap[qb]?=some (.cells #[y0] 29 (0,0))) (hpq:pb≠qb) :
 CallsD Tryz.prog 18 #[.pointer (some ⟨pb,0,none⟩),.pointer (some ⟨qb,0,none⟩)] (.panicking ({ v:=.iface 57 (.agg #[.iface 88 (.pointer (some ⟨b,0,none⟩))]),recovered:=false } :: older)) w fun e u' w'=>
  e=.returned (.tuple #[])∧u'=.panicking ({ v:=.iface 57 (.agg #[.iface 88 (.pointer (some ⟨b,0,none⟩))]),recovered:=true } :: older)∧Z60 w pb qb (.iface 88 (.pointer (some ⟨b,0,none⟩))) w':=by
 have hpl:pb < w.heap.size:=(Y6.1 hp).1;have hql:qb < w.heap.size:=(Y6.1 hq).1;have cp:w.cell? ⟨pb,0,none⟩=some x0:=by simp [World.cell?,hp]
 have cq:w.cell? ⟨qb,0,none⟩=some y0:=by simp [World.cell?,hq]
 have zp:w.frozen? ⟨pb,0,none⟩=false:=by simp [World.frozen?,hp]
 have zq:w.frozen? ⟨qb,0,none⟩=false:=by simp [World.frozen?,hq]
 have hta:=Tryz.asFault (.agg #[.iface 88 (.pointer (some ⟨b,0,none⟩))]);refine Z5x Tryz.func18 rfl #[.pointer (some ⟨pb,0,none⟩),.pointer (some ⟨qb,0,none⟩),undef,undef,undef,undef,undef,undef,undef,undef,undef,undef,undef,undef,undef,undef,undef,undef] (by rfl) fun c₀ cs hu=>?_;apply wpS_seq;apply wpS_region;simp [wpOpsS,go_sem,recoverD,hu,Exit.thenS];refine wpS_of_wp ?_;clear hu;go_wp2;go_region
 have CP:=((Zbw (x:=.iface 88 (.pointer (some ⟨b,0,none⟩))) hp hq hpq (Y8 _ w)).below ((Y8 _ _).alloc (Y5 _) (.cells #[.iface 88 (.pointer (some ⟨b,0,none⟩))] 57))).below (Y8 _ _).drew;have CP:=lh CP;clear hp hq hpq hpl hql cp cq zp zq hta;show bodyPostS _ _ _ _ _ Exit.normal _ _ _;cases c₀;simp [bodyPostS,results,Tryz.results18];exact CP.out
end Go.Proofs.YtmeiggjboakmpaaGreatDoor
