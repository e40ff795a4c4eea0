/- The document's text of a program: statements. -/
import Derived.Test.YtmeiggjboakmpaaGreatDoorJ09
namespace Go.Proofs.YtmeiggjboakmpaaGreatDoor
open Go Go.RowKit
set_option maxRecDepth 100000
set_option maxHeartbeats 20000000
set_option linter.unusedVariables false
set_option linter.unusedSimpArgs false
section
variable {w0:World} {Bt:Nat}
theorem Zje (a:ATree) (hT:TreeAt w0 Bt a) (h1:a.kind=8) (x y:ATree) (hks:a.kids=[x,y]) (X Y:ByteArray) (hx:RC w0 a 0 X) (hy:RS' w0 y Y) (sX:X.size≤100000000) (sY:Y.size≤100000000):RS' w0 a (⟨#[119,104,105,108,101,32,40]⟩ ++ X ++ ⟨#[41,32]⟩ ++ Y):=by
 have c0:=hT.c0;rw [h1] at c0;have c1:=hT.c1;obtain ⟨g,cp,c3,hge2,hmx,hgl,hk⟩:=Z3a hT hks 2 rfl (by decide);have k0:=hk 0 x rfl;have k1:=hk 1 y rfl;have HX:=lh hx;have HY:=lh hy;intro W0 hB;obtain ⟨HBA,HCA,HDA,HXB⟩:=boxF hB (.pointer (some ⟨a.b,0,none⟩)) 22;have xb:=HXB.out;have x0:=ob HBA.out c0;have x3:=ob HBA.out c3;have y1:=ob HBA.out k1;have q1:¬ 9223372036854775807 < 7 + X.size:=by omega
 have q2:¬ 9223372036854775807 < 7 + X.size + 2:=by omega
 have q3:¬ 9223372036854775807 < 7 + X.size + 2 + Y.size:=by omega
 clear hB hT h1 hks hk hx hy sX sY;unfold RS' ATree.ptr at HY;unfold ATree.ptr;go_enter Tryz.func26,Tryz.ntmps26
 go_wp2_with fail
 refine Zf [0,8,10,12,14,16,18,3,4,6,21] [11,12] (fun W=>W.cell? ⟨W0.heap.size,0,none⟩=some (.pointer (some ⟨a.b,0,none⟩))∧W.cell? ⟨a.b,3,none⟩=some (.slice (some ⟨g,0,none⟩) 2 cp)∧W.cell? ⟨g,1,none⟩=some (.pointer (some ⟨y.b,0,none⟩))) ⟨xb,x3,y1⟩ fun _=>?_;simp only [Zh,pD,zD,zE,zF,zG,zH,zI,zJ,zK]
 iterate 7
  first | refine Za _ ?_ | refine Zb ?_
  simp only [Act.put,zA,zB,zC]
 have HBAd:=lh HBA.out.drew;have HDAd:=lh HDA.out.drew;refine Z5 (fun K hK=>?_);go_simp
 refine (HX.out W0.heap.size _ HBAd.out (ob HDAd.out HXB.out)).mono ?_;rintro e w1 ⟨rfl,hb1⟩;have HB1:=zT HBAd hb1;have HD1:=zT HDAd hb1;clear hb1;refine hK _ _ ⟨ob HD1.out HXB.out,ob HB1.out c3,ob HB1.out k1⟩ ?_;clear hK K
 iterate 2
  first | refine Za _ ?_ | refine Zb ?_
  simp only [Act.put,zA,zB,zC]
 refine Z5 (fun K hK=>?_);go_simp
 refine (HY.out _ HB1.out).mono ?_;rintro e w2 ⟨rfl,hb2⟩;have HB2:=zT HB1 hb2;have HD2:=zT HD1 hb2;clear hb2;refine hK _ _ ⟨ob HD2.out HXB.out,ob HB2.out c3,ob HB2.out k1⟩ ?_;clear hK K;refine Z6 ?_;go_wp2;go_ret;exact ⟨rfl,HCA.out.trans (HD2.out.mono HCA.out.size)⟩
theorem Zlc (a:ATree) (hT:TreeAt w0 Bt a) (h1:a.kind=9) (x y:ATree) (hks:a.kids=[x,y]) (X Y:ByteArray) (hx:RC w0 a 0 X) (hy:RS' w0 y Y) (sX:X.size≤100000000) (sY:Y.size≤100000000):RS' w0 a (⟨#[119,105,116,104,32,40]⟩ ++ X ++ ⟨#[41,32]⟩ ++ Y):=by
 have c0:=hT.c0;rw [h1] at c0;have c1:=hT.c1;obtain ⟨g,cp,c3,hge2,hmx,hgl,hk⟩:=Z3a hT hks 2 rfl (by decide);have k0:=hk 0 x rfl;have k1:=hk 1 y rfl;have HX:=lh hx;have HY:=lh hy;intro W0 hB;obtain ⟨HBA,HCA,HDA,HXB⟩:=boxF hB (.pointer (some ⟨a.b,0,none⟩)) 22;have xb:=HXB.out;have x0:=ob HBA.out c0;have x3:=ob HBA.out c3;have y1:=ob HBA.out k1;have q1:¬ 9223372036854775807 < 6 + X.size:=by omega
 have q2:¬ 9223372036854775807 < 6 + X.size + 2:=by omega
 have q3:¬ 9223372036854775807 < 6 + X.size + 2 + Y.size:=by omega
 clear hB hT h1 hks hk hx hy sX sY;unfold RS' ATree.ptr at HY;unfold ATree.ptr;go_enter Tryz.func26,Tryz.ntmps26
 go_wp2_with fail
 refine Zf [0,8,10,12,14,16,18,3,4,6,21] [11,12] (fun W=>W.cell? ⟨W0.heap.size,0,none⟩=some (.pointer (some ⟨a.b,0,none⟩))∧W.cell? ⟨a.b,3,none⟩=some (.slice (some ⟨g,0,none⟩) 2 cp)∧W.cell? ⟨g,1,none⟩=some (.pointer (some ⟨y.b,0,none⟩))) ⟨xb,x3,y1⟩ fun _=>?_;simp only [Zh,pD,zD,zE,zF,zG,zH,zI,zJ,zK]
 iterate 7
  first | refine Za _ ?_ | refine Zb ?_
  simp only [Act.put,zA,zB,zC]
 have HBAd:=lh HBA.out.drew;have HDAd:=lh HDA.out.drew;refine Z5 (fun K hK=>?_);go_simp
 refine (HX.out W0.heap.size _ HBAd.out (ob HDAd.out HXB.out)).mono ?_;rintro e w1 ⟨rfl,hb1⟩;have HB1:=zT HBAd hb1;have HD1:=zT HDAd hb1;clear hb1;refine hK _ _ ⟨ob HD1.out HXB.out,ob HB1.out c3,ob HB1.out k1⟩ ?_;clear hK K
 iterate 2
  first | refine Za _ ?_ | refine Zb ?_
  simp only [Act.put,zA,zB,zC]
 refine Z5 (fun K hK=>?_);go_simp
 refine (HY.out _ HB1.out).mono ?_;rintro e w2 ⟨rfl,hb2⟩;have HB2:=zT HB1 hb2;have HD2:=zT HD1 hb2;clear hb2;refine hK _ _ ⟨ob HD2.out HXB.out,ob HB2.out c3,ob HB2.out k1⟩ ?_;clear hK K;refine Z6 ?_;go_wp2;go_ret;exact ⟨rfl,HCA.out.trans (HD2.out.mono HCA.out.size)⟩
end
section
variable {w0:World} {Bt:Nat}
theorem Zlw (a:ATree) (hT:TreeAt w0 Bt a) (h1:a.kind=7) (x y:ATree) (hks:a.kids=[x,y]) (X Y:ByteArray) (hx:RC w0 a 0 X) (hy:RS' w0 y Y) (sX:X.size≤100000000) (sY:Y.size≤100000000):RS' w0 a (⟨#[105,102,32,40]⟩ ++ X ++ ⟨#[41,32]⟩ ++ Y):=by
 have c0:=hT.c0;rw [h1] at c0;have c1:=hT.c1;obtain ⟨g,cp,c3,hge2,hmx,hgl,hk⟩:=Z3a hT hks 2 rfl (by decide);have k0:=hk 0 x rfl;have k1:=hk 1 y rfl;have HX:=lh hx;have HY:=lh hy;intro W0 hB;obtain ⟨HBA,HCA,HDA,HXB⟩:=boxF hB (.pointer (some ⟨a.b,0,none⟩)) 22;have xb:=HXB.out;have x0:=ob HBA.out c0;have x3:=ob HBA.out c3;have y1:=ob HBA.out k1;have q1:¬ 9223372036854775807 < 4 + X.size:=by omega
 have q2:¬ 9223372036854775807 < 4 + X.size + 2:=by omega
 have q3:¬ 9223372036854775807 < 4 + X.size + 2 + Y.size:=by omega
 clear hB hT h1 hks hk hx hy sX sY;unfold RS' ATree.ptr at HY;unfold ATree.ptr;go_enter Tryz.func26,Tryz.ntmps26
 go_wp2_with fail
 refine Zf [0,8,10,12,14,16,18,3,4,6,21] [11,12] (fun W=>W.cell? ⟨W0.heap.size,0,none⟩=some (.pointer (some ⟨a.b,0,none⟩))∧W.cell? ⟨a.b,3,none⟩=some (.slice (some ⟨g,0,none⟩) 2 cp)∧W.cell? ⟨g,1,none⟩=some (.pointer (some ⟨y.b,0,none⟩))) ⟨xb,x3,y1⟩ fun _=>?_;simp only [Zh,pD,zD,zE,zF,zG,zH,zI,zJ,zK]
 iterate 7
  first | refine Za _ ?_ | refine Zb ?_
  simp only [Act.put,zA,zB,zC]
 have HBAd:=lh HBA.out.drew;have HDAd:=lh HDA.out.drew;refine Z5 (fun K hK=>?_);go_simp
 refine (HX.out W0.heap.size _ HBAd.out (ob HDAd.out HXB.out)).mono ?_;rintro e w1 ⟨rfl,hb1⟩;have HB1:=zT HBAd hb1;have HD1:=zT HDAd hb1;clear hb1;refine hK _ _ ⟨ob HD1.out HXB.out,ob HB1.out c3,ob HB1.out k1⟩ ?_;clear hK K
 iterate 2
  first | refine Za _ ?_ | refine Zb ?_
  simp only [Act.put,zA,zB,zC]
 refine Z5 (fun K hK=>?_);go_simp
 refine (HY.out _ HB1.out).mono ?_;rintro e w2 ⟨rfl,hb2⟩;have HB2:=zT HB1 hb2;have HD2:=zT HD1 hb2;clear hb2;refine hK _ _ ⟨ob HD2.out HXB.out,ob HB2.out c3,ob HB2.out k1⟩ ?_;clear hK K;refine Z6 ?_;have x3:=ob HB2.out c3;have xb:=ob HD2.out HXB.out;go_wp2;go_ret;exact ⟨rfl,HCA.out.trans (HD2.out.mono HCA.out.size)⟩
theorem Zm5 (a:ATree) (hT:TreeAt w0 Bt a) (h1:a.kind=7) (x y z:ATree) (hks:a.kids=[x,y,z]) (X Y Z:ByteArray) (hx:RC w0 a 0 X) (hy:RS' w0 y Y) (hz:RS' w0 z Z) (sX:X.size≤100000000) (sY:Y.size≤100000000) (sZ:Z.size≤100000000):RS' w0 a (⟨#[105,102,32,40]⟩ ++ X ++ ⟨#[41,32]⟩ ++ Y ++ (⟨#[32,101,108,115,101,32]⟩ ++ Z)):=by
 have c0:=hT.c0;rw [h1] at c0;have c1:=hT.c1;obtain ⟨g,cp,c3,hge2,hmx,hgl,hk⟩:=Z3a hT hks 3 rfl (by decide);have k0:=hk 0 x rfl;have k1:=hk 1 y rfl;have k2:=hk 2 z rfl;have HX:=lh hx;have HY:=lh hy;have HZ:=lh hz;intro W0 hB;obtain ⟨HBA,HCA,HDA,HXB⟩:=boxF hB (.pointer (some ⟨a.b,0,none⟩)) 22;have xb:=HXB.out;have x0:=ob HBA.out c0;have x3:=ob HBA.out c3;have y1:=ob HBA.out k1;have q1:¬ 9223372036854775807 < 4 + X.size:=by omega
 have q2:¬ 9223372036854775807 < 4 + X.size + 2:=by omega
 have q3:¬ 9223372036854775807 < 4 + X.size + 2 + Y.size:=by omega
 have q4:¬ 9223372036854775807 < 6 + Z.size:=by omega
 have q5:¬ 9223372036854775807 < 4 + X.size + 2 + Y.size + (6 + Z.size):=by omega
 clear hB hT h1 hks hk hx hy sX sY hz sZ;unfold RS' ATree.ptr at HY HZ;unfold ATree.ptr;go_enter Tryz.func26,Tryz.ntmps26
 go_wp2_with fail
 refine Zf [0,8,10,12,14,16,18,3,4,6,21] [11,12] (fun W=>W.cell? ⟨W0.heap.size,0,none⟩=some (.pointer (some ⟨a.b,0,none⟩))∧W.cell? ⟨a.b,3,none⟩=some (.slice (some ⟨g,0,none⟩) 3 cp)∧W.cell? ⟨g,1,none⟩=some (.pointer (some ⟨y.b,0,none⟩))) ⟨xb,x3,y1⟩ fun _=>?_;simp only [Zh,pD,zD,zE,zF,zG,zH,zI,zJ,zK]
 iterate 7
  first | refine Za _ ?_ | refine Zb ?_
  simp only [Act.put,zA,zB,zC]
 have HBAd:=lh HBA.out.drew;have HDAd:=lh HDA.out.drew;refine Z5 (fun K hK=>?_);go_simp
 refine (HX.out W0.heap.size _ HBAd.out (ob HDAd.out HXB.out)).mono ?_;rintro e w1 ⟨rfl,hb1⟩;have HB1:=zT HBAd hb1;have HD1:=zT HDAd hb1;clear hb1;refine hK _ _ ⟨ob HD1.out HXB.out,ob HB1.out c3,ob HB1.out k1⟩ ?_;clear hK K
 iterate 2
  first | refine Za _ ?_ | refine Zb ?_
  simp only [Act.put,zA,zB,zC]
 refine Z5 (fun K hK=>?_);go_simp
 refine (HY.out _ HB1.out).mono ?_;rintro e w2 ⟨rfl,hb2⟩;have HB2:=zT HB1 hb2;have HD2:=zT HD1 hb2;clear hb2;refine hK _ _ ⟨ob HD2.out HXB.out,ob HB2.out c3,ob HB2.out k1⟩ ?_;clear hK K;refine Z6 ?_;have x3:=ob HB2.out c3;have xb:=ob HD2.out HXB.out;have y2:=ob HB2.out k2;go_wp2_with fail
 refine (HZ.out _ HB2.out).mono ?_;rintro e w3 ⟨rfl,hb3⟩;have HB3:=zT HB2 hb3;have HD3:=zT HD2 hb3;clear hb3;go_wp2;go_ret;exact ⟨rfl,HCA.out.trans (HD3.out.mono HCA.out.size)⟩
end
section
variable {w0:World} {Bt:Nat}
theorem Zh8 (a:ATree) (hT:TreeAt w0 Bt a) (k:Int) (wd:ByteArray) (hK:(k=2∧wd=⟨#[118,97,114,32]⟩)∨(k=3∧wd=⟨#[108,101,116,32]⟩)) (h1:a.kind=k) (hks:a.kids=[]) (sT:a.text.size≤100000000):RS' w0 a (wd ++ a.text ++ ⟨#[59]⟩):=by
 have c0:=hT.c0;rw [h1] at c0;have c1:=hT.c1;obtain ⟨pp,cp,hpv,hge,hmx⟩:=hT.vOf;have c3:=hT.c3;rw [hpv,hks] at c3;simp only [List.length_nil] at c3;intro W0 hB;obtain ⟨HBA,HCA,HDA,HXB⟩:=boxF hB (.pointer (some ⟨a.b,0,none⟩)) 22;have xb:=HXB.out;have x0:=ob HBA.out c0;have x1:=ob HBA.out c1;have x3:=ob HBA.out c3;have q1:¬ 9223372036854775807 < 4 + a.text.size:=by omega
 have q2:¬ 9223372036854775807 < 4 + a.text.size + 1:=by omega
 have q3:¬ 9223372036854775807 < 6 + a.text.size:=by omega
 have q4:¬ 9223372036854775807 < 6 + a.text.size + 1:=by omega
 clear hB hT h1 hks sT hpv hge;unfold ATree.ptr;rcases hK with ⟨rfl,rfl⟩ | ⟨rfl,rfl⟩
 all_goals
  go_enter Tryz.func26,Tryz.ntmps26
  go_wp2_with fail
  refine Zf [2,4,6,8,10,16,18,20,22,1,13,15] [12,13] (fun W=>W.cell? ⟨W0.heap.size,0,none⟩=(W0.alloc (.cells #[.pointer (some ⟨a.b,0,none⟩)] 22)).cell? ⟨W0.heap.size,0,none⟩∧W.cell? ⟨a.b,0,none⟩=(W0.alloc (.cells #[.pointer (some ⟨a.b,0,none⟩)] 22)).cell? ⟨a.b,0,none⟩∧W.cell? ⟨a.b,1,none⟩=(W0.alloc (.cells #[.pointer (some ⟨a.b,0,none⟩)] 22)).cell? ⟨a.b,1,none⟩) ⟨rfl,rfl,rfl⟩ fun _=>?_
  simp only [Zh,pD,zD,zE,zF,zG,zH,zI,zJ,zK]
  iterate 9
   first | refine Za _ ?_ | refine Zb ?_
   simp only [Act.put,zA,zB,zC]
  refine Z5 (fun K hK=>?_);go_simp
  have hb1:Below (W0.alloc (.cells #[.pointer (some ⟨a.b,0,none⟩)] 22)).heap.size (W0.alloc (.cells #[.pointer (some ⟨a.b,0,none⟩)] 22)) ((W0.alloc (.cells #[.pointer (some ⟨a.b,0,none⟩)] 22)).alloc (.cells #[.string ⟨#[118,97,114,32]⟩,.string ⟨#[108,101,116,32]⟩,.string ⟨#[99,111,110,115,116,32]⟩] 9)).drew:=((Y8 _ _).alloc (Y5 _) _).drew;have HB1:=zT HBA hb1;have HD1:=zT HDA hb1;clear hb1;refine hK _ _ ⟨(ob HD1.out HXB.out).trans xb.symm,(ob HB1.out c0).trans x0.symm,(ob HB1.out c1).trans x1.symm⟩ ?_;clear hK K
  have z0:((W0.alloc (.cells #[.pointer (some ⟨a.b,0,none⟩)] 22)).alloc (.cells #[.string ⟨#[118,97,114,32]⟩,.string ⟨#[108,101,116,32]⟩,.string ⟨#[99,111,110,115,116,32]⟩] 9)).drew.cell? ⟨(W0.alloc (.cells #[.pointer (some ⟨a.b,0,none⟩)] 22)).heap.size,0,none⟩=some (.string ⟨#[118,97,114,32]⟩):=World.cell?_alloc_new _ _ _ 0
  have z1:((W0.alloc (.cells #[.pointer (some ⟨a.b,0,none⟩)] 22)).alloc (.cells #[.string ⟨#[118,97,114,32]⟩,.string ⟨#[108,101,116,32]⟩,.string ⟨#[99,111,110,115,116,32]⟩] 9)).drew.cell? ⟨(W0.alloc (.cells #[.pointer (some ⟨a.b,0,none⟩)] 22)).heap.size,1,none⟩=some (.string ⟨#[108,101,116,32]⟩):=World.cell?_alloc_new _ _ _ 1
  have z2:((W0.alloc (.cells #[.pointer (some ⟨a.b,0,none⟩)] 22)).alloc (.cells #[.string ⟨#[118,97,114,32]⟩,.string ⟨#[108,101,116,32]⟩,.string ⟨#[99,111,110,115,116,32]⟩] 9)).drew.cell? ⟨(W0.alloc (.cells #[.pointer (some ⟨a.b,0,none⟩)] 22)).heap.size,2,none⟩=some (.string ⟨#[99,111,110,115,116,32]⟩):=World.cell?_alloc_new _ _ _ 2;refine Z5 (fun K hK=>?_);go_simp
  refine hK _ _ ⟨(ob HD1.out HXB.out).trans xb.symm,(ob HB1.out c0).trans x0.symm,(ob HB1.out c1).trans x1.symm⟩ ?_;clear hK K;refine Z5 (fun K hK=>?_);go_simp
  refine hK _ _ ⟨(ob HD1.out HXB.out).trans xb.symm,(ob HB1.out c0).trans x0.symm,(ob HB1.out c1).trans x1.symm⟩ ?_;clear hK K;refine Z6 ?_;clear z0 z1 z2 x0 x1 x3 xb;obtain ⟨V,hV⟩:=zX (((W0.alloc (.cells #[.pointer (some ⟨a.b,0,none⟩)] 22)).alloc (.cells #[.string ⟨#[118,97,114,32]⟩,.string ⟨#[108,101,116,32]⟩,.string ⟨#[99,111,110,115,116,32]⟩] 9)).drew)
  rw [← hV] at HB1 HD1 ⊢;clear hV;have x3:=ob HB1.out c3;have xb:=ob HD1.out HXB.out;go_wp2;go_ret;exact ⟨rfl,HCA.out.trans (HD1.out.mono HCA.out.size)⟩
theorem Zas (a:ATree) (hT:TreeAt w0 Bt a) (k:Int) (wd:ByteArray) (hK:(k=2∧wd=⟨#[118,97,114,32]⟩)∨(k=3∧wd=⟨#[108,101,116,32]⟩)∨(k=4∧wd=⟨#[99,111,110,115,116,32]⟩)) (h1:a.kind=k) (x:ATree) (hks:a.kids=[x]) (X:ByteArray) (hx:RC w0 a 0 X) (sX:X.size≤100000000) (sT:a.text.size≤100000000):RS' w0 a (wd ++ a.text ++ (⟨#[32,61,32]⟩ ++ X) ++ ⟨#[59]⟩):=by
 have c0:=hT.c0;rw [h1] at c0;have c1:=hT.c1;obtain ⟨g,cp,c3,hge2,hmx,hgl,hk⟩:=Z3a hT hks 1 rfl (by decide);have HX:=lh hx;intro W0 hB;obtain ⟨HBA,HCA,HDA,HXB⟩:=boxF hB (.pointer (some ⟨a.b,0,none⟩)) 22;have xb:=HXB.out;have x0:=ob HBA.out c0;have x1:=ob HBA.out c1;have x3:=ob HBA.out c3;have q1:¬ 9223372036854775807 < 4 + a.text.size:=by omega
 have q2:¬ 9223372036854775807 < 4 + a.text.size + (3 + X.size):=by omega
 have q3:¬ 9223372036854775807 < 4 + a.text.size + (3 + X.size) + 1:=by omega
 have q4:¬ 9223372036854775807 < 6 + a.text.size:=by omega
 have q5:¬ 9223372036854775807 < 6 + a.text.size + (3 + X.size):=by omega
 have q6:¬ 9223372036854775807 < 6 + a.text.size + (3 + X.size) + 1:=by omega
 have q7:¬ 9223372036854775807 < 3 + X.size:=by omega
 clear hB hT h1 hks sT hk hx sX;unfold ATree.ptr;rcases hK with ⟨rfl,rfl⟩ | ⟨rfl,rfl⟩ | ⟨rfl,rfl⟩
 all_goals
  go_enter Tryz.func26,Tryz.ntmps26
  go_wp2_with fail
  refine Zf [2,4,6,8,10,16,18,20,22,1,13,15] [12,13] (fun W=>W.cell? ⟨W0.heap.size,0,none⟩=(W0.alloc (.cells #[.pointer (some ⟨a.b,0,none⟩)] 22)).cell? ⟨W0.heap.size,0,none⟩∧W.cell? ⟨a.b,0,none⟩=(W0.alloc (.cells #[.pointer (some ⟨a.b,0,none⟩)] 22)).cell? ⟨a.b,0,none⟩∧W.cell? ⟨a.b,1,none⟩=(W0.alloc (.cells #[.pointer (some ⟨a.b,0,none⟩)] 22)).cell? ⟨a.b,1,none⟩) ⟨rfl,rfl,rfl⟩ fun _=>?_
  simp only [Zh,pD,zD,zE,zF,zG,zH,zI,zJ,zK]
  iterate 9
   first | refine Za _ ?_ | refine Zb ?_
   simp only [Act.put,zA,zB,zC]
  refine Z5 (fun K hK=>?_);go_simp
  have hb1:Below (W0.alloc (.cells #[.pointer (some ⟨a.b,0,none⟩)] 22)).heap.size (W0.alloc (.cells #[.pointer (some ⟨a.b,0,none⟩)] 22)) ((W0.alloc (.cells #[.pointer (some ⟨a.b,0,none⟩)] 22)).alloc (.cells #[.string ⟨#[118,97,114,32]⟩,.string ⟨#[108,101,116,32]⟩,.string ⟨#[99,111,110,115,116,32]⟩] 9)).drew:=((Y8 _ _).alloc (Y5 _) _).drew;have HB1:=zT HBA hb1;have HD1:=zT HDA hb1;clear hb1;refine hK _ _ ⟨(ob HD1.out HXB.out).trans xb.symm,(ob HB1.out c0).trans x0.symm,(ob HB1.out c1).trans x1.symm⟩ ?_;clear hK K
  have z0:((W0.alloc (.cells #[.pointer (some ⟨a.b,0,none⟩)] 22)).alloc (.cells #[.string ⟨#[118,97,114,32]⟩,.string ⟨#[108,101,116,32]⟩,.string ⟨#[99,111,110,115,116,32]⟩] 9)).drew.cell? ⟨(W0.alloc (.cells #[.pointer (some ⟨a.b,0,none⟩)] 22)).heap.size,0,none⟩=some (.string ⟨#[118,97,114,32]⟩):=World.cell?_alloc_new _ _ _ 0
  have z1:((W0.alloc (.cells #[.pointer (some ⟨a.b,0,none⟩)] 22)).alloc (.cells #[.string ⟨#[118,97,114,32]⟩,.string ⟨#[108,101,116,32]⟩,.string ⟨#[99,111,110,115,116,32]⟩] 9)).drew.cell? ⟨(W0.alloc (.cells #[.pointer (some ⟨a.b,0,none⟩)] 22)).heap.size,1,none⟩=some (.string ⟨#[108,101,116,32]⟩):=World.cell?_alloc_new _ _ _ 1
  have z2:((W0.alloc (.cells #[.pointer (some ⟨a.b,0,none⟩)] 22)).alloc (.cells #[.string ⟨#[118,97,114,32]⟩,.string ⟨#[108,101,116,32]⟩,.string ⟨#[99,111,110,115,116,32]⟩] 9)).drew.cell? ⟨(W0.alloc (.cells #[.pointer (some ⟨a.b,0,none⟩)] 22)).heap.size,2,none⟩=some (.string ⟨#[99,111,110,115,116,32]⟩):=World.cell?_alloc_new _ _ _ 2;refine Z5 (fun K hK=>?_);go_simp
  refine hK _ _ ⟨(ob HD1.out HXB.out).trans xb.symm,(ob HB1.out c0).trans x0.symm,(ob HB1.out c1).trans x1.symm⟩ ?_;clear hK K;refine Z5 (fun K hK=>?_);go_simp
  refine hK _ _ ⟨(ob HD1.out HXB.out).trans xb.symm,(ob HB1.out c0).trans x0.symm,(ob HB1.out c1).trans x1.symm⟩ ?_;clear hK K;refine Z6 ?_;clear z0 z1 z2 x0 x1 x3 xb;obtain ⟨V,hV⟩:=zX (((W0.alloc (.cells #[.pointer (some ⟨a.b,0,none⟩)] 22)).alloc (.cells #[.string ⟨#[118,97,114,32]⟩,.string ⟨#[108,101,116,32]⟩,.string ⟨#[99,111,110,115,116,32]⟩] 9)).drew)
  rw [← hV] at HB1 HD1 ⊢;clear hV;have x3:=ob HB1.out c3;have xb:=ob HD1.out HXB.out;go_wp2_with fail
  refine (HX.out W0.heap.size _ HB1.out (ob HD1.out HXB.out)).mono ?_;rintro e w2 ⟨rfl,hb2⟩;have HB2:=zT HB1 hb2;have HD2:=zT HD1 hb2;clear hb2;go_wp2;go_ret;exact ⟨rfl,HCA.out.trans (HD2.out.mono HCA.out.size)⟩
end
section
variable {w0:World} {Bt:Nat}
theorem Zdx (a:ATree) (hT:TreeAt w0 Bt a) (h1:a.kind=6) (L:List ATree) (hks:a.kids=L) (Xs:List ByteArray) (hE:Each (RS' w0) L Xs) (hlen:L.length≤1500) (hsz:(Z6o Xs ⟨#[32]⟩).size≤100000000):RS' w0 a (⟨#[123]⟩ ++ Z6o Xs ⟨#[32]⟩ ++ ⟨#[125]⟩):=by
 have c0:=hT.c0;rw [h1] at c0;have c3:=hT.c3;have hSL:=Z4j hT;rw [hks] at hSL;intro W hB;have HB0:=lh hB;have HC0:Hid (Below W.heap.size W (W.alloc (.cells #[.pointer (some ⟨a.b,0,none⟩)] 22))):=lh ((Y8 _ _).alloc (Y5 _) _);obtain ⟨p,cp,hvv,hge,hmx,hk⟩:=hSL;obtain ⟨i0,hi,hz0,hz1,hz2⟩:=info_parts Tryz.infoStrD;have HK:=lh hk;have HE:=lh hE;obtain ⟨n,hn⟩:=zX L.length
 have HN:=lh hn;rw [← hn] at hge hlen;rw [hvv,← hn] at c3;unfold maxLen at hmx;have hba:Below w0.heap.size w0 (W.alloc (.cells #[.pointer (some ⟨a.b,0,none⟩)] 22)):=hB.alloc hB.size _;have xb:(W.alloc (.cells #[.pointer (some ⟨a.b,0,none⟩)] 22)).cell? ⟨W.heap.size,0,none⟩=some (.pointer (some ⟨a.b,0,none⟩)):=World.cell?_alloc_new _ _ _ 0;have x0:=ob hba c0;have x3:=ob hba c3;have q1:¬ 9223372036854775807 < 1 + (Z6o Xs ⟨#[32]⟩).size:=by omega
 have q2:¬ 9223372036854775807 < 1 + (Z6o Xs ⟨#[32]⟩).size + 1:=by omega
 clear hT h1 hks hB hk hE hn hvv hba c0 c3;unfold ATree.ptr;go_enter Tryz.func26,Tryz.ntmps26
 go_wp2_with fail
 go_loopw [5,7,59] (fun v _ i wr=>∃ k:Nat,k≤n∧i=.int .i64 k∧Hid (wr.ownsRow W.heap.size 9 1 v k ((Xs.take k).map Value.string))∧Hid (Below W.heap.size W wr)) (fun _ _ i _=>n - (intOf i).toNat)
 case atStart=>exact ⟨0,by omega,rfl,lh (World.ownsRow_nil _ _ _ _),HC0⟩
 case round=>
  obtain ⟨k,hkn,rfl,HO,HC⟩:=hrel;by_cases hlt:k < n
  ·obtain ⟨x, hx⟩ : ∃ x, L[k]? = some x := ⟨_, Yd (by rw [← HN.out]; exact hlt)⟩
   obtain ⟨tx,htx,hrx⟩:=HE.out.2 k x hx;obtain ⟨g,off,rfl,hc⟩:=HK.out k x hx;have cx:=ob (HB0.out.trans (HC.out.mono HB0.out.size)) hc;have HRX:=lh hrx;have HTX:=lh htx;unfold ATree.ptr at cx;have hkI:((k:Nat):Int) < (n:Int):=by omega
   have HBk:=lh (HB0.out.trans (HC.out.mono HB0.out.size));clear hc hx htx hrx;go_wp2_with fail
   refine (HRX.out _ HBk.out).mono ?_;rintro e w2 ⟨rfl,hb2⟩;have HO1:Hid (w2.ownsRow W.heap.size 9 1 u5 k ((Xs.take k).map Value.string)):=lh (Zq HO.out fun j hj=>hb2.block j (Yh HO.out j hj).2);have HC2:=zT HC hb2;have hz2s:=HC2.out.size;clear hb2 HO
   go_wp2_with (at_builtin; go_must (refine wpList_append_lies _ rfl (.tmp 63) (.tmp 66) 76 rfl W.heap.size 9 i0 (.string ByteArray.empty) 1 16 Tryz.underlying76 hi hz0 hz1 hz2 rfl (by decide) _ k ((Xs.take k).map Value.string) rfl (HO1.out.alloc _) ⟨w2.heap.size,0,none⟩ 1 1 [.string tx] rfl rfl (cell_one_new _ _ _) (by intro u hu; simp at hu; subst hu; rfl) (by omega) (by unfold maxLen; omega) (by omega) (by simp; omega) (w2.heap.size + 1) (by simp) ?_); intro g' cap w3 hown3 hgrow3 hat3 hgl3; have HG3:=lh hgrow3; have HW3:=lh hown3; clear hgrow3 hown3 hat3 hgl3)
   go_roundw
   case rel=>
    refine ⟨k + 1,by omega,by go_num,lh ?_,lh ?_⟩
    ·rw [List.take_add_one,HTX.out,Yu];exact HW3.out
    ·exact (HC2.out.alloc HC2.out.size _).grown HG3.out (by have:=HC2.out.size; simp; omega) fun j hj=>(Yh HO1.out j hj).1
   case measure=>simp [intOf]; omega
  ·have hkn2 : k = n := by omega
   subst hkn2;have ho:=HO.out;have ek:k=Xs.length:=by rw [HE.out.1,← HN.out]
   rw [Ym (by omega),ek] at ho;have HF:=lh (Zbg ho ⟨#[32]⟩ (by omega) hsz);clear ho ek;clear HO;go_wp2_with fail
   refine HF.out.mono ?_;rintro e w3 ⟨rfl,hb3⟩;have HC3:=zT HC hb3;clear hb3;go_wp2;go_ret;exact ⟨rfl,HC3.out⟩
end
section
variable {w0:World} {Bt:Nat}
def RH (w0:World) (Bt:Nat) (y:ATree) (P:ByteArray):Prop:=TreeAt w0 Bt y∧∃ c Z,y.kids=[c]∧RS' w0 c Z∧Z.size≤100000000∧y.text.size≤100000000∧(y.kind=13∧P=⟨#[32,99,97,116,99,104,32,40]⟩ ++ y.text ++ ⟨#[41,32]⟩ ++ Z∨y.kind=14∧P=⟨#[32,102,105,110,97,108,108,121,32]⟩ ++ Z)
theorem Zjd (S:ByteArray) (Ps:List ByteArray) (P:ByteArray) (k:Nat) (h:Ps[k]?=some P):(Ps.take (k + 1)).foldl (· ++ ·) S=(Ps.take k).foldl (· ++ ·) S ++ P:=by
 rw [List.take_add_one,h,Option.toList_some,List.foldl_append];rfl
theorem Zgx (a:ATree) (hT:TreeAt w0 Bt a) (h1:a.kind=12) (x:ATree) (r:List ATree) (hks:a.kids=x :: r) (X:ByteArray) (hx:RS' w0 x X) (Ps:List ByteArray) (hE:Each (RH w0 Bt) r Ps) (hr1:1≤r.length) (hr2:r.length≤2) (sX:X.size≤100000000) (sS:∀ k,((Ps.take k).foldl (· ++ ·) (⟨#[116,114,121,32]⟩ ++ X)).size≤1000000000):RS' w0 a (Ps.foldl (· ++ ·) (⟨#[116,114,121,32]⟩ ++ X)):=by
 have c0:=hT.c0;rw [h1] at c0;have c1:=hT.c1;obtain ⟨g,cp,c3',hge,hmx,hgl,hk⟩:=Z5q hT (by rw [hks]; simp);obtain ⟨pn,hpn⟩:=zX r.length
 have c3:w0.cell? ⟨a.b,3,none⟩=some (.slice (some ⟨g,0,none⟩) (pn + 1) cp):=by rw [hks] at c3'; rw [hpn]; exact c3'
 have hge2:pn + 1≤cp:=by rw [hks] at hge; rw [hpn]; exact hge
 unfold maxLen at hmx;have k0:=hk 0 x (by rw [hks]; rfl);unfold ATree.ptr at k0;have hkr:∀ (i:Nat) (y:ATree),r[i]?=some y→w0.cell? ⟨g,1 + i,none⟩=some (.pointer (some ⟨y.b,0,none⟩)):=fun i y hy=>by
  have:=hk (i + 1) y (by rw [hks]; exact hy);rwa [Nat.add_comm] at this
 rw [← hpn] at hr1 hr2;have HK:=lh hkr;have HE:=lh hE;have HN:=lh hpn;have HS:=lh sS;have HX:=lh hx;have hcp:¬ cp=1:=by omega
 have hpI:(1:Int)≤(pn:Int) + 1:=by omega
 intro W0 hB;obtain ⟨HBA,HCA,HDA,HXB⟩:=boxF hB (.pointer (some ⟨a.b,0,none⟩)) 22;have xb:=HXB.out;have x0:=ob HBA.out c0;have x3:=ob HBA.out c3;have y0:=ob HBA.out k0;have q1:¬ 9223372036854775807 < 4 + X.size:=by omega
 clear hB hT h1 hks c3' hge hk hkr hx hE sX sS hpn;unfold RS' ATree.ptr at HX;unfold ATree.ptr;go_enter Tryz.func26,Tryz.ntmps26
 go_wp2_with fail
 refine (HX.out _ HBA.out).mono ?_;rintro e w1 ⟨rfl,hb1⟩;have HB1:=zT HBA hb1;have HD1:=zT HDA hb1;clear hb1;have x3:=ob HB1.out c3;have xb:=ob HD1.out HXB.out;obtain ⟨S0,hS0⟩:=zX (⟨#[116,114,121,32]⟩ ++ X)
 have HS0:=lh hS0;clear hS0;go_wp2_with fail
 rw [← HS0.out];rw [← HS0.out] at HS;go_loopw [9,11,166] (fun s _ i wr=>∃ k:Nat,k≤pn∧i=.int .i64 k∧s=.string ((Ps.take k).foldl (· ++ ·) S0)∧Hid (Below w1.heap.size w1 wr)) (fun _ _ i _=>pn - (intOf i).toNat)
 case atStart=>exact ⟨0,by omega,rfl,rfl,lh (Y8 _ _)⟩
 case round=>
  obtain ⟨k,hkn,rfl,rfl,HC⟩:=hrel;clear HX;have HBk:=lh (HB1.out.trans (HC.out.mono HB1.out.size));have HDk:=lh (HD1.out.trans (HC.out.mono HD1.out.size));by_cases hlt:k < pn
  ·obtain ⟨y, hy⟩ : ∃ y, r[k]? = some y := ⟨_, Yd (by rw [← HN.out]; exact hlt)⟩
   obtain ⟨P,hP,hTy,c,Z,hyk,hz,sZ,sT,hcase⟩:=HE.out.2 k y hy;have cx:=ob HBk.out (HK.out k y hy);have d0:=hTy.c0;have d1:=hTy.c1;obtain ⟨gy,cpy,d3',hgey,hmxy,hgly,hky⟩:=Z5q hTy (by rw [hyk]; simp);have d3:w0.cell? ⟨y.b,3,none⟩=some (.slice (some ⟨gy,0,none⟩) 1 cpy):=by rw [hyk] at d3'; exact d3'
   have hgey2:1≤cpy:=by rw [hyk] at hgey; exact hgey
   have dk:=hky 0 c (by rw [hyk]; rfl);unfold ATree.ptr at dk;unfold maxLen at hmxy;have HZ:=lh hz;unfold RS' ATree.ptr at HZ;have hacc:=HS.out k;have HP:=lh (Zjd S0 Ps P k hP);obtain ⟨acc,hac⟩:=zX ((Ps.take k).foldl (· ++ ·) S0)
   rw [← hac] at hacc HP ⊢;have hkI:((k:Nat):Int) < (pn:Int):=by omega
   rcases hcase with ⟨e13,hPe⟩ | ⟨e14,hPe⟩
   ·rw [e13] at d0;have z0 := ob HBk.out d0;have z1 := ob HBk.out d1;have z3 := ob HBk.out d3;have zk := ob HBk.out dk;have HPE := lh hPe;have q2 : ¬ 9223372036854775807 < 8 + y.text.size := by omega
    have q3:¬ 9223372036854775807 < 8 + y.text.size + 2:=by omega
    have q4:¬ 9223372036854775807 < 8 + y.text.size + 2 + Z.size:=by omega
    have q5:¬ 9223372036854775807 < acc.size + (8 + y.text.size + 2 + Z.size):=by omega
    clear hTy hyk hz hky d3' hgey hP hy hac hPe e13 hacc sZ sT;go_wp2_with fail
    refine Z6q [(true,0),(true,1),(true,2),(true,3),(true,4),(true,5),(true,6),(true,7),(true,8),(true,9),(true,10),(true,11),(true,12),(false,13),(true,14)] [15,16] (fun W=>W.cell? ⟨y.b,1,none⟩=some (.string y.text)∧W.cell? ⟨y.b,3,none⟩=some (.slice (some ⟨gy,0,none⟩) 1 cpy)∧W.cell? ⟨gy,0,none⟩=some (.pointer (some ⟨c.b,0,none⟩))) (by kernel_rfl) (by kernel_rfl) (fun _ _ d _ _ h=>by cases d <;> exact h) ⟨z1,z3,zk⟩ (fun hS0=>?_)
    simp only [Zh,List.filterMap_cons,List.filterMap_nil,List.getElem?_toArray,List.getElem?_cons_zero,List.getElem?_cons_succ,Option.map_some]
    iterate 13
     first | refine Za _ ?_ | refine Zb ?_
     simp only [Act.put,zA,zB,zC]
    have HBkd:=lh HBk.out.drew;have HCkd:=lh HC.out.drew;have HDkd:=lh HDk.out.drew;refine Z5 (fun K hK=>?_);go_simp
    refine (HZ.out _ HBkd.out).mono ?_;rintro e w2 ⟨rfl,hb2⟩;have HB2:=zT HBkd hb2;have HC2:=zT HCkd hb2;clear hb2;refine hK _ _ ⟨ob HB2.out d1,ob HB2.out d3,ob HB2.out dk⟩ ?_;clear hK K
    iterate 1
     first | refine Za _ ?_ | refine Zb ?_
     simp only [Act.put,zA,zB,zC]
    refine Z6 ?_;go_wp2;go_roundw
    case rel=>exact ⟨k + 1,by omega,by go_num,by rw [HP.out,HPE.out],HC2⟩
    case measure=>simp [intOf]; omega
   ·rw [e14] at d0;have z0 := ob HBk.out d0;have z3 := ob HBk.out d3;have zk := ob HBk.out dk;have HPE := lh hPe;have q2 : ¬ 9223372036854775807 < 9 + Z.size := by omega
    have q3:¬ 9223372036854775807 < acc.size + (9 + Z.size):=by omega
    clear hTy hyk hz hky d3' hgey hP hy hac hPe e14 hacc sZ sT;go_wp2_with fail
    refine (HZ.out _ HBk.out).mono ?_;rintro e w2 ⟨rfl,hb2⟩;have HC2:=zT HC hb2;clear hb2;go_wp2;go_roundw
    case rel=>exact ⟨k + 1,by omega,by go_num,by rw [HP.out,HPE.out],HC2⟩
    case measure=>simp [intOf]; omega
  ·have hk2 : k = pn := by omega
   subst hk2;have hfin:(Ps.take k).foldl (· ++ ·) S0=Ps.foldl (· ++ ·) S0:=by rw [Ym (by rw [HE.out.1,← HN.out]; exact Y5 _)]
   rw [hfin];clear hfin;go_wp2;go_ret;exact ⟨by rw [← HS0.out]; rfl,HCA.out.trans (HDk.out.mono HCA.out.size)⟩
end
section
variable {w0:World} {Bt:Nat}
theorem Zl3 (a:ATree) (hT:TreeAt w0 Bt a) (h1:a.kind=15) (x:ATree) (hks:a.kids=[x]) (X:ByteArray) (hx:RC w0 a 0 X) (hn:0 < X.size) (sX:X.size≤100000000):RS' w0 a ((if Z6y X.data.toList then ⟨#[40]⟩ ++ X ++ ⟨#[41]⟩ else X) ++ ⟨#[59]⟩):=by
 have c0:=hT.c0;rw [h1] at c0;have c1:=hT.c1;obtain ⟨g,cp,c3,hge2,hmx,hgl,hk⟩:=Z3a hT hks 1 rfl (by decide);have k0:=hk 0 x rfl;have HX:=lh hx;obtain ⟨b2,hb2⟩:=zX (Lib.hasPrefix X.data.toList [102,117,110,99,116,105,111,110,40])
 obtain ⟨b3,hb3⟩:=zX (Lib.hasPrefix X.data.toList [102,117,110,99,116,105,111,110,32])
 have hby:=Z2a (text:=X) hn;obtain ⟨c,hc⟩:=zX (Zc X 0)
 have hb1:Lib.hasPrefix X.data.toList [123]=decide (c=123):=by
  have h0:X.data.toList[0]?=some (X.data.getD 0 0):=by
   have hms:0 < X.data.size:=hn;rw [Array.getElem?_toList,Array.getElem?_eq_getElem hms];unfold Array.getD;rw [dif_pos hms]; rfl
  cases hl:X.data.toList with
  | nil=>rw [hl] at h0; cases h0
  | cons u l =>
    rw [hl] at h0;simp only [List.getElem?_cons_zero,Option.some.injEq] at h0;have hcu:c=(u.toNat:Int):=by rw [hc,h0]; rfl
    rw [hcu];have key:u=123↔(u.toNat:Int)=123:=by
     constructor;·rintro rfl; rfl
     ·intro h; exact UInt8.toNat_inj.1 (by show u.toNat=123; omega)
    by_cases e:u=123;·rw [decide_eq_true (key.1 e),e]; simp [Lib.hasPrefix]
    ·rw [decide_eq_false (fun h=>e (key.2 h))]; simp [Lib.hasPrefix,List.isPrefixOf,Ne.symm e]
 have hst:Z6y X.data.toList=(decide (c=123) || b2 || b3):=by unfold Z6y; rw [hb1,hb2,hb3]
 rw [hst];obtain ⟨R,hR⟩:=zX ((if (decide (c=123) || b2 || b3)=true then ⟨#[40]⟩ ++ X ++ ⟨#[41]⟩ else X) ++ ⟨#[59]⟩)
 rw [← hR];have HR:=lh hR;clear hR;rw [← hc] at hby;have hy0:=hby.symm;have P2:Hid (∀ w,Calls Tryz.prog 31 #[.string X,.string ⟨#[102,117,110,99,116,105,111,110,40]⟩] w fun e w'=>e=.returned (.bool b2)∧w'=w):=lh fun w=>by rw [hb2]; exact Tryz.strings_HasPrefix X ⟨#[102,117,110,99,116,105,111,110,40]⟩ w
 have P3:Hid (∀ w,Calls Tryz.prog 31 #[.string X,.string ⟨#[102,117,110,99,116,105,111,110,32]⟩] w fun e w'=>e=.returned (.bool b3)∧w'=w):=lh fun w=>by rw [hb3]; exact Tryz.strings_HasPrefix X ⟨#[102,117,110,99,116,105,111,110,32]⟩ w
 have hnI:(0:Int) < (X.size:Int):=by omega
 intro W hB;obtain ⟨HBA,HCA,HDA,HXB⟩:=boxF hB (.pointer (some ⟨a.b,0,none⟩)) 22;have xb:=HXB.out;have x0:=ob HBA.out c0;have x3:=ob HBA.out c3;have q1:¬ 9223372036854775807 < 1 + X.size:=by omega
 have q2:¬ 9223372036854775807 < 1 + X.size + 1:=by omega
 have q3:¬ 9223372036854775807 < 1 + X.size + 1 + 1:=by omega
 have q4:¬ 9223372036854775807 < X.size + 1:=by omega
 clear hB hT h1 hks hk hx hby hc hb1 hb2 hb3 hst sX;unfold ATree.ptr;go_enter Tryz.func26,Tryz.ntmps26
 go_wp2_with fail
 refine (HX.out W.heap.size _ HBA.out (ob HDA.out HXB.out)).mono ?_;rintro e w1 ⟨rfl,hb1⟩;have HB1:=zT HBA hb1;have HD1:=zT HDA hb1;clear hb1;by_cases e1:c=123
 ·subst e1;have hr : R = ⟨#[40]⟩ ++ X ++ ⟨#[41]⟩ ++ ⟨#[59]⟩ := by rw [HR.out]; simp
  have HR:=lh hr;clear hr;go_wp2;go_ret;exact ⟨by rw [HR.out]; rfl,HCA.out.trans (HD1.out.mono HCA.out.size)⟩
 have n1:(c == 123)=false:=by simpa using e1
 have hr1:R=(if (b2 || b3)=true then ⟨#[40]⟩ ++ X ++ ⟨#[41]⟩ else X) ++ ⟨#[59]⟩:=by rw [HR.out,decide_eq_false e1,Bool.false_or]
 have HR:=lh hr1;clear e1 hr1;cases b2 with
 | true =>
   have hr:R=⟨#[40]⟩ ++ X ++ ⟨#[41]⟩ ++ ⟨#[59]⟩:=by rw [HR.out]; simp
   have HR:=lh hr;clear hr;go_wp2_with fail
   refine (P2.out _).mono ?_;rintro e w' ⟨rfl,hw'⟩;rw [hw'];clear hw' w';go_wp2;go_ret;exact ⟨by rw [HR.out]; rfl,HCA.out.trans (HD1.out.mono HCA.out.size)⟩
 | false =>
   cases b3 with
   | true =>
     have hr:R=⟨#[40]⟩ ++ X ++ ⟨#[41]⟩ ++ ⟨#[59]⟩:=by rw [HR.out]; simp
     have HR:=lh hr;clear hr;go_wp2_with fail
     refine (P2.out _).mono ?_;rintro e w' ⟨rfl,hw'⟩;rw [hw'];clear hw' w';go_wp2_with fail
     refine (P3.out _).mono ?_;rintro e w' ⟨rfl,hw'⟩;rw [hw'];clear hw' w';go_wp2;go_ret;exact ⟨by rw [HR.out]; rfl,HCA.out.trans (HD1.out.mono HCA.out.size)⟩
   | false =>
     have hr:R=X ++ ⟨#[59]⟩:=by rw [HR.out]; simp
     have HR:=lh hr;clear hr;go_wp2_with fail
     refine (P2.out _).mono ?_;rintro e w' ⟨rfl,hw'⟩;rw [hw'];clear hw' w';go_wp2_with fail
     refine (P3.out _).mono ?_;rintro e w' ⟨rfl,hw'⟩;rw [hw'];clear hw' w';go_wp2;go_ret;exact ⟨by rw [HR.out]; rfl,HCA.out.trans (HD1.out.mono HCA.out.size)⟩
end
def hdsL:List ByteArray:=[⟨#[118,97,114,32]⟩,⟨#[108,101,116,32]⟩,⟨#[99,111,110,115,116,32]⟩,⟨#[]⟩,⟨#[]⟩,⟨#[105,102,32]⟩,⟨#[119,104,105,108,101,32]⟩,⟨#[119,105,116,104,32]⟩,⟨#[114,101,116,117,114,110]⟩,⟨#[116,104,114,111,119]⟩]
def Z5b (w:World):Prop:=∀ j s,hdsL[j]?=some s→w.cell? ⟨1,j,none⟩=some (.string s)
theorem Zg7 {w0:World} {Bt:Nat} (a:ATree) (hT:TreeAt w0 Bt a) (k:Int) (j:Nat) (hd:ByteArray) (hK:(k=2∧j=0∧hd=⟨#[118,97,114,32]⟩)∨(k=3∧j=1∧hd=⟨#[108,101,116,32]⟩)) (h1:a.kind=k) (hks:a.kids=[]) (hH:Z5b w0) (hsz:a.text.size≤1000000):Z2e w0 a:=by
 have c0:=hT.c0;rw [h1] at c0;have c1:=hT.c1;obtain ⟨pp,cp,hpv,hge,hmx⟩:=hT.vOf;have c3:=hT.c3;rw [hpv,hks] at c3;simp only [List.length_nil] at c3;have hf:hdsL[j]?=some hd∧Z2y k=Z2y k∧Zd (Z2y k)=hd.data.toList∧hd.size≤6∧2≤k∧k≤4:=by
  rcases hK with ⟨rfl,rfl,rfl⟩ | ⟨rfl,rfl,rfl⟩ <;> exact ⟨rfl,rfl,rfl,by decide,by decide,by decide⟩
 obtain ⟨hf1,_,hf3,hz,hf5,hf6⟩:=hf;have h3:k=2∨k=3∨k=4:=by omega
 have ch:=hH j hd hf1;have hv:Zd (sP a.tree)=(hd.data.toList ++ a.text.data.toList) ++ [59]:=by
  obtain ⟨ab,av,ak,tx,an,aks⟩:=a;simp only [ATree.kind] at h1;try simp only [ATree.kids] at hks
  try simp only [ATree.text]
  subst h1;subst hks;simp only [Zr,ATree.tree]; rw [Zal h3,Z7,Z4,List.append_assoc,hf3]; rfl
 obtain ⟨tx,htx⟩:=zX a.text
 rw [← htx] at c1 hsz;obtain ⟨sx,hsx⟩:∃ sx:ByteArray,sx=hd ++ tx:=⟨_,rfl⟩
 have hsl:hd.data.toList ++ tx.data.toList=sx.data.toList:=by rw [hsx]; simp [ByteArray.data_append]
 simp only [← htx,hsl] at hv;have HSX:=lh hsx;have q1:¬ 9223372036854775807 < hd.size + tx.size:=by omega
 have q2:hd.size + tx.size≤2000000:=by omega
 have r0:IntKind.i64.wrap 0=0:=by decide
 have r1:IntKind.i64.wrap 1=1:=by decide
 have r2:IntKind.i64.wrap 2=2:=by decide
 clear htx hsx hsl hz;clear hT h1 hks hpv hge hH hf1 hf3 hf5 hf6 h3;intro B b l w hW hF;unfold Fits at hF;rw [hv] at hF ⊢;simp only [zL,zM,zN] at hF;have HW0:=lh hW;have HB0:Hid (Below B w w):=lh (Y8 _ _);unfold ATree.ptr;have x0_0:=HW0.out.cell c0;have x1_0:=HW0.out.cell c1;have x2_0:=HW0.out.cell ch;have x3_0:=HW0.out.cell c3;clear hW hv;rcases hK with ⟨rfl,rfl,hz_⟩ | ⟨rfl,rfl,hz_⟩;all_goals clear hz_
 all_goals
  go_enter Tryz.func23,Tryz.ntmps23
  go_wp2_with fail
  refine Zf [0,2,4,6,8,10,12,14,16,18,20,22,24] [13] (fun W=>W.cell? ⟨a.b,0,none⟩=w.cell? ⟨a.b,0,none⟩∧W.cell? ⟨a.b,1,none⟩=w.cell? ⟨a.b,1,none⟩∧∀ j,W.cell? ⟨1,j,none⟩=w.cell? ⟨1,j,none⟩) ⟨rfl,rfl,fun _=>rfl⟩ fun _=>?_;simp only [Zh,pD,zD,zE,zF,zG,zH,zI,zJ,zK]
  iterate 13
   first | refine Za _ ?_ | refine Zb ?_
   simp only [Act.put,zA,zB,zC]
  refine Z6 ?_;go_wp2_with fail
  have HW0:Hid (BW w0 B b l w.drew):=lh (HW0.out.keep ((Y8 _ _).drew));have HB0:Hid (Below B w w.drew):=lh (HB0.out.drew);rw [← HSX.out];refine (strA HW0 HB0 sx).mono ?_;rintro e w1 ⟨rfl,HW1,HB1⟩;have x0_1:=HW1.out.cell c0;have x1_1:=HW1.out.cell c3;go_wp2_with fail
  refine (Z5h HW1 HB1 59).mono ?_;rintro e w2 ⟨rfl,HW2,HB2⟩;have x0_2:=HW2.out.cell c0;have x1_2:=HW2.out.cell c3;go_wp2_with fail
  first | go_end0 | refine bodyPost_ret (results_none rfl _ _ _) rfl ?_
  exact ⟨rfl,by simpa using HW2.out,HB2.out⟩
theorem Zau {w0:World} {Bt:Nat} (a:ATree) (hT:TreeAt w0 Bt a) (k:Int) (j:Nat) (hd:ByteArray) (hK:(k=2∧j=0∧hd=⟨#[118,97,114,32]⟩)∨(k=3∧j=1∧hd=⟨#[108,101,116,32]⟩)∨(k=4∧j=2∧hd=⟨#[99,111,110,115,116,32]⟩)) (h1:a.kind=k) (x:ATree) (hks:a.kids=[x]) (hx:Z0e w0 x) (hH:Z5b w0) (hsz:a.text.size≤1000000):Z2e w0 a:=by
 have c0:=hT.c0;rw [h1] at c0;have c1:=hT.c1;obtain ⟨g,cp,c3,hge2,hmx,hgl,hk⟩:=Z3a hT hks 1 rfl (by decide);have k0:=hk 0 x rfl;have hf:hdsL[j]?=some hd∧Z2y k=Z2y k∧Zd (Z2y k)=hd.data.toList∧hd.size≤6∧2≤k∧k≤4:=by
  rcases hK with ⟨rfl,rfl,rfl⟩ | ⟨rfl,rfl,rfl⟩ | ⟨rfl,rfl,rfl⟩ <;> exact ⟨rfl,rfl,rfl,by decide,by decide,by decide⟩
 obtain ⟨hf1,_,hf3,hz,hf5,hf6⟩:=hf;have h3:k=2∨k=3∨k=4:=by omega
 have ch:=hH j hd hf1;have hv:Zd (sP a.tree)=(hd.data.toList ++ a.text.data.toList) ++ ([32,61,32] ++ (Zd (vP x.tree 0) ++ [59])):=by
  obtain ⟨ab,av,ak,tx,an,aks⟩:=a;simp only [ATree.kind] at h1;try simp only [ATree.kids] at hks
  try simp only [ATree.text]
  subst h1;subst hks;simp only [Zr,ATree.tree]; rw [Z8u h3,Z7,Z4,Z4,Z4,Z4,Z7,List.append_assoc,hf3]; rfl
 obtain ⟨tx,htx⟩:=zX a.text
 rw [← htx] at c1 hsz;obtain ⟨sx,hsx⟩:∃ sx:ByteArray,sx=hd ++ tx:=⟨_,rfl⟩
 have hsl:hd.data.toList ++ tx.data.toList=sx.data.toList:=by rw [hsx]; simp [ByteArray.data_append]
 simp only [← htx,hsl] at hv;have HSX:=lh hsx;have q1:¬ 9223372036854775807 < hd.size + tx.size:=by omega
 have q2:hd.size + tx.size≤2000000:=by omega
 have r0:IntKind.i64.wrap 0=0:=by decide
 have r1:IntKind.i64.wrap 1=1:=by decide
 have r2:IntKind.i64.wrap 2=2:=by decide
 clear htx hsx hsl hz;have hmx:=hx.says 0;obtain ⟨mx,emx⟩:=zX (Zd (vP x.tree 0))
 rw [← emx] at hmx;simp only [← emx] at hv;have Hmx:=lh hmx;clear emx hmx;clear hT h1 hks hk;clear hH hf1 hf3 hf5 hf6 h3;intro B b l w hW hF;unfold Fits at hF;rw [hv] at hF ⊢;simp only [zL,zM,zN] at hF;have HW0:=lh hW;have HB0:Hid (Below B w w):=lh (Y8 _ _);unfold ATree.ptr;have x0_0:=HW0.out.cell c0;have x1_0:=HW0.out.cell c1;have x2_0:=HW0.out.cell ch;have x3_0:=HW0.out.cell c3;have x4_0:=HW0.out.cell k0;clear hW hv;rcases hK with ⟨rfl,rfl,hz_⟩ | ⟨rfl,rfl,hz_⟩ | ⟨rfl,rfl,hz_⟩;all_goals clear hz_
 all_goals
  go_enter Tryz.func23,Tryz.ntmps23
  go_wp2_with fail
  refine Zf [0,2,4,6,8,10,12,14,16,18,20,22,24] [13] (fun W=>W.cell? ⟨a.b,0,none⟩=w.cell? ⟨a.b,0,none⟩∧W.cell? ⟨a.b,1,none⟩=w.cell? ⟨a.b,1,none⟩∧∀ j,W.cell? ⟨1,j,none⟩=w.cell? ⟨1,j,none⟩) ⟨rfl,rfl,fun _=>rfl⟩ fun _=>?_;simp only [Zh,pD,zD,zE,zF,zG,zH,zI,zJ,zK]
  iterate 13
   first | refine Za _ ?_ | refine Zb ?_
   simp only [Act.put,zA,zB,zC]
  refine Z6 ?_;go_wp2_with fail
  have HW0:Hid (BW w0 B b l w.drew):=lh (HW0.out.keep ((Y8 _ _).drew));have HB0:Hid (Below B w w.drew):=lh (HB0.out.drew);rw [← HSX.out];refine (strA HW0 HB0 sx).mono ?_;rintro e w1 ⟨rfl,HW1,HB1⟩;have x0_1:=HW1.out.cell c0;have x1_1:=HW1.out.cell c3;have x2_1:=HW1.out.cell c1;have x3_1:=HW1.out.cell ch;go_wp2_with fail
  refine (strA HW1 HB1 ⟨#[32,61,32]⟩).mono ?_;rintro e w2 ⟨rfl,HW2,HB2⟩;have x0_2:=HW2.out.cell c0;have x1_2:=HW2.out.cell c3;have x2_2:=HW2.out.cell k0;go_wp2_with fail
  refine (Z36 Hmx HW2 HB2).mono ?_;rintro e w3 ⟨rfl,HW3,HB3⟩;have x0_3:=HW3.out.cell c0;have x1_3:=HW3.out.cell c3;go_wp2_with fail
  refine (Z5h HW3 HB3 59).mono ?_;rintro e w4 ⟨rfl,HW4,HB4⟩;have x0_4:=HW4.out.cell c0;have x1_4:=HW4.out.cell c3;go_wp2_with fail
  first | go_end0 | refine bodyPost_ret (results_none rfl _ _ _) rfl ?_
  exact ⟨rfl,by simpa using HW4.out,HB4.out⟩
theorem Zk6 {w0:World} {Bt:Nat} (a:ATree) (hT:TreeAt w0 Bt a) (h1:a.kind=7) (x y:ATree) (hks:a.kids=[x,y]) (hx:Z0e w0 x) (hy:Z2e w0 y) (hH:Z5b w0):Z2e w0 a:=by
 have c0:=hT.c0;rw [h1] at c0;have c1:=hT.c1;obtain ⟨g,cp,c3,hge2,hmx,hgl,hk⟩:=Z3a hT hks 2 rfl (by decide);have k0:=hk 0 x rfl;have k1:=hk 1 y rfl;have ch:=hH 5 ⟨#[105,102,32]⟩ rfl;have hv:Zd (sP a.tree)=[105,102,32,40] ++ (Zd (vP x.tree 0) ++ ([41,32] ++ Zd (sP y.tree))):=by
  obtain ⟨ab,av,ak,tx,an,aks⟩:=a;simp only [ATree.kind] at h1;try simp only [ATree.kids] at hks
  try simp only [ATree.text]
  subst h1;subst hks;simp only [Zr,ATree.tree]; rw [Zb8 (by omega),Z7,Z4,Z7,Z4,Z4]; rfl
 have hmx:=hx.says 0;obtain ⟨mx,emx⟩:=zX (Zd (vP x.tree 0))
 rw [← emx] at hmx;simp only [← emx] at hv;have Hmx:=lh hmx;clear emx hmx;have hmy:=hy.says;obtain ⟨my,emy⟩:=zX (Zd (sP y.tree))
 rw [← emy] at hmy;simp only [← emy] at hv;have Hmy:=lh hmy;clear emy hmy;clear hT h1 hks hk;intro B b l w hW hF;unfold Fits at hF;rw [hv] at hF ⊢;simp only [zL,zM,zN] at hF;have HW0:=lh hW;have HB0:Hid (Below B w w):=lh (Y8 _ _);unfold ATree.ptr;have x0_0:=HW0.out.cell c0;have x1_0:=HW0.out.cell c3;have x2_0:=HW0.out.cell k0;have x3_0:=HW0.out.cell k1;have x4_0:=HW0.out.cell ch;clear hW hv;go_enter Tryz.func23,Tryz.ntmps23
 go_wp2_with fail
 refine (strA HW0 HB0 ⟨#[105,102,32,40]⟩).mono ?_;rintro e w1 ⟨rfl,HW1,HB1⟩;have x0_1:=HW1.out.cell c0;have x1_1:=HW1.out.cell c3;have x2_1:=HW1.out.cell k0;have x3_1:=HW1.out.cell k1;go_wp2_with fail
 refine (Z36 Hmx HW1 HB1).mono ?_;rintro e w2 ⟨rfl,HW2,HB2⟩;have x0_2:=HW2.out.cell c0;have x1_2:=HW2.out.cell c3;have x2_2:=HW2.out.cell ch;go_wp2_with fail
 refine (strA HW2 HB2 ⟨#[41,32]⟩).mono ?_;rintro e w3 ⟨rfl,HW3,HB3⟩;have x0_3:=HW3.out.cell c0;have x1_3:=HW3.out.cell c3;have x2_3:=HW3.out.cell k0;have x3_3:=HW3.out.cell k1;go_wp2_with fail
 refine (Z36 Hmy HW3 HB3).mono ?_;rintro e w4 ⟨rfl,HW4,HB4⟩;have x0_4:=HW4.out.cell c0;have x1_4:=HW4.out.cell c3;go_wp2_with fail
 first | go_end0 | refine bodyPost_ret (results_none rfl _ _ _) rfl ?_
 exact ⟨rfl,by simpa using HW4.out,HB4.out⟩
theorem Zkf {w0:World} {Bt:Nat} (a:ATree) (hT:TreeAt w0 Bt a) (h1:a.kind=8) (x y:ATree) (hks:a.kids=[x,y]) (hx:Z0e w0 x) (hy:Z2e w0 y) (hH:Z5b w0):Z2e w0 a:=by
 have c0:=hT.c0;rw [h1] at c0;have c1:=hT.c1;obtain ⟨g,cp,c3,hge2,hmx,hgl,hk⟩:=Z3a hT hks 2 rfl (by decide);have k0:=hk 0 x rfl;have k1:=hk 1 y rfl;have ch:=hH 6 ⟨#[119,104,105,108,101,32]⟩ rfl;have hv:Zd (sP a.tree)=[119,104,105,108,101,32,40] ++ (Zd (vP x.tree 0) ++ ([41,32] ++ Zd (sP y.tree))):=by
  obtain ⟨ab,av,ak,tx,an,aks⟩:=a;simp only [ATree.kind] at h1;try simp only [ATree.kids] at hks
  try simp only [ATree.text]
  subst h1;subst hks;simp only [Zr,ATree.tree]; rw [Zb8 (by omega),Z7,Z4,Z7,Z4,Z4]; rfl
 have hmx:=hx.says 0;obtain ⟨mx,emx⟩:=zX (Zd (vP x.tree 0))
 rw [← emx] at hmx;simp only [← emx] at hv;have Hmx:=lh hmx;clear emx hmx;have hmy:=hy.says;obtain ⟨my,emy⟩:=zX (Zd (sP y.tree))
 rw [← emy] at hmy;simp only [← emy] at hv;have Hmy:=lh hmy;clear emy hmy;clear hT h1 hks hk;intro B b l w hW hF;unfold Fits at hF;rw [hv] at hF ⊢;simp only [zL,zM,zN] at hF;have HW0:=lh hW;have HB0:Hid (Below B w w):=lh (Y8 _ _);unfold ATree.ptr;have x0_0:=HW0.out.cell c0;have x1_0:=HW0.out.cell c3;have x2_0:=HW0.out.cell k0;have x3_0:=HW0.out.cell k1;have x4_0:=HW0.out.cell ch;clear hW hv;go_enter Tryz.func23,Tryz.ntmps23
 go_wp2_with fail
 refine (strA HW0 HB0 ⟨#[119,104,105,108,101,32,40]⟩).mono ?_;rintro e w1 ⟨rfl,HW1,HB1⟩;have x0_1:=HW1.out.cell c0;have x1_1:=HW1.out.cell c3;have x2_1:=HW1.out.cell k0;have x3_1:=HW1.out.cell k1;go_wp2_with fail
 refine (Z36 Hmx HW1 HB1).mono ?_;rintro e w2 ⟨rfl,HW2,HB2⟩;have x0_2:=HW2.out.cell c0;have x1_2:=HW2.out.cell c3;have x2_2:=HW2.out.cell ch;go_wp2_with fail
 refine (strA HW2 HB2 ⟨#[41,32]⟩).mono ?_;rintro e w3 ⟨rfl,HW3,HB3⟩;have x0_3:=HW3.out.cell c0;have x1_3:=HW3.out.cell c3;have x2_3:=HW3.out.cell k0;have x3_3:=HW3.out.cell k1;go_wp2_with fail
 refine (Z36 Hmy HW3 HB3).mono ?_;rintro e w4 ⟨rfl,HW4,HB4⟩;have x0_4:=HW4.out.cell c0;have x1_4:=HW4.out.cell c3;go_wp2_with fail
 first | go_end0 | refine bodyPost_ret (results_none rfl _ _ _) rfl ?_
 exact ⟨rfl,by simpa using HW4.out,HB4.out⟩
theorem Zl9 {w0:World} {Bt:Nat} (a:ATree) (hT:TreeAt w0 Bt a) (h1:a.kind=9) (x y:ATree) (hks:a.kids=[x,y]) (hx:Z0e w0 x) (hy:Z2e w0 y) (hH:Z5b w0):Z2e w0 a:=by
 have c0:=hT.c0;rw [h1] at c0;have c1:=hT.c1;obtain ⟨g,cp,c3,hge2,hmx,hgl,hk⟩:=Z3a hT hks 2 rfl (by decide);have k0:=hk 0 x rfl;have k1:=hk 1 y rfl;have ch:=hH 7 ⟨#[119,105,116,104,32]⟩ rfl;have hv:Zd (sP a.tree)=[119,105,116,104,32,40] ++ (Zd (vP x.tree 0) ++ ([41,32] ++ Zd (sP y.tree))):=by
  obtain ⟨ab,av,ak,tx,an,aks⟩:=a;simp only [ATree.kind] at h1;try simp only [ATree.kids] at hks
  try simp only [ATree.text]
  subst h1;subst hks;simp only [Zr,ATree.tree]; rw [Zb8 (by omega),Z7,Z4,Z7,Z4,Z4]; rfl
 have hmx:=hx.says 0;obtain ⟨mx,emx⟩:=zX (Zd (vP x.tree 0))
 rw [← emx] at hmx;simp only [← emx] at hv;have Hmx:=lh hmx;clear emx hmx;have hmy:=hy.says;obtain ⟨my,emy⟩:=zX (Zd (sP y.tree))
 rw [← emy] at hmy;simp only [← emy] at hv;have Hmy:=lh hmy;clear emy hmy;clear hT h1 hks hk;intro B b l w hW hF;unfold Fits at hF;rw [hv] at hF ⊢;simp only [zL,zM,zN] at hF;have HW0:=lh hW;have HB0:Hid (Below B w w):=lh (Y8 _ _);unfold ATree.ptr;have x0_0:=HW0.out.cell c0;have x1_0:=HW0.out.cell c3;have x2_0:=HW0.out.cell k0;have x3_0:=HW0.out.cell k1;have x4_0:=HW0.out.cell ch;clear hW hv;go_enter Tryz.func23,Tryz.ntmps23
 go_wp2_with fail
 refine (strA HW0 HB0 ⟨#[119,105,116,104,32,40]⟩).mono ?_;rintro e w1 ⟨rfl,HW1,HB1⟩;have x0_1:=HW1.out.cell c0;have x1_1:=HW1.out.cell c3;have x2_1:=HW1.out.cell k0;have x3_1:=HW1.out.cell k1;go_wp2_with fail
 refine (Z36 Hmx HW1 HB1).mono ?_;rintro e w2 ⟨rfl,HW2,HB2⟩;have x0_2:=HW2.out.cell c0;have x1_2:=HW2.out.cell c3;have x2_2:=HW2.out.cell ch;go_wp2_with fail
 refine (strA HW2 HB2 ⟨#[41,32]⟩).mono ?_;rintro e w3 ⟨rfl,HW3,HB3⟩;have x0_3:=HW3.out.cell c0;have x1_3:=HW3.out.cell c3;have x2_3:=HW3.out.cell k0;have x3_3:=HW3.out.cell k1;go_wp2_with fail
 refine (Z36 Hmy HW3 HB3).mono ?_;rintro e w4 ⟨rfl,HW4,HB4⟩;have x0_4:=HW4.out.cell c0;have x1_4:=HW4.out.cell c3;go_wp2_with fail
 first | go_end0 | refine bodyPost_ret (results_none rfl _ _ _) rfl ?_
 exact ⟨rfl,by simpa using HW4.out,HB4.out⟩
theorem Zmp {w0:World} {Bt:Nat} (a:ATree) (hT:TreeAt w0 Bt a) (h1:a.kind=7) (x y z:ATree) (hks:a.kids=[x,y,z]) (hx:Z0e w0 x) (hy:Z2e w0 y) (hz:Z2e w0 z) (hH:Z5b w0):Z2e w0 a:=by
 have c0:=hT.c0;rw [h1] at c0;have c1:=hT.c1;obtain ⟨g,cp,c3,hge2,hmx,hgl,hk⟩:=Z3a hT hks 3 rfl (by decide);have k0:=hk 0 x rfl;have k1:=hk 1 y rfl;have k2:=hk 2 z rfl;have ch:=hH 5 ⟨#[105,102,32]⟩ rfl;have hv:Zd (sP a.tree)=[105,102,32,40] ++ (Zd (vP x.tree 0) ++ ([41,32] ++ (Zd (sP y.tree) ++ ([32,101,108,115,101,32] ++ Zd (sP z.tree))))):=by
  obtain ⟨ab,av,ak,tx,an,aks⟩:=a;simp only [ATree.kind] at h1;try simp only [ATree.kids] at hks
  try simp only [ATree.text]
  subst h1;subst hks;simp only [Zr,ATree.tree]; rw [Zll,Z7,Z4,Z7,Z4,Z4,Z7,Z4,Z4,Z4]; rfl
 have hmx:=hx.says 0;obtain ⟨mx,emx⟩:=zX (Zd (vP x.tree 0))
 rw [← emx] at hmx;simp only [← emx] at hv;have Hmx:=lh hmx;clear emx hmx;have hmy:=hy.says;obtain ⟨my,emy⟩:=zX (Zd (sP y.tree))
 rw [← emy] at hmy;simp only [← emy] at hv;have Hmy:=lh hmy;clear emy hmy;have hmz:=hz.says;obtain ⟨mz,emz⟩:=zX (Zd (sP z.tree))
 rw [← emz] at hmz;simp only [← emz] at hv;have Hmz:=lh hmz;clear emz hmz;clear hT h1 hks hk;intro B b l w hW hF;unfold Fits at hF;rw [hv] at hF ⊢;simp only [zL,zM,zN] at hF;have HW0:=lh hW;have HB0:Hid (Below B w w):=lh (Y8 _ _);unfold ATree.ptr;have x0_0:=HW0.out.cell c0;have x1_0:=HW0.out.cell c3;have x2_0:=HW0.out.cell k0;have x3_0:=HW0.out.cell k1;have x4_0:=HW0.out.cell k2;have x5_0:=HW0.out.cell ch;clear hW hv;go_enter Tryz.func23,Tryz.ntmps23
 go_wp2_with fail
 refine (strA HW0 HB0 ⟨#[105,102,32,40]⟩).mono ?_;rintro e w1 ⟨rfl,HW1,HB1⟩;have x0_1:=HW1.out.cell c0;have x1_1:=HW1.out.cell c3;have x2_1:=HW1.out.cell k0;have x3_1:=HW1.out.cell k1;have x4_1:=HW1.out.cell k2;go_wp2_with fail
 refine (Z36 Hmx HW1 HB1).mono ?_;rintro e w2 ⟨rfl,HW2,HB2⟩;have x0_2:=HW2.out.cell c0;have x1_2:=HW2.out.cell c3;have x2_2:=HW2.out.cell ch;go_wp2_with fail
 refine (strA HW2 HB2 ⟨#[41,32]⟩).mono ?_;rintro e w3 ⟨rfl,HW3,HB3⟩;have x0_3:=HW3.out.cell c0;have x1_3:=HW3.out.cell c3;have x2_3:=HW3.out.cell k0;have x3_3:=HW3.out.cell k1;have x4_3:=HW3.out.cell k2;go_wp2_with fail
 refine (Z36 Hmy HW3 HB3).mono ?_;rintro e w4 ⟨rfl,HW4,HB4⟩;have x0_4:=HW4.out.cell c0;have x1_4:=HW4.out.cell c3;have x2_4:=HW4.out.cell ch;go_wp2_with fail
 refine (strA HW4 HB4 ⟨#[32,101,108,115,101,32]⟩).mono ?_;rintro e w5 ⟨rfl,HW5,HB5⟩;have x0_5:=HW5.out.cell c0;have x1_5:=HW5.out.cell c3;have x2_5:=HW5.out.cell k0;have x3_5:=HW5.out.cell k1;have x4_5:=HW5.out.cell k2;go_wp2_with fail
 refine (Z36 Hmz HW5 HB5).mono ?_;rintro e w6 ⟨rfl,HW6,HB6⟩;have x0_6:=HW6.out.cell c0;have x1_6:=HW6.out.cell c3;go_wp2_with fail
 first | go_end0 | refine bodyPost_ret (results_none rfl _ _ _) rfl ?_
 exact ⟨rfl,by simpa using HW6.out,HB6.out⟩
theorem Ziv {w0:World} {Bt:Nat} (a:ATree) (hT:TreeAt w0 Bt a) (h1:a.kind=10) (x:ATree) (hks:a.kids=[x]) (hx:Z0e w0 x) (hH:Z5b w0):Z2e w0 a:=by
 have c0:=hT.c0;rw [h1] at c0;have c1:=hT.c1;obtain ⟨g,cp,c3,hge2,hmx,hgl,hk⟩:=Z3a hT hks 1 rfl (by decide);have k0:=hk 0 x rfl;have ch:=hH 8 ⟨#[114,101,116,117,114,110]⟩ rfl;have hv:Zd (sP a.tree)=[114,101,116,117,114,110] ++ (32 :: (Zd (vP x.tree 0) ++ [59])):=by
  obtain ⟨ab,av,ak,tx,an,aks⟩:=a;simp only [ATree.kind] at h1;try simp only [ATree.kids] at hks
  try simp only [ATree.text]
  subst h1;subst hks;simp only [Zr,ATree.tree]; rw [Zc0 (by omega),Z7,Z4,Z7]; rfl
 have hmx:=hx.says 0;obtain ⟨mx,emx⟩:=zX (Zd (vP x.tree 0))
 rw [← emx] at hmx;simp only [← emx] at hv;have Hmx:=lh hmx;clear emx hmx;clear hT h1 hks hk;intro B b l w hW hF;unfold Fits at hF;rw [hv] at hF ⊢;simp only [zL,zM,zN] at hF;have HW0:=lh hW;have HB0:Hid (Below B w w):=lh (Y8 _ _);unfold ATree.ptr;have x0_0:=HW0.out.cell c0;have x1_0:=HW0.out.cell c3;have x2_0:=HW0.out.cell k0;have x3_0:=HW0.out.cell ch;clear hW hv;go_enter Tryz.func23,Tryz.ntmps23
 go_wp2_with fail
 refine (strA HW0 HB0 ⟨#[114,101,116,117,114,110]⟩).mono ?_;rintro e w1 ⟨rfl,HW1,HB1⟩;have x0_1:=HW1.out.cell c0;have x1_1:=HW1.out.cell c3;go_wp2_with fail
 refine (Z5h HW1 HB1 32).mono ?_;rintro e w2 ⟨rfl,HW2,HB2⟩;have x0_2:=HW2.out.cell c0;have x1_2:=HW2.out.cell c3;have x2_2:=HW2.out.cell k0;go_wp2_with fail
 refine (Z36 Hmx HW2 HB2).mono ?_;rintro e w3 ⟨rfl,HW3,HB3⟩;have x0_3:=HW3.out.cell c0;have x1_3:=HW3.out.cell c3;go_wp2_with fail
 refine (Z5h HW3 HB3 59).mono ?_;rintro e w4 ⟨rfl,HW4,HB4⟩;have x0_4:=HW4.out.cell c0;have x1_4:=HW4.out.cell c3;go_wp2_with fail
 first | go_end0 | refine bodyPost_ret (results_none rfl _ _ _) rfl ?_
 exact ⟨rfl,by simpa using HW4.out,HB4.out⟩
theorem Zhu {w0:World} {Bt:Nat} (a:ATree) (hT:TreeAt w0 Bt a) (h1:a.kind=11) (x:ATree) (hks:a.kids=[x]) (hx:Z0e w0 x) (hH:Z5b w0):Z2e w0 a:=by
 have c0:=hT.c0;rw [h1] at c0;have c1:=hT.c1;obtain ⟨g,cp,c3,hge2,hmx,hgl,hk⟩:=Z3a hT hks 1 rfl (by decide);have k0:=hk 0 x rfl;have ch:=hH 9 ⟨#[116,104,114,111,119]⟩ rfl;have hv:Zd (sP a.tree)=[116,104,114,111,119] ++ (32 :: (Zd (vP x.tree 0) ++ [59])):=by
  obtain ⟨ab,av,ak,tx,an,aks⟩:=a;simp only [ATree.kind] at h1;try simp only [ATree.kids] at hks
  try simp only [ATree.text]
  subst h1;subst hks;simp only [Zr,ATree.tree]; rw [Zc0 (by omega),Z7,Z4,Z7]; rfl
 have hmx:=hx.says 0;obtain ⟨mx,emx⟩:=zX (Zd (vP x.tree 0))
 rw [← emx] at hmx;simp only [← emx] at hv;have Hmx:=lh hmx;clear emx hmx;clear hT h1 hks hk;intro B b l w hW hF;unfold Fits at hF;rw [hv] at hF ⊢;simp only [zL,zM,zN] at hF;have HW0:=lh hW;have HB0:Hid (Below B w w):=lh (Y8 _ _);unfold ATree.ptr;have x0_0:=HW0.out.cell c0;have x1_0:=HW0.out.cell c3;have x2_0:=HW0.out.cell k0;have x3_0:=HW0.out.cell ch;clear hW hv;go_enter Tryz.func23,Tryz.ntmps23
 go_wp2_with fail
 refine (strA HW0 HB0 ⟨#[116,104,114,111,119]⟩).mono ?_;rintro e w1 ⟨rfl,HW1,HB1⟩;have x0_1:=HW1.out.cell c0;have x1_1:=HW1.out.cell c3;go_wp2_with fail
 refine (Z5h HW1 HB1 32).mono ?_;rintro e w2 ⟨rfl,HW2,HB2⟩;have x0_2:=HW2.out.cell c0;have x1_2:=HW2.out.cell c3;have x2_2:=HW2.out.cell k0;go_wp2_with fail
 refine (Z36 Hmx HW2 HB2).mono ?_;rintro e w3 ⟨rfl,HW3,HB3⟩;have x0_3:=HW3.out.cell c0;have x1_3:=HW3.out.cell c3;go_wp2_with fail
 refine (Z5h HW3 HB3 59).mono ?_;rintro e w4 ⟨rfl,HW4,HB4⟩;have x0_4:=HW4.out.cell c0;have x1_4:=HW4.out.cell c3;go_wp2_with fail
 first | go_end0 | refine bodyPost_ret (results_none rfl _ _ _) rfl ?_
 exact ⟨rfl,by simpa using HW4.out,HB4.out⟩
theorem Zkg {w0:World} {Bt:Nat} (a:ATree) (hT:TreeAt w0 Bt a) (h1:a.kind=10) (hks:a.kids=[]) (hH:Z5b w0):Z2e w0 a:=by
 have c0:=hT.c0;rw [h1] at c0;have c1:=hT.c1;obtain ⟨pp,cp,hpv,hge,hmx⟩:=hT.vOf;have c3:=hT.c3;rw [hpv,hks] at c3;simp only [List.length_nil] at c3;have ch:=hH 8 ⟨#[114,101,116,117,114,110]⟩ rfl;have hv:Zd (sP a.tree)=[114,101,116,117,114,110] ++ [59]:=by
  obtain ⟨ab,av,ak,tx,an,aks⟩:=a;simp only [ATree.kind] at h1;try simp only [ATree.kids] at hks
  try simp only [ATree.text]
  subst h1;subst hks;simp only [Zr,ATree.tree]; rw [Zgl (by omega),Z7]; rfl
 clear hT h1 hks hpv hge;intro B b l w hW hF;unfold Fits at hF;rw [hv] at hF ⊢;simp only [zL,zM,zN] at hF;have HW0:=lh hW;have HB0:Hid (Below B w w):=lh (Y8 _ _);unfold ATree.ptr;have x0_0:=HW0.out.cell c0;have x1_0:=HW0.out.cell c3;have x2_0:=HW0.out.cell ch;clear hW hv;go_enter Tryz.func23,Tryz.ntmps23
 go_wp2_with fail
 refine (strA HW0 HB0 ⟨#[114,101,116,117,114,110]⟩).mono ?_;rintro e w1 ⟨rfl,HW1,HB1⟩;have x0_1:=HW1.out.cell c0;have x1_1:=HW1.out.cell c3;go_wp2_with fail
 refine (Z5h HW1 HB1 59).mono ?_;rintro e w2 ⟨rfl,HW2,HB2⟩;have x0_2:=HW2.out.cell c0;have x1_2:=HW2.out.cell c3;go_wp2_with fail
 first | go_end0 | refine bodyPost_ret (results_none rfl _ _ _) rfl ?_
 exact ⟨rfl,by simpa using HW2.out,HB2.out⟩
theorem Zja {w0:World} {Bt:Nat} (a:ATree) (hT:TreeAt w0 Bt a) (h1:a.kind=16):Z2e w0 a:=by
 have c0:=hT.c0;rw [h1] at c0;have c1:=hT.c1;have hv:Zd (sP a.tree)=[59]:=by
  obtain ⟨ab,av,ak,tx,an,aks⟩:=a;simp only [ATree.kind] at h1;try simp only [ATree.text]
  subst h1;simp only [ATree.tree]; rw [Zcw]; rfl
 clear hT h1;intro B b l w hW hF;unfold Fits at hF;rw [hv] at hF ⊢;simp only [zL,zM,zN] at hF;have HW0:=lh hW;have HB0:Hid (Below B w w):=lh (Y8 _ _);unfold ATree.ptr;have x0_0:=HW0.out.cell c0;clear hW hv;go_enter Tryz.func23,Tryz.ntmps23
 go_wp2_with fail
 refine (Z5h HW0 HB0 59).mono ?_;rintro e w1 ⟨rfl,HW1,HB1⟩;have x0_1:=HW1.out.cell c0;go_wp2_with fail
 first | go_end0 | refine bodyPost_ret (results_none rfl _ _ _) rfl ?_
 exact ⟨rfl,by simpa using HW1.out,HB1.out⟩
theorem Zfv {w0:World} {Bt:Nat} (a:ATree) (hT:TreeAt w0 Bt a) (h1:a.kind=24) (x y:ATree) (hks:a.kids=[x,y]) (hx:Z0e w0 x) (hy:Z0e w0 y):Z0e w0 a:=by
 have c0:=hT.c0;rw [h1] at c0;have c1:=hT.c1;obtain ⟨g,cp,c3,hge2,hmx,hgl,hk⟩:=Z3a hT hks 2 rfl (by decide);have k0:=hk 0 x rfl;have k1:=hk 1 y rfl;have hv:∀ need,Zd (vP a.tree need)=if decide ((0:Int) < need)=true then 40 :: ((Zd (vP x.tree 8) ++ ([32,61,32] ++ Zd (vP y.tree 0))) ++ [41]) else Zd (vP x.tree 8) ++ ([32,61,32] ++ Zd (vP y.tree 0)):=fun need=>by
  obtain ⟨ab,av,ak,tx,an,aks⟩:=a;simp only [ATree.kind,ATree.kids,ATree.text] at h1 hks ⊢;subst h1;subst hks;exact Z3w _ _ _ _ _ _ (by simp only [Zr]; rw [Zdq,Z7,Z4,Z4,Z4]; rfl) 0 (by decide)
 have hmx:=hx.says (8);obtain ⟨mx,emx⟩:=zX (Zd (vP x.tree (8)))
 rw [← emx] at hmx;simp only [← emx] at hv;have Hmx:=lh hmx;clear emx hmx;have hmy:=hy.says (0);obtain ⟨my,emy⟩:=zX (Zd (vP y.tree (0)))
 rw [← emy] at hmy;simp only [← emy] at hv;have Hmy:=lh hmy;clear emy hmy;clear hT h1 hks hk;intro need B b l w hW hF;unfold Fits at hF;rw [hv] at hF ⊢;have HW:=lh hW;unfold ATree.ptr;by_cases hp:0 < need
 ·rw [decide_eq_true hp, Yb rfl] at hF ⊢;try simp only [zL, zM, zN] at hF
  have HW0:=HW;have HB0:Hid (Below B w w):=lh (Y8 _ _);have x0_0:=HW0.out.cell c0;have x1_0:=HW0.out.cell c3;have x2_0:=HW0.out.cell k0;have x3_0:=HW0.out.cell k1;have HS:Hid (∀ w,Calls Tryz.prog 83 #[.int .i64 (24)] w fun e w'=>e=.returned (.int .i64 (0))∧w'=w):=lh fun w=>by have h:=Z0b (24) w; rwa [show Zo (24)=0 by first | assumption | decide] at h
  have hcmp:(0 < need)=True:=by simp; omega
  clear hW HW hp hv;go_enter_defers Tryz.func56,Tryz.ntmps56
  go_wp2_with fail
  refine (HS.out _).mono ?_;rintro e w' ⟨rfl,hw'⟩;rw [hw'];clear hw' w' HS;go_wp2_with fail
  refine (Z5h HW0 HB0 40).mono ?_;rintro e w1 ⟨rfl,HW1,HB1⟩;have x0_1:=HW1.out.cell c0;have x1_1:=HW1.out.cell c3;have x2_1:=HW1.out.cell k0;have x3_1:=HW1.out.cell k1;go_wp2_with fail
  refine (Z36 Hmx HW1 HB1).mono ?_;rintro e w2 ⟨rfl,HW2,HB2⟩;have x0_2:=HW2.out.cell c3;have x1_2:=HW2.out.cell c0;go_wp2_with fail
  refine (strA HW2 HB2 ⟨#[32,61,32]⟩).mono ?_;rintro e w3 ⟨rfl,HW3,HB3⟩;have x0_3:=HW3.out.cell c3;have x1_3:=HW3.out.cell k0;have x2_3:=HW3.out.cell k1;go_wp2_with fail
  refine (Z36 Hmy HW3 HB3).mono ?_;rintro e w4 ⟨rfl,HW4,HB4⟩;go_wp2_with fail
  refine leaves_cons (f:=24) (args:=#[.pointer (some ⟨b,0,none⟩),.int .u8 41]) (by simp) (by simp [go_sem]) ?_;refine (Z5o HW4 HB4 41 .returning).mono ?_;rintro e u' w'' ⟨rfl,rfl,hwf,hbf⟩;refine ⟨.tuple #[],by simp [results,Tryz.results56,go_sem],rfl,?_,hbf⟩;simpa using hwf
 ·rw [decide_eq_false hp, Y9 (by simp)] at hF ⊢;try simp only [zL, zM, zN] at hF
  have HW0:=HW;have HB0:Hid (Below B w w):=lh (Y8 _ _);have x0_0:=HW0.out.cell c0;have x1_0:=HW0.out.cell c3;have x2_0:=HW0.out.cell k0;have x3_0:=HW0.out.cell k1;have HS:Hid (∀ w,Calls Tryz.prog 83 #[.int .i64 (24)] w fun e w'=>e=.returned (.int .i64 (0))∧w'=w):=lh fun w=>by have h:=Z0b (24) w; rwa [show Zo (24)=0 by first | assumption | decide] at h
  have hcmp:(0 < need)=False:=by simp; omega
  clear hW HW hp hv;go_enter_defers Tryz.func56,Tryz.ntmps56
  go_wp2_with fail
  refine (HS.out _).mono ?_;rintro e w' ⟨rfl,hw'⟩;rw [hw'];clear hw' w' HS;go_wp2_with fail
  refine (Z36 Hmx HW0 HB0).mono ?_;rintro e w1 ⟨rfl,HW1,HB1⟩;have x0_1:=HW1.out.cell c3;have x1_1:=HW1.out.cell c0;go_wp2_with fail
  refine (strA HW1 HB1 ⟨#[32,61,32]⟩).mono ?_;rintro e w2 ⟨rfl,HW2,HB2⟩;have x0_2:=HW2.out.cell c3;have x1_2:=HW2.out.cell k0;have x2_2:=HW2.out.cell k1;go_wp2_with fail
  refine (Z36 Hmy HW2 HB2).mono ?_;rintro e w3 ⟨rfl,HW3,HB3⟩;go_wp2_with fail
  refine ⟨.tuple #[],by simp [results,Tryz.results56,go_sem],rfl,?_,HB3.out⟩;have hwf:=HW3.out;simpa using hwf
theorem Z4v {w0:World} {Bt:Nat} (a:ATree) (hT:TreeAt w0 Bt a) (k S:Int) (j:Nat) (sg:ByteArray) (hK:(k=25∧S=1∧j=0∧sg=⟨#[32,124,124,32]⟩)∨(k=26∧S=2∧j=1∧sg=⟨#[32,38,38,32]⟩)∨(k=27∧S=3∧j=2∧sg=⟨#[32,61,61,61,32]⟩)∨(k=28∧S=4∧j=3∧sg=⟨#[32,60,32]⟩)∨(k=29∧S=5∧j=4∧sg=⟨#[32,43,32]⟩)∨(k=30∧S=5∧j=5∧sg=⟨#[32,45,32]⟩)∨(k=31∧S=6∧j=6∧sg=⟨#[32,42,32]⟩)) (h1:a.kind=k) (x y:ATree) (hks:a.kids=[x,y]) (hx:Z0e w0 x) (hy:Z0e w0 y) (hS:Zd4 w0):Z0e w0 a:=by
 have c0:=hT.c0;rw [h1] at c0;have c1:=hT.c1;obtain ⟨g,cp,c3,hge2,hmx,hgl,hk⟩:=Z3a hT hks 2 rfl (by decide);have k0:=hk 0 x rfl;have k1:=hk 1 y rfl;have hf:Zo k=S∧Zd (sgnP k)=sg.data.toList∧Ziu[j]?=some sg∧25≤k∧k≤31:=by
  rcases hK with ⟨rfl,rfl,rfl,rfl⟩ | ⟨rfl,rfl,rfl,rfl⟩ | ⟨rfl,rfl,rfl,rfl⟩ | ⟨rfl,rfl,rfl,rfl⟩ | ⟨rfl,rfl,rfl,rfl⟩ | ⟨rfl,rfl,rfl,rfl⟩ | ⟨rfl,rfl,rfl,rfl⟩ <;> exact ⟨by decide,rfl,rfl,by decide,by decide⟩
 obtain ⟨hf1,hf2,hf3,hf4,hf5⟩:=hf;have cs:=hS j sg hf3;have hv:∀ need,Zd (vP a.tree need)=if decide (S < need)=true then 40 :: ((Zd (vP x.tree S) ++ (sg.data.toList ++ Zd (vP y.tree (S + 1)))) ++ [41]) else Zd (vP x.tree S) ++ (sg.data.toList ++ Zd (vP y.tree (S + 1))):=fun need=>by
  obtain ⟨ab,av,ak,tx,an,aks⟩:=a;simp only [ATree.kind,ATree.kids,ATree.text] at h1 hks ⊢;subst h1;subst hks;exact Z3w _ _ _ _ _ _ (by simp only [Zr]; rw [Zdp hf4 hf5,Z7,Z7,hf1,hf2]) S hf1
 have hmx:=hx.says (S);obtain ⟨mx,emx⟩:=zX (Zd (vP x.tree (S)))
 rw [← emx] at hmx;simp only [← emx] at hv;have Hmx:=lh hmx;clear emx hmx;have hmy:=hy.says (S + 1);obtain ⟨my,emy⟩:=zX (Zd (vP y.tree (S + 1)))
 rw [← emy] at hmy;simp only [← emy] at hv;have Hmy:=lh hmy;clear emy hmy;clear hT h1 hks hk;clear hf2 hf3 hf4 hf5 hS;intro need B b l w hW hF;unfold Fits at hF;rw [hv] at hF ⊢;have HW:=lh hW;unfold ATree.ptr;by_cases hp:S < need
 ·rw [decide_eq_true hp, Yb rfl] at hF ⊢;try simp only [zL, zM, zN] at hF
  have HW0:=HW;have HB0:Hid (Below B w w):=lh (Y8 _ _);have x0_0:=HW0.out.cell c0;have x1_0:=HW0.out.cell c3;have x2_0:=HW0.out.cell k0;have x3_0:=HW0.out.cell k1;have x4_0:=HW0.out.cell cs;have HS:Hid (∀ w,Calls Tryz.prog 83 #[.int .i64 (k)] w fun e w'=>e=.returned (.int .i64 (S))∧w'=w):=lh fun w=>by have h:=Z0b (k) w; rwa [show Zo (k)=S by first | assumption | decide] at h
  have hcmp:(S < need)=True:=by simp; omega
  clear hW HW hp hv;clear hf1;rcases hK with ⟨rfl,rfl,rfl,hsg⟩ | ⟨rfl,rfl,rfl,hsg⟩ | ⟨rfl,rfl,rfl,hsg⟩ | ⟨rfl,rfl,rfl,hsg⟩ | ⟨rfl,rfl,rfl,hsg⟩ | ⟨rfl,rfl,rfl,hsg⟩ | ⟨rfl,rfl,rfl,hsg⟩;all_goals clear hsg
  all_goals
   go_enter_defers Tryz.func56,Tryz.ntmps56
   go_wp2_with fail
   refine (HS.out _).mono ?_;rintro e w' ⟨rfl,hw'⟩;rw [hw'];clear hw' w' HS;go_wp2_with fail
   refine (Z5h HW0 HB0 40).mono ?_;rintro e w1 ⟨rfl,HW1,HB1⟩;have x0_1:=HW1.out.cell c0;have x1_1:=HW1.out.cell c3;have x2_1:=HW1.out.cell k0;have x3_1:=HW1.out.cell k1;have x4_1:=HW1.out.cell cs;go_wp2_with fail
   refine (Z36 Hmx HW1 HB1).mono ?_;rintro e w2 ⟨rfl,HW2,HB2⟩;have x0_2:=HW2.out.cell c3;have x1_2:=HW2.out.cell c0;have x2_2:=HW2.out.cell cs;go_wp2_with fail
   refine (strA HW2 HB2 sg).mono ?_;rintro e w3 ⟨rfl,HW3,HB3⟩;have x0_3:=HW3.out.cell c3;have x1_3:=HW3.out.cell k0;have x2_3:=HW3.out.cell k1;go_wp2_with fail
   refine (Z36 Hmy HW3 HB3).mono ?_;rintro e w4 ⟨rfl,HW4,HB4⟩;go_wp2_with fail
   refine leaves_cons (f:=24) (args:=#[.pointer (some ⟨b,0,none⟩),.int .u8 41]) (by simp) (by simp [go_sem]) ?_;refine (Z5o HW4 HB4 41 .returning).mono ?_;rintro e u' w'' ⟨rfl,rfl,hwf,hbf⟩;refine ⟨.tuple #[],by simp [results,Tryz.results56,go_sem],rfl,?_,hbf⟩;simpa using hwf
 ·rw [decide_eq_false hp, Y9 (by simp)] at hF ⊢;try simp only [zL, zM, zN] at hF
  have HW0:=HW;have HB0:Hid (Below B w w):=lh (Y8 _ _);have x0_0:=HW0.out.cell c0;have x1_0:=HW0.out.cell c3;have x2_0:=HW0.out.cell k0;have x3_0:=HW0.out.cell k1;have x4_0:=HW0.out.cell cs;have HS:Hid (∀ w,Calls Tryz.prog 83 #[.int .i64 (k)] w fun e w'=>e=.returned (.int .i64 (S))∧w'=w):=lh fun w=>by have h:=Z0b (k) w; rwa [show Zo (k)=S by first | assumption | decide] at h
  have hcmp:(S < need)=False:=by simp; omega
  clear hW HW hp hv;clear hf1;rcases hK with ⟨rfl,rfl,rfl,hsg⟩ | ⟨rfl,rfl,rfl,hsg⟩ | ⟨rfl,rfl,rfl,hsg⟩ | ⟨rfl,rfl,rfl,hsg⟩ | ⟨rfl,rfl,rfl,hsg⟩ | ⟨rfl,rfl,rfl,hsg⟩ | ⟨rfl,rfl,rfl,hsg⟩;all_goals clear hsg
  all_goals
   go_enter_defers Tryz.func56,Tryz.ntmps56
   go_wp2_with fail
   refine (HS.out _).mono ?_;rintro e w' ⟨rfl,hw'⟩;rw [hw'];clear hw' w' HS;go_wp2_with fail
   refine (Z36 Hmx HW0 HB0).mono ?_;rintro e w1 ⟨rfl,HW1,HB1⟩;have x0_1:=HW1.out.cell c3;have x1_1:=HW1.out.cell c0;have x2_1:=HW1.out.cell cs;go_wp2_with fail
   refine (strA HW1 HB1 sg).mono ?_;rintro e w2 ⟨rfl,HW2,HB2⟩;have x0_2:=HW2.out.cell c3;have x1_2:=HW2.out.cell k0;have x2_2:=HW2.out.cell k1;go_wp2_with fail
   refine (Z36 Hmy HW2 HB2).mono ?_;rintro e w3 ⟨rfl,HW3,HB3⟩;go_wp2_with fail
   refine ⟨.tuple #[],by simp [results,Tryz.results56,go_sem],rfl,?_,HB3.out⟩;have hwf:=HW3.out;simpa using hwf
theorem Z8m {w0:World} {Bt:Nat} (a:ATree) (hT:TreeAt w0 Bt a) (k S:Int) (j:Nat) (sg:ByteArray) (hK:(k=32∧S=7∧j=7∧sg=⟨#[33]⟩)∨(k=33∧S=7∧j=8∧sg=⟨#[116,121,112,101,111,102,32]⟩)∨(k=34∧S=7∧j=9∧sg=⟨#[100,101,108,101,116,101,32]⟩)) (h1:a.kind=k) (x:ATree) (hks:a.kids=[x]) (hx:Z0e w0 x) (hS:Zd4 w0):Z0e w0 a:=by
 have c0:=hT.c0;rw [h1] at c0;have c1:=hT.c1;obtain ⟨g,cp,c3,hge2,hmx,hgl,hk⟩:=Z3a hT hks 1 rfl (by decide);have k0:=hk 0 x rfl;have hf:Zo k=S∧Zd (sgnP k)=sg.data.toList∧Ziu[j]?=some sg∧32≤k∧k≤34:=by
  rcases hK with ⟨rfl,rfl,rfl,rfl⟩ | ⟨rfl,rfl,rfl,rfl⟩ | ⟨rfl,rfl,rfl,rfl⟩ <;> exact ⟨by decide,rfl,rfl,by decide,by decide⟩
 obtain ⟨hf1,hf2,hf3,hf4,hf5⟩:=hf;have cs:=hS j sg hf3;have hv:∀ need,Zd (vP a.tree need)=if decide (S < need)=true then 40 :: ((sg.data.toList ++ Zd (vP x.tree 7)) ++ [41]) else sg.data.toList ++ Zd (vP x.tree 7):=fun need=>by
  obtain ⟨ab,av,ak,tx,an,aks⟩:=a;simp only [ATree.kind,ATree.kids,ATree.text] at h1 hks ⊢;subst h1;subst hks;exact Z3w _ _ _ _ _ _ (by simp only [Zr]; rw [Za0 hf4 hf5,Z7,hf2]) S hf1
 have hmx:=hx.says (7);obtain ⟨mx,emx⟩:=zX (Zd (vP x.tree (7)))
 rw [← emx] at hmx;simp only [← emx] at hv;have Hmx:=lh hmx;clear emx hmx;clear hT h1 hks hk;clear hf2 hf3 hf4 hf5 hS;intro need B b l w hW hF;unfold Fits at hF;rw [hv] at hF ⊢;have HW:=lh hW;unfold ATree.ptr;by_cases hp:S < need
 ·rw [decide_eq_true hp, Yb rfl] at hF ⊢;try simp only [zL, zM, zN] at hF
  have HW0:=HW;have HB0:Hid (Below B w w):=lh (Y8 _ _);have x0_0:=HW0.out.cell c0;have x1_0:=HW0.out.cell c3;have x2_0:=HW0.out.cell k0;have x3_0:=HW0.out.cell cs;have HS:Hid (∀ w,Calls Tryz.prog 83 #[.int .i64 (k)] w fun e w'=>e=.returned (.int .i64 (S))∧w'=w):=lh fun w=>by have h:=Z0b (k) w; rwa [show Zo (k)=S by first | assumption | decide] at h
  have hcmp:(S < need)=True:=by simp; omega
  clear hW HW hp hv;clear hf1;rcases hK with ⟨rfl,rfl,rfl,hsg⟩ | ⟨rfl,rfl,rfl,hsg⟩ | ⟨rfl,rfl,rfl,hsg⟩;all_goals clear hsg
  all_goals
   go_enter_defers Tryz.func56,Tryz.ntmps56
   go_wp2_with fail
   refine (HS.out _).mono ?_;rintro e w' ⟨rfl,hw'⟩;rw [hw'];clear hw' w' HS;go_wp2_with fail
   refine (Z5h HW0 HB0 40).mono ?_;rintro e w1 ⟨rfl,HW1,HB1⟩;have x0_1:=HW1.out.cell c0;have x1_1:=HW1.out.cell c3;have x2_1:=HW1.out.cell k0;have x3_1:=HW1.out.cell cs;go_wp2_with fail
   refine (strA HW1 HB1 sg).mono ?_;rintro e w2 ⟨rfl,HW2,HB2⟩;have x0_2:=HW2.out.cell c3;have x1_2:=HW2.out.cell k0;go_wp2_with fail
   refine (Z36 Hmx HW2 HB2).mono ?_;rintro e w3 ⟨rfl,HW3,HB3⟩;go_wp2_with fail
   refine leaves_cons (f:=24) (args:=#[.pointer (some ⟨b,0,none⟩),.int .u8 41]) (by simp) (by simp [go_sem]) ?_;refine (Z5o HW3 HB3 41 .returning).mono ?_;rintro e u' w'' ⟨rfl,rfl,hwf,hbf⟩;refine ⟨.tuple #[],by simp [results,Tryz.results56,go_sem],rfl,?_,hbf⟩;simpa using hwf
 ·rw [decide_eq_false hp, Y9 (by simp)] at hF ⊢;try simp only [zL, zM, zN] at hF
  have HW0:=HW;have HB0:Hid (Below B w w):=lh (Y8 _ _);have x0_0:=HW0.out.cell c0;have x1_0:=HW0.out.cell c3;have x2_0:=HW0.out.cell k0;have x3_0:=HW0.out.cell cs;have HS:Hid (∀ w,Calls Tryz.prog 83 #[.int .i64 (k)] w fun e w'=>e=.returned (.int .i64 (S))∧w'=w):=lh fun w=>by have h:=Z0b (k) w; rwa [show Zo (k)=S by first | assumption | decide] at h
  have hcmp:(S < need)=False:=by simp; omega
  clear hW HW hp hv;clear hf1;rcases hK with ⟨rfl,rfl,rfl,hsg⟩ | ⟨rfl,rfl,rfl,hsg⟩ | ⟨rfl,rfl,rfl,hsg⟩;all_goals clear hsg
  all_goals
   go_enter_defers Tryz.func56,Tryz.ntmps56
   go_wp2_with fail
   refine (HS.out _).mono ?_;rintro e w' ⟨rfl,hw'⟩;rw [hw'];clear hw' w' HS;go_wp2_with fail
   refine (strA HW0 HB0 sg).mono ?_;rintro e w1 ⟨rfl,HW1,HB1⟩;have x0_1:=HW1.out.cell c3;have x1_1:=HW1.out.cell k0;go_wp2_with fail
   refine (Z36 Hmx HW1 HB1).mono ?_;rintro e w2 ⟨rfl,HW2,HB2⟩;go_wp2_with fail
   refine ⟨.tuple #[],by simp [results,Tryz.results56,go_sem],rfl,?_,HB2.out⟩;have hwf:=HW2.out;simpa using hwf
theorem Zfr {w0:World} {Bt:Nat} (a:ATree) (hT:TreeAt w0 Bt a) (h1:a.kind=36) (x:ATree) (hks:a.kids=[x]) (hx:Z0e w0 x) (hsz:a.text.size≤1000000):Z0e w0 a:=by
 have c0:=hT.c0;rw [h1] at c0;have c1:=hT.c1;obtain ⟨g,cp,c3,hge2,hmx,hgl,hk⟩:=Z3a hT hks 1 rfl (by decide);have k0:=hk 0 x rfl;have hv:∀ need,Zd (vP a.tree need)=if decide ((8:Int) < need)=true then 40 :: ((Zd (vP x.tree 8) ++ (46 :: a.text.data.toList)) ++ [41]) else Zd (vP x.tree 8) ++ (46 :: a.text.data.toList):=fun need=>by
  obtain ⟨ab,av,ak,tx,an,aks⟩:=a;simp only [ATree.kind,ATree.kids,ATree.text] at h1 hks ⊢;subst h1;subst hks;exact Z3w _ _ _ _ _ _ (by simp only [Zr]; rw [Zdl,Z7,Z4,Z4,Zj,List.append_nil]; rfl) 8 (by decide)
 have hmx:=hx.says (8);obtain ⟨mx,emx⟩:=zX (Zd (vP x.tree (8)))
 rw [← emx] at hmx;simp only [← emx] at hv;have Hmx:=lh hmx;clear emx hmx;obtain ⟨tx,htx⟩:=zX a.text
 rw [← htx] at c1 hsz;obtain ⟨sx,hsx⟩:∃ sx:ByteArray,sx=(⟨#[46]⟩ ++ tx):=⟨_,rfl⟩
 have hsl:sx.data.toList=46 :: tx.data.toList:=by rw [hsx]; simp [ByteArray.data_append]
 simp only [← htx,← hsl] at hv;have HSX:=lh hsx;have q1:¬ 9223372036854775807 < 1 + tx.size:=by omega
 have q2:¬ 9223372036854775807 < tx.size + 2:=by omega
 clear htx hsx hsl;clear hT h1 hks hk;intro need B b l w hW hF;unfold Fits at hF;rw [hv] at hF ⊢;have HW:=lh hW;unfold ATree.ptr;by_cases hp:8 < need
 ·rw [decide_eq_true hp, Yb rfl] at hF ⊢;try simp only [zL, zM, zN] at hF
  have HW0:=HW;have HB0:Hid (Below B w w):=lh (Y8 _ _);have x0_0:=HW0.out.cell c0;have x1_0:=HW0.out.cell c1;have x2_0:=HW0.out.cell c3;have x3_0:=HW0.out.cell k0;have HS:Hid (∀ w,Calls Tryz.prog 83 #[.int .i64 (36)] w fun e w'=>e=.returned (.int .i64 (8))∧w'=w):=lh fun w=>by have h:=Z0b (36) w; rwa [show Zo (36)=8 by first | assumption | decide] at h
  have hcmp:(8 < need)=True:=by simp; omega
  clear hW HW hp hv;go_enter_defers Tryz.func56,Tryz.ntmps56
  go_wp2_with fail
  refine (HS.out _).mono ?_;rintro e w' ⟨rfl,hw'⟩;rw [hw'];clear hw' w' HS;go_wp2_with fail
  refine (Z5h HW0 HB0 40).mono ?_;rintro e w1 ⟨rfl,HW1,HB1⟩;have x0_1:=HW1.out.cell c0;have x1_1:=HW1.out.cell c1;have x2_1:=HW1.out.cell c3;have x3_1:=HW1.out.cell k0;go_wp2_with fail
  refine (Z36 Hmx HW1 HB1).mono ?_;rintro e w2 ⟨rfl,HW2,HB2⟩;have x0_2:=HW2.out.cell c3;have x1_2:=HW2.out.cell c0;have x2_2:=HW2.out.cell c1;go_wp2_with fail
  rw [← HSX.out];refine (strA HW2 HB2 sx).mono ?_;rintro e w3 ⟨rfl,HW3,HB3⟩;go_wp2_with fail
  refine leaves_cons (f:=24) (args:=#[.pointer (some ⟨b,0,none⟩),.int .u8 41]) (by simp) (by simp [go_sem]) ?_;refine (Z5o HW3 HB3 41 .returning).mono ?_;rintro e u' w'' ⟨rfl,rfl,hwf,hbf⟩;refine ⟨.tuple #[],by simp [results,Tryz.results56,go_sem],rfl,?_,hbf⟩;simpa using hwf
 ·rw [decide_eq_false hp, Y9 (by simp)] at hF ⊢;try simp only [zL, zM, zN] at hF
  have HW0:=HW;have HB0:Hid (Below B w w):=lh (Y8 _ _);have x0_0:=HW0.out.cell c0;have x1_0:=HW0.out.cell c1;have x2_0:=HW0.out.cell c3;have x3_0:=HW0.out.cell k0;have HS:Hid (∀ w,Calls Tryz.prog 83 #[.int .i64 (36)] w fun e w'=>e=.returned (.int .i64 (8))∧w'=w):=lh fun w=>by have h:=Z0b (36) w; rwa [show Zo (36)=8 by first | assumption | decide] at h
  have hcmp:(8 < need)=False:=by simp; omega
  clear hW HW hp hv;go_enter_defers Tryz.func56,Tryz.ntmps56
  go_wp2_with fail
  refine (HS.out _).mono ?_;rintro e w' ⟨rfl,hw'⟩;rw [hw'];clear hw' w' HS;go_wp2_with fail
  refine (Z36 Hmx HW0 HB0).mono ?_;rintro e w1 ⟨rfl,HW1,HB1⟩;have x0_1:=HW1.out.cell c3;have x1_1:=HW1.out.cell c0;have x2_1:=HW1.out.cell c1;go_wp2_with fail
  rw [← HSX.out];refine (strA HW1 HB1 sx).mono ?_;rintro e w2 ⟨rfl,HW2,HB2⟩;go_wp2_with fail
  refine ⟨.tuple #[],by simp [results,Tryz.results56,go_sem],rfl,?_,HB2.out⟩;have hwf:=HW2.out;simpa using hwf
theorem Zep {w0:World} {Bt:Nat} (a:ATree) (hT:TreeAt w0 Bt a) (h1:a.kind=39) (x:ATree) (hks:a.kids=[x]) (hx:Z0e w0 x) (hsz:a.text.size≤1000000):Z0e w0 a:=by
 have c0:=hT.c0;rw [h1] at c0;have c1:=hT.c1;obtain ⟨g,cp,c3,hge2,hmx,hgl,hk⟩:=Z3a hT hks 1 rfl (by decide);have k0:=hk 0 x rfl;have hv:∀ need,Zd (vP a.tree need)=if decide ((9:Int) < need)=true then 40 :: (((a.text.data.toList ++ [58,32]) ++ Zd (vP x.tree 0)) ++ [41]) else (a.text.data.toList ++ [58,32]) ++ Zd (vP x.tree 0):=fun need=>by
  obtain ⟨ab,av,ak,tx,an,aks⟩:=a;simp only [ATree.kind,ATree.kids,ATree.text] at h1 hks ⊢;subst h1;subst hks;exact Z3w _ _ _ _ _ _ (by simp only [Zr]; rw [Zda,Z4,Z4,Z4,List.append_assoc]; rfl) 9 (by decide)
 have hmx:=hx.says (0);obtain ⟨mx,emx⟩:=zX (Zd (vP x.tree (0)))
 rw [← emx] at hmx;simp only [← emx] at hv;have Hmx:=lh hmx;clear emx hmx;obtain ⟨tx,htx⟩:=zX a.text
 rw [← htx] at c1 hsz;obtain ⟨sx,hsx⟩:∃ sx:ByteArray,sx=(tx ++ ⟨#[58,32]⟩):=⟨_,rfl⟩
 have hsl:sx.data.toList=tx.data.toList ++ [58,32]:=by rw [hsx]; simp [ByteArray.data_append]
 simp only [← htx,← hsl] at hv;have HSX:=lh hsx;have q1:¬ 9223372036854775807 < 1 + tx.size:=by omega
 have q2:¬ 9223372036854775807 < tx.size + 2:=by omega
 clear htx hsx hsl;clear hT h1 hks hk;intro need B b l w hW hF;unfold Fits at hF;rw [hv] at hF ⊢;have HW:=lh hW;unfold ATree.ptr;by_cases hp:9 < need
 ·rw [decide_eq_true hp, Yb rfl] at hF ⊢;try simp only [zL, zM, zN] at hF
  have HW0:=HW;have HB0:Hid (Below B w w):=lh (Y8 _ _);have x0_0:=HW0.out.cell c0;have x1_0:=HW0.out.cell c1;have x2_0:=HW0.out.cell c3;have x3_0:=HW0.out.cell k0;have HS:Hid (∀ w,Calls Tryz.prog 83 #[.int .i64 (39)] w fun e w'=>e=.returned (.int .i64 (9))∧w'=w):=lh fun w=>by have h:=Z0b (39) w; rwa [show Zo (39)=9 by first | assumption | decide] at h
  have hcmp:(9 < need)=True:=by simp; omega
  clear hW HW hp hv;go_enter_defers Tryz.func56,Tryz.ntmps56
  go_wp2_with fail
  refine (HS.out _).mono ?_;rintro e w' ⟨rfl,hw'⟩;rw [hw'];clear hw' w' HS;go_wp2_with fail
  refine (Z5h HW0 HB0 40).mono ?_;rintro e w1 ⟨rfl,HW1,HB1⟩;have x0_1:=HW1.out.cell c0;have x1_1:=HW1.out.cell c1;have x2_1:=HW1.out.cell c3;have x3_1:=HW1.out.cell k0;go_wp2_with fail
  rw [← HSX.out];refine (strA HW1 HB1 sx).mono ?_;rintro e w2 ⟨rfl,HW2,HB2⟩;have x0_2:=HW2.out.cell c3;have x1_2:=HW2.out.cell k0;go_wp2_with fail
  refine (Z36 Hmx HW2 HB2).mono ?_;rintro e w3 ⟨rfl,HW3,HB3⟩;go_wp2_with fail
  refine leaves_cons (f:=24) (args:=#[.pointer (some ⟨b,0,none⟩),.int .u8 41]) (by simp) (by simp [go_sem]) ?_;refine (Z5o HW3 HB3 41 .returning).mono ?_;rintro e u' w'' ⟨rfl,rfl,hwf,hbf⟩;refine ⟨.tuple #[],by simp [results,Tryz.results56,go_sem],rfl,?_,hbf⟩;simpa using hwf
 ·rw [decide_eq_false hp, Y9 (by simp)] at hF ⊢;try simp only [zL, zM, zN] at hF
  have HW0:=HW;have HB0:Hid (Below B w w):=lh (Y8 _ _);have x0_0:=HW0.out.cell c0;have x1_0:=HW0.out.cell c1;have x2_0:=HW0.out.cell c3;have x3_0:=HW0.out.cell k0;have HS:Hid (∀ w,Calls Tryz.prog 83 #[.int .i64 (39)] w fun e w'=>e=.returned (.int .i64 (9))∧w'=w):=lh fun w=>by have h:=Z0b (39) w; rwa [show Zo (39)=9 by first | assumption | decide] at h
  have hcmp:(9 < need)=False:=by simp; omega
  clear hW HW hp hv;go_enter_defers Tryz.func56,Tryz.ntmps56
  go_wp2_with fail
  refine (HS.out _).mono ?_;rintro e w' ⟨rfl,hw'⟩;rw [hw'];clear hw' w' HS;go_wp2_with fail
  rw [← HSX.out];refine (strA HW0 HB0 sx).mono ?_;rintro e w1 ⟨rfl,HW1,HB1⟩;have x0_1:=HW1.out.cell c3;have x1_1:=HW1.out.cell k0;go_wp2_with fail
  refine (Z36 Hmx HW1 HB1).mono ?_;rintro e w2 ⟨rfl,HW2,HB2⟩;go_wp2_with fail
  refine ⟨.tuple #[],by simp [results,Tryz.results56,go_sem],rfl,?_,HB2.out⟩;have hwf:=HW2.out;simpa using hwf
end Go.Proofs.YtmeiggjboakmpaaGreatDoor
