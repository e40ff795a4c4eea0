/- Package tree: statement. -/
import Derived.Test.YtjcgkdfeplbajaaGreatDoorJ21
namespace Go.Proofs.YtjcgkdfeplbajaaGreatDoor
open Go Go.RowKit
set_option maxRecDepth 100000
set_option maxHeartbeats 20000000
set_option linter.unusedVariables false
theorem Zbw (f:Nat) (hBl:Says 45 (fun rb=>#[.pointer (some ⟨rb,0,none⟩),.bool false]) (.block false) f)
 (hD:∀ k m,Says 48 (fun rb=>#[.pointer (some ⟨rb,0,none⟩),.int .i64 k,.bool m]) (.decl k m) f)
 (hFn:∀ s,Says 49 (fun rb=>#[.pointer (some ⟨rb,0,none⟩),.int .i64 5,.string s]) (.func 5 s) f)
 (hA:Says 51 rArg .around f) (hS:Says 31 rArg .stmt f)
 (hV:Says 52 rArg .value f) (hT:Says 53 rArg .try_ f):Says 31 rArg .stmt (f + 1):=by
 intro w rb B d ts r hP hp;have HP:=lh hP;have HBL:=lh hBl;have HD:=lh hD;have HFN:=lh hFn;have HA:=lh hA;have HS:=lh hS;have HV:=lh hV;have HTR:=lh hT;have hlt:=hP.lt;have hq0:=hp;rw [Z0] at hq0;have HQ:=lh hq0;have P0:=lh hP;have F0:=lh (RFr.refl w rb);have hmf:∀ (fn:Fn) (first cap:Array Value) (w:World),(Instr.makeFunc fn first cap).run Tryz.prog w=.ok (.func fn first cap) w:=fun _ _ _ _=>rfl;clear hP hp hBl hD hFn hA hS hV hT hq0;unfold rArg;go_enter Tryz.func31,Tryz.ntmps31
 by_cases h:isT Z0u ts=true
 ·have hq := HQ.out;rw [Y5 h] at hq;have HQ2 := lh hq;have HB := Z2k w rb ts d Z0u P0.out.rd;rw [h] at HB;unfold Z0u at HB;have HB := lh HB;clear h hq;go_wp2_with fail
  refine HB.out.mono ?_;rintro e w2 ⟨rfl,hB2⟩;have F2:=lh (F0.out.trans (RFr.below (rb:=rb) hB2));have HC:=HBL.out w2 rb B d _ r (P0.out.below hB2) HQ2.out;simp only at HC;have HC:=lh HC;clear hB2 HB;go_wp2_with fail
  refine HC.out.mono ?_;rcases r with ⟨c,p⟩ | ⟨t,ts'⟩
  ·rintro e wz ⟨⟨b,rfl,h1,h2⟩,hF⟩;exact ⟨rfl,Z01.pre F2.out (r:=.error (c,p)) ⟨⟨b,rfl,h1,h2⟩,hF⟩⟩
  ·rintro e wz ⟨a,rfl,hG,hR,hF⟩;have HG:=lh (hG.pre F2.out);have HR:=lh hR;have HF:=lh (F2.out.trans hF);clear hG hR hF HC;go_wp2;go_ret;exact ⟨a,rfl,HG.out,HR.out,HF.out⟩
 have h':isT Z0u ts=false:=by simpa using h
 have hq:=HQ.out;rw [Y3 h] at hq;have QK0:=lh hq;have HB:=Z2k w rb ts d Z0u P0.out.rd;rw [h'] at HB;unfold Z0u at HB;have HB:=lh HB;clear h h' hq;go_wp2_with fail
 refine HB.out.mono ?_;rintro e wk0 ⟨rfl,hB2⟩;have PK0:=lh (P0.out.below hB2);have FK0:=lh (F0.out.trans (RFr.below (rb:=rb) hB2));clear hB2 HB P0 F0 HQ;by_cases h:isT Z1x ts=true
 ·have hq := QK0.out;rw [Y5 h] at hq;have HQ2 := lh hq;have HT := Z0j wk0 rb ts d Z1x PK0.out.rd h;unfold Z1x at HT;have HT := lh HT;clear h hq;go_wp2_with fail
  refine HT.out.mono ?_;rintro e w2 ⟨rfl,hR2,hF2⟩;have P2:=lh (PK0.out.tail hR2 hF2);have F2:=lh (FK0.out.trans hF2);clear hR2 hF2 HT;have HR:=lh (Yc HQ2.out).symm;have HN:=lh (Z0a w2 rb 16 ⟨#[]⟩ none 0 0);have G3:=lh (Got.leaf (k:=16) (t:=⟨#[]⟩) (n:=0) HP.out.le F2.out);go_wp2_with fail
  refine HN.out.mono ?_;rintro e w3 ⟨rfl,hw3⟩;have hal:Below w2.heap.size w2 w3:=by rw [hw3]; exact (Y2 _ _).alloc (Y0 _) _
  have AL:=lh hal;have HW3:=lh hw3;clear hal hw3 HN;go_wp2;go_ret;rw [HR.out];exact ⟨_,rfl,by rw [HW3.out]; exact G3.out,P2.out.rd.below AL.out,F2.out.trans (RFr.below AL.out)⟩
 have h':isT Z1x ts=false:=by simpa using h
 have hq:=QK0.out;rw [Y3 h] at hq;have QK1:=lh hq;have HT:=Z11 wk0 rb ts d Z1x PK0.out.rd h';unfold Z1x at HT;have HT:=lh HT;clear h h' hq;go_wp2_with fail
 refine HT.out.mono ?_;rintro e wk1 ⟨rfl,hB2⟩;have PK1:=lh (PK0.out.below hB2);have FK1:=lh (FK0.out.trans (RFr.below (rb:=rb) hB2));clear hB2 HT PK0 FK0 QK0;by_cases h:isT Z5f ts=true
 ·have hq := QK1.out;rw [Y5 h] at hq;have HQ2 := lh hq;have HT := Z0j wk1 rb ts d Z5f PK1.out.rd h;unfold Z5f at HT;have HT := lh HT;clear h hq;go_wp2_with fail
  refine HT.out.mono ?_;rintro e w2 ⟨rfl,hR2,hF2⟩;have P2:=lh (PK1.out.tail hR2 hF2);have F2:=lh (FK1.out.trans hF2);clear hR2 hF2 HT;rcases Zp HQ2.out with ⟨⟨c,p⟩,hv,rfl⟩ | ⟨t,vs,hv,hq4⟩
  ·have HC := HD.out 2 false w2 rb B d _ _ P2.out hv;simp only at HC;have HC := lh HC;clear hv;go_wp2_with fail
   refine HC.out.mono ?_;rintro e wz ⟨⟨b,rfl,h1,h2⟩,hF⟩;exact ⟨rfl,Z01.pre F2.out (r:=.error (c,p)) ⟨⟨b,rfl,h1,h2⟩,hF⟩⟩
  have HC:=HD.out 2 false w2 rb B d _ _ P2.out hv;simp only at HC;have HC:=lh HC;have HVL:=lh (Z0k hv);have HQ4:=lh hq4;clear hv hq4;go_wp2_with fail
  refine HC.out.mono ?_;rintro e w3 ⟨a,rfl,hG,hR,hF⟩;have HE:=lh (Z4d w w3 rb B d vs a t r (P2.out.next hR hF HVL.out) (hG.pre F2.out) (F2.out.trans hF) HQ4.out);clear hG hR hF HC;go_wp2_with fail
  refine HE.out.mono ?_;rcases r with ⟨c,p⟩ | ⟨t,ts'⟩
  ·rintro e wz ⟨⟨b,rfl,h1,h2⟩,hF⟩;exact ⟨rfl,⟨b,rfl,h1,h2⟩,hF⟩
  ·rintro e wz ⟨az,rfl,hG,hR,hF⟩;have HG:=lh hG;have HR:=lh hR;have HF:=lh hF;clear hG hR hF HE;go_wp2;go_ret;exact ⟨az,rfl,HG.out,HR.out,HF.out⟩
 have h':isT Z5f ts=false:=by simpa using h
 have hq:=QK1.out;rw [Y3 h] at hq;have QK2:=lh hq;have HT:=Z11 wk1 rb ts d Z5f PK1.out.rd h';unfold Z5f at HT;have HT:=lh HT;clear h h' hq;go_wp2_with fail
 refine HT.out.mono ?_;rintro e wk2 ⟨rfl,hB2⟩;have PK2:=lh (PK1.out.below hB2);have FK2:=lh (FK1.out.trans (RFr.below (rb:=rb) hB2));clear hB2 HT PK1 FK1 QK1;by_cases h:isT Z63 ts=true
 ·have hq := QK2.out;rw [Y5 h] at hq;have HQ2 := lh hq;have HT := Z0j wk2 rb ts d Z63 PK2.out.rd h;unfold Z63 at HT;have HT := lh HT;clear h hq;go_wp2_with fail
  refine HT.out.mono ?_;rintro e w2 ⟨rfl,hR2,hF2⟩;have P2:=lh (PK2.out.tail hR2 hF2);have F2:=lh (FK2.out.trans hF2);clear hR2 hF2 HT;rcases Zp HQ2.out with ⟨⟨c,p⟩,hv,rfl⟩ | ⟨t,vs,hv,hq4⟩
  ·have HC := HD.out 3 false w2 rb B d _ _ P2.out hv;simp only at HC;have HC := lh HC;clear hv;go_wp2_with fail
   refine HC.out.mono ?_;rintro e wz ⟨⟨b,rfl,h1,h2⟩,hF⟩;exact ⟨rfl,Z01.pre F2.out (r:=.error (c,p)) ⟨⟨b,rfl,h1,h2⟩,hF⟩⟩
  have HC:=HD.out 3 false w2 rb B d _ _ P2.out hv;simp only at HC;have HC:=lh HC;have HVL:=lh (Z0k hv);have HQ4:=lh hq4;clear hv hq4;go_wp2_with fail
  refine HC.out.mono ?_;rintro e w3 ⟨a,rfl,hG,hR,hF⟩;have HE:=lh (Z4d w w3 rb B d vs a t r (P2.out.next hR hF HVL.out) (hG.pre F2.out) (F2.out.trans hF) HQ4.out);clear hG hR hF HC;go_wp2_with fail
  refine HE.out.mono ?_;rcases r with ⟨c,p⟩ | ⟨t,ts'⟩
  ·rintro e wz ⟨⟨b,rfl,h1,h2⟩,hF⟩;exact ⟨rfl,⟨b,rfl,h1,h2⟩,hF⟩
  ·rintro e wz ⟨az,rfl,hG,hR,hF⟩;have HG:=lh hG;have HR:=lh hR;have HF:=lh hF;clear hG hR hF HE;go_wp2;go_ret;exact ⟨az,rfl,HG.out,HR.out,HF.out⟩
 have h':isT Z63 ts=false:=by simpa using h
 have hq:=QK2.out;rw [Y3 h] at hq;have QK3:=lh hq;have HT:=Z11 wk2 rb ts d Z63 PK2.out.rd h';unfold Z63 at HT;have HT:=lh HT;clear h h' hq;go_wp2_with fail
 refine HT.out.mono ?_;rintro e wk3 ⟨rfl,hB2⟩;have PK3:=lh (PK2.out.below hB2);have FK3:=lh (FK2.out.trans (RFr.below (rb:=rb) hB2));clear hB2 HT PK2 FK2 QK2;by_cases h:isT Z32 ts=true
 ·have hq := QK3.out;rw [Y5 h] at hq;have HQ2 := lh hq;have HT := Z0j wk3 rb ts d Z32 PK3.out.rd h;unfold Z32 at HT;have HT := lh HT;clear h hq;go_wp2_with fail
  refine HT.out.mono ?_;rintro e w2 ⟨rfl,hR2,hF2⟩;have P2:=lh (PK3.out.tail hR2 hF2);have F2:=lh (FK3.out.trans hF2);clear hR2 hF2 HT;rcases Zp HQ2.out with ⟨⟨c,p⟩,hv,rfl⟩ | ⟨t,vs,hv,hq4⟩
  ·have HC := HD.out 4 true w2 rb B d _ _ P2.out hv;simp only at HC;have HC := lh HC;clear hv;go_wp2_with fail
   refine HC.out.mono ?_;rintro e wz ⟨⟨b,rfl,h1,h2⟩,hF⟩;exact ⟨rfl,Z01.pre F2.out (r:=.error (c,p)) ⟨⟨b,rfl,h1,h2⟩,hF⟩⟩
  have HC:=HD.out 4 true w2 rb B d _ _ P2.out hv;simp only at HC;have HC:=lh HC;have HVL:=lh (Z0k hv);have HQ4:=lh hq4;clear hv hq4;go_wp2_with fail
  refine HC.out.mono ?_;rintro e w3 ⟨a,rfl,hG,hR,hF⟩;have HE:=lh (Z4d w w3 rb B d vs a t r (P2.out.next hR hF HVL.out) (hG.pre F2.out) (F2.out.trans hF) HQ4.out);clear hG hR hF HC;go_wp2_with fail
  refine HE.out.mono ?_;rcases r with ⟨c,p⟩ | ⟨t,ts'⟩
  ·rintro e wz ⟨⟨b,rfl,h1,h2⟩,hF⟩;exact ⟨rfl,⟨b,rfl,h1,h2⟩,hF⟩
  ·rintro e wz ⟨az,rfl,hG,hR,hF⟩;have HG:=lh hG;have HR:=lh hR;have HF:=lh hF;clear hG hR hF HE;go_wp2;go_ret;exact ⟨az,rfl,HG.out,HR.out,HF.out⟩
 have h':isT Z32 ts=false:=by simpa using h
 have hq:=QK3.out;rw [Y3 h] at hq;have QK4:=lh hq;have HT:=Z11 wk3 rb ts d Z32 PK3.out.rd h';unfold Z32 at HT;have HT:=lh HT;clear h h' hq;go_wp2_with fail
 refine HT.out.mono ?_;rintro e wk4 ⟨rfl,hB2⟩;have PK4:=lh (PK3.out.below hB2);have FK4:=lh (FK3.out.trans (RFr.below (rb:=rb) hB2));clear hB2 HT PK3 FK3 QK3;by_cases h:isT Z0g ts=true
 ·have hq := QK4.out;rw [Y5 h] at hq;have HQ2 := lh hq;have HT := Z0j wk4 rb ts d Z0g PK4.out.rd h;unfold Z0g at HT;have HT := lh HT;clear h hq;go_wp2_with fail
  refine HT.out.mono ?_;rintro e w2 ⟨rfl,hR2,hF2⟩;have P2:=lh (PK4.out.tail hR2 hF2);have F2:=lh (FK4.out.trans hF2);clear hR2 hF2 HT;rcases Z2a HQ2.out with ⟨hk,h1⟩ | ⟨hk,rfl⟩
  ·have HC := lh (Z2c w2 rb ts.tail d P2.out.rd hk);obtain ⟨s, hs⟩ := zX ((hdT ts.tail).text)
   rw [← hs] at HC h1;have HQ4:=lh h1;clear hk h1 hs;go_wp2_with fail
   refine HC.out.mono ?_;rintro e w4 ⟨rfl,hR4,hF4⟩;have HC2:=HFN.out s w4 rb B d _ r (P2.out.tail hR4 hF4) HQ4.out;simp only at HC2;have HC2:=lh HC2;have F4:=lh (F2.out.trans hF4);clear hR4 hF4 HC;go_wp2_with fail
   refine HC2.out.mono ?_;rcases r with ⟨c,p⟩ | ⟨t,ts'⟩
   ·rintro e wz ⟨⟨b,rfl,h1,h2⟩,hF⟩;exact ⟨rfl,Z01.pre F4.out (r:=.error (c,p)) ⟨⟨b,rfl,h1,h2⟩,hF⟩⟩
   ·rintro e wz ⟨a,rfl,hG,hR,hF⟩;have HG:=lh (hG.pre F4.out);have HR:=lh hR;have HF:=lh (F4.out.trans hF);clear hG hR hF HC2;go_wp2;go_ret;exact ⟨a,rfl,HG.out,HR.out,HF.out⟩
  ·have HC := lh (Z3o w2 rb ts.tail d P2.out.rd hk);clear hk;go_wp2_with fail
   refine HC.out.mono ?_;rintro e w9 ⟨⟨b,rfl,h1,h2⟩,hB⟩;exact ⟨rfl,Z01.err F2.out ⟨b,rfl,h1,h2⟩ hB⟩
 have h':isT Z0g ts=false:=by simpa using h
 have hq:=QK4.out;rw [Y3 h] at hq;have QK5:=lh hq;have HT:=Z11 wk4 rb ts d Z0g PK4.out.rd h';unfold Z0g at HT;have HT:=lh HT;clear h h' hq;go_wp2_with fail
 refine HT.out.mono ?_;rintro e wk5 ⟨rfl,hB2⟩;have PK5:=lh (PK4.out.below hB2);have FK5:=lh (FK4.out.trans (RFr.below (rb:=rb) hB2));clear hB2 HT PK4 FK4 QK4;by_cases h:isT s_if ts=true
 ·have hq := QK5.out;rw [Y5 h] at hq;have HQ2 := lh hq;have HT := Z0j wk5 rb ts d s_if PK5.out.rd h;unfold s_if at HT;have HT := lh HT;clear h hq;go_wp2_with fail
  refine HT.out.mono ?_;rintro e w2 ⟨rfl,hR2,hF2⟩;have P2:=lh (PK5.out.tail hR2 hF2);have F2:=lh (FK5.out.trans hF2);clear hR2 hF2 HT;rcases Zp HQ2.out with ⟨⟨c,p⟩,hv,rfl⟩ | ⟨t,vs,hv,hq4⟩
  ·have HC := HA.out w2 rb B d _ _ P2.out hv;unfold rArg at HC;have HC := lh HC;clear hv;go_wp2_with fail
   refine HC.out.mono ?_;rintro e wz ⟨⟨b,rfl,h1,h2⟩,hF⟩;exact ⟨rfl,Z01.pre F2.out (r:=.error (c,p)) ⟨⟨b,rfl,h1,h2⟩,hF⟩⟩
  have HC:=HA.out w2 rb B d _ _ P2.out hv;unfold rArg at HC;have HC:=lh HC;have HVL:=lh (Z0k hv);have HQ4:=lh hq4;clear hv hq4;go_wp2_with fail
  refine HC.out.mono ?_;rintro e w3 ⟨x,rfl,hX,hR3,hF3⟩;have P3:=lh (P2.out.next hR3 hF3 HVL.out);have F3:=lh (F2.out.trans hF3);have X3:=lh (hX.pre F2.out);obtain ⟨xb,hxb⟩:=zX x.b
  have HXB:=lh hxb;rw [← hxb];clear hX hR3 hF3 HC hxb;rcases Zp HQ4.out with ⟨⟨c,p⟩,hv,rfl⟩ | ⟨ty,us,hv,hq5⟩
  ·have HC := lh (Z04 w3 rb B _ d _ _ P3.out.rd (by have := P3.out.deep; omega) hlt hv fun hd h1 w4 hR hs => HS.out w4 rb B (d + 1) _ _ ⟨hR, hd, hlt, by have := P3.out.le; omega, P3.out.few⟩ h1);clear hv;go_wp2_with fail
   refine HC.out.mono ?_;rintro e wz ⟨⟨b,rfl,h1,h2⟩,hF⟩;exact ⟨rfl,Z01.pre F3.out (r:=.error (c,p)) ⟨⟨b,rfl,h1,h2⟩,hF⟩⟩
  have HC:=lh (Z04 w3 rb B _ d _ _ P3.out.rd (by have:=P3.out.deep; omega) hlt hv fun hd h1 w4 hR hs=>HS.out w4 rb B (d + 1) _ _ ⟨hR,hd,hlt,by have:=P3.out.le; omega,P3.out.few⟩ h1);have HVL2:=lh (Nat.le_of_lt (Leaves.within (Z0c f .stmt (d + 1) _) ty us hv));have HQ5:=lh hq5;clear hv hq5;go_wp2_with fail
  refine HC.out.mono ?_;rintro e w4 ⟨y,rfl,hY,hR,hF4⟩;have hX4:=X3.out.rfr hlt hF4;have hFW:=F3.out.trans hF4;have hX4':Got w B w4 x t:=hX4;have hb1:Below w4.heap.size w4 (w4.alloc (.cells #[.pointer (some ⟨xb,0,none⟩),.pointer (some ⟨y.b,0,none⟩)] 22)):=(Y2 _ _).alloc (Y0 _) _;have hb2:Below w4.heap.size w4 ((w4.alloc (.cells #[.pointer (some ⟨xb,0,none⟩),.pointer (some ⟨y.b,0,none⟩)] 22)).alloc (.cells #[.int .i64 7,.string ⟨#[]⟩,.int .i64 0,.slice (some ⟨w4.heap.size,0,none⟩) 2 2] 34)):=hb1.alloc (by simp) _
  have hA:=Got.two (k:=7) (t:=⟨#[]⟩) HP.out.le hFW hX4 (wA:=w3) (fun z hz=>(X3.out.new z hz).2) F3.out.size hY;have hR2:=hR.below hb2;have hF2:=hFW.trans (RFr.below (rb:=rb) hb2);have HN:=lh (Z0a (w4.alloc (.cells #[.pointer (some ⟨xb,0,none⟩),.pointer (some ⟨y.b,0,none⟩)] 22)) rb 7 ⟨#[]⟩ (some ⟨w4.heap.size,0,none⟩) 2 2);obtain ⟨sb,hsb⟩:=zX w4.heap.size
  rw [← hsb] at HN hA hb2 hR2 hF2;have HSB:=lh hsb;go_wp2_with fail
  rw [← HSB.out];refine HN.out.mono ?_;rintro e wn ⟨rfl,hwn⟩;have hb3:Below w4.heap.size w4 wn:=by rw [hwn]; exact hb1.alloc (by simp) _
  have hsz:(w4.alloc (.cells #[.pointer (some ⟨xb,0,none⟩),.pointer (some ⟨y.b,0,none⟩)] 22)).heap.size=sb + 1:=by rw [HSB.out]; simp
  rw [hsz];obtain ⟨nb,hnb⟩:=zX (sb + 1)
  rw [← hnb] at hA ⊢;have hA:Got w B wn (.mk nb (.slice (some ⟨sb,0,none⟩) 2 2) 7 ⟨#[]⟩ 0 [x,y]) (.mk 7 ⟨#[]⟩ 0 [t,ty]):=by rw [hwn,HXB.out]; exact hA
  rw [← hwn] at hR2 hF2;have N:=lh hA;have FQ:=lh hF2;have PQ:=lh ((P3.out.next (ts':=us) hR hF4 HVL2.out).next hR2 (RFr.below (rb:=rb) hb3) (Y0 _));clear hX4 hX4' hFW hY hR hF4 hb1 hb2 hb3 hA hR2 hF2 HN hsb hwn hsz hnb HC;by_cases he:isT Z2o us=true
  ·have hq := HQ5.out;rw [Y5 he] at hq;have H2 := lh hq;have HT := Z0j wn rb us d Z2o PQ.out.rd he;unfold Z2o at HT;have HT := lh HT;clear he hq;go_wp2_with fail
   refine HT.out.mono ?_;rintro e wf ⟨rfl,hRf,hFf⟩;have N:=lh (N.out.rfr hlt hFf);have PQ:=lh (PQ.out.tail hRf hFf);have FQ:=lh (FQ.out.trans hFf);clear hRf hFf HT;have hblk:=N.out.at'.blkOf;simp only [ATree.b,ATree.v,ATree.kind,ATree.text,ATree.n] at hblk;have n3:wf.cell? ⟨nb,3,none⟩=some (.slice (some ⟨sb,0,none⟩) 2 2):=by simp [World.cell?,hblk]
   clear hblk;go_wp2_with fail
   refine Z4 [(true,0),(true,1),(true,2),(true,3),(true,4),(true,5),(true,6),(true,7),(false,8),(false,9),(false,10)] [11,12,13] (fun W=>W.cell? ⟨nb,3,none⟩=some (.slice (some ⟨sb,0,none⟩) 2 2)) (by kernel_rfl) (by kernel_rfl) (fun _ _ d _ _ h=>by cases d <;> exact h) n3 (fun hS0=>?_);simp only [Zj,zD,zE,zF,zG,zH,zI]
   iterate 8
    first
     | (refine Z7 ?_ (by rfl) (fun w' hS'=>?_) ?_; rotate_left; (have s0:=hS'; go_simp; first | done | with_reducible rfl); simp only [Act.put,zA,zB,zC])
     | (refine Z6 (by rfl) ?_; simp only [Act.put,zA,zB,zC])
   refine Zd (fun K hK=>?_);go_simp
   have P7:Pre wf.drew rb B d _:=PQ.out.below (Y2 _ _).drew;rcases Zp H2.out with ⟨⟨c,p⟩,hv,rfl⟩ | ⟨t6,vs6,hv,hq6⟩
   ·refine (Z04 wf.drew rb B _ d _ _ P7.rd (by have:=P7.deep; omega) hlt hv fun hd h1 w4 hR hs=>HS.out w4 rb B (d + 1) _ _ ⟨hR,hd,hlt,by have:=P7.le; omega,P7.few⟩ h1).mono ?_;rintro e wz ⟨⟨b,rfl,h1,h2⟩,hF⟩;exact ⟨rfl,Z01.pre FQ.out.drew (r:=.error (c,p)) ⟨⟨b,rfl,h1,h2⟩,hF⟩⟩
   have HVL6:=lh (Nat.le_of_lt (Leaves.within (Z0c f .stmt (d + 1) _) t6 vs6 hv));have HQ6:=lh hq6;refine (Z04 wf.drew rb B _ d _ _ P7.rd (by have:=P7.deep; omega) hlt hv fun hd h1 w4 hR hs=>HS.out w4 rb B (d + 1) _ _ ⟨hR,hd,hlt,by have:=P7.le; omega,P7.few⟩ h1).mono ?_;rintro e w3' ⟨a,rfl,hA,hR3,hF7⟩;have hF63:RFr wf w3' rb:=(RFr.refl wf rb).drew.trans hF7;have hN3:=N.out.rfr hlt hF63;have hblk:=hN3.at'.blkOf;simp only [ATree.b,ATree.v,ATree.kind,ATree.text,ATree.n] at hblk
   have m3:w3'.cell? ⟨nb,3,none⟩=some (.slice (some ⟨sb,0,none⟩) 2 2):=by simp [World.cell?,hblk]
   have mz:w3'.frozen? ⟨nb,3,none⟩=false:=by simp [World.frozen?,hblk]
   have hnb3:nb < w3'.heap.size:=(Y1.1 hblk).1;have hnd:=hN3.nodup;simp only [ATree.blocks,List.nodup_cons,List.mem_append,Option.mem_toList,not_or] at hnd;have hne:=hnd.1.1;have hk4:([x,y]).length≤8:=by simp
   have N3:=lh hN3;have A3:=lh hA;have R3:=lh hR3;have F3':=lh (FQ.out.trans hF63);have NE:=lh hne;have NA:=lh (show ∀ z∈(ATree.mk nb (.slice (some ⟨sb,0,none⟩) 2 2) 7 ⟨#[]⟩ 0 [x,y]).blocks,z < wf.drew.heap.size from fun z hz=>(N.out.new z hz).2);refine hK _ _ m3 ?_;obtain ⟨i0,hi,hz0,hz1,hz2⟩:=info_parts Tryz.infoPtr;clear hK K hA hR3 hF63 hN3 hblk hnd hne n3 hF7 hv hq6 P7;refine Zd (fun K hK=>?_);go_simp
   refine hK _ _ ((Zu hnb3).trans m3) ?_;clear hK K;refine Zd (fun K hK=>?_)
   refine step_append_lies _ (by rfl) (.tmp 65) (.tmp 70) 32 (by rfl) B 22 i0 _ 1 8 Tryz.underlying32 hi hz0 hz1 hz2 rfl (by decide) (.slice (some ⟨sb,0,none⟩) 2 2) ([x,y]).length (([x,y]).map ATree.ptr) (by rfl) (N3.out.at'.rowOf.alloc _) ⟨w3'.heap.size,0,none⟩ 1 1 [a.ptr] (by rfl) rfl (Ya (cs:=#[a.ptr]) (t:=22) (fr:=(0,0)) (heap_alloc_new w3' _)) (by simp [ATree.ptr,Value.oneCell']) (by decide) (by unfold maxLen; omega) (by omega) (by simp; have:=F3'.out.size; have:=HP.out.le; omega) (w3'.heap.size + 1) (by simp) ?_;intro gg cap w4 hown4 hgrow4 hat4 hlt4
   have m4:w4.cell? ⟨nb,3,none⟩=some (.slice (some ⟨sb,0,none⟩) 2 2):=(hgrow4.cell_far ⟨nb,3,none⟩ (by simp; omega) (fun e=>NE.out e.symm)).trans ((Zu hnb3).trans m3);have mz4:w4.frozen? ⟨nb,3,none⟩=false:=(hgrow4.frozen_far ⟨nb,3,none⟩ (by simp; omega) (fun e=>NE.out e.symm)).trans ((Z0o hnb3).trans mz);refine hK _ _ m4 ?_;clear hK K;simp only [Act.put,zA,zB,zC]
   have hfin:=Got.push hlt HP.out.le N3.out (wA:=wf.drew) NA.out A3.out F3'.out R3.out ((Y2 _ _).alloc (Y0 _) _) hgrow4 hown4 (by rcases hat4 with h | h; (exact .inl h); (exact .inr (by omega))) hlt4;have FIN:=lh hfin;clear hgrow4 hown4 hat4 hlt4 hfin;refine Zb ?_;have HR5:=lh (Yc HQ6.out).symm;go_wp2;go_ret;rw [HR5.out];refine ⟨.mk nb (.slice (some ⟨gg,0,none⟩) (([x,y]:List ATree).length + 1) cap) 7 ⟨#[]⟩ 0 ([x,y] ++ [a]),rfl,?_,FIN.out.2.2,FIN.out.2.1⟩;have h1:=FIN.out.1;have h2:=N.out.tree
   simp only [ATree.tree,Tree.mk.injEq,true_and] at h2;rw [h2] at h1;exact h1
  ·have he' : isT Z2o us = false := by simpa using he
   have hq:=HQ5.out;rw [Y3 he] at hq;have HR5:=lh (Yc hq).symm;have HT:=Z11 wn rb us d Z2o PQ.out.rd he';unfold Z2o at HT;have HT:=lh HT;clear he he' hq;go_wp2_with fail
   refine HT.out.mono ?_;rintro e wf ⟨rfl,hBf⟩;have N:=lh (N.out.rfr hlt (RFr.below (rb:=rb) hBf));have R:=lh (PQ.out.rd.below hBf);have FQ:=lh (FQ.out.trans (RFr.below (rb:=rb) hBf));clear hBf HT;go_wp2;go_ret;rw [HR5.out];exact ⟨_,rfl,N.out,R.out,FQ.out⟩
 have h':isT s_if ts=false:=by simpa using h
 have hq:=QK5.out;rw [Y3 h] at hq;have QK6:=lh hq;have HT:=Z11 wk5 rb ts d s_if PK5.out.rd h';unfold s_if at HT;have HT:=lh HT;clear h h' hq;go_wp2_with fail
 refine HT.out.mono ?_;rintro e wk6 ⟨rfl,hB2⟩;have PK6:=lh (PK5.out.below hB2);have FK6:=lh (FK5.out.trans (RFr.below (rb:=rb) hB2));clear hB2 HT PK5 FK5 QK5;by_cases h:isT Z2v ts=true
 ·have hq := QK6.out;rw [Y5 h] at hq;have HQ2 := lh hq;have HT := Z0j wk6 rb ts d Z2v PK6.out.rd h;unfold Z2v at HT;have HT := lh HT;clear h hq;go_wp2_with fail
  refine HT.out.mono ?_;rintro e w2 ⟨rfl,hR2,hF2⟩;have P2:=lh (PK6.out.tail hR2 hF2);have F2:=lh (FK6.out.trans hF2);clear hR2 hF2 HT;rcases Zp HQ2.out with ⟨⟨c,p⟩,hv,rfl⟩ | ⟨t,vs,hv,hq4⟩
  ·have HC := HA.out w2 rb B d _ _ P2.out hv;unfold rArg at HC;have HC := lh HC;clear hv;go_wp2_with fail
   refine HC.out.mono ?_;rintro e wz ⟨⟨b,rfl,h1,h2⟩,hF⟩;exact ⟨rfl,Z01.pre F2.out (r:=.error (c,p)) ⟨⟨b,rfl,h1,h2⟩,hF⟩⟩
  have HC:=HA.out w2 rb B d _ _ P2.out hv;unfold rArg at HC;have HC:=lh HC;have HVL:=lh (Z0k hv);have HQ4:=lh hq4;clear hv hq4;go_wp2_with fail
  refine HC.out.mono ?_;rintro e w3 ⟨x,rfl,hX,hR3,hF3⟩;have P3:=lh (P2.out.next hR3 hF3 HVL.out);have F3:=lh (F2.out.trans hF3);have X3:=lh (hX.pre F2.out);obtain ⟨xb,hxb⟩:=zX x.b
  have HXB:=lh hxb;rw [← hxb];clear hX hR3 hF3 HC hxb;rcases Zp HQ4.out with ⟨⟨c,p⟩,hv,rfl⟩ | ⟨ty,us,hv,hq5⟩
  ·have HC := lh (Z04 w3 rb B _ d _ _ P3.out.rd (by have := P3.out.deep; omega) hlt hv fun hd h1 w4 hR hs => HS.out w4 rb B (d + 1) _ _ ⟨hR, hd, hlt, by have := P3.out.le; omega, P3.out.few⟩ h1);clear hv;go_wp2_with fail
   refine HC.out.mono ?_;rintro e wz ⟨⟨b,rfl,h1,h2⟩,hF⟩;exact ⟨rfl,Z01.pre F3.out (r:=.error (c,p)) ⟨⟨b,rfl,h1,h2⟩,hF⟩⟩
  have HC:=lh (Z04 w3 rb B _ d _ _ P3.out.rd (by have:=P3.out.deep; omega) hlt hv fun hd h1 w4 hR hs=>HS.out w4 rb B (d + 1) _ _ ⟨hR,hd,hlt,by have:=P3.out.le; omega,P3.out.few⟩ h1);have HVL2:=lh (Nat.le_of_lt (Leaves.within (Z0c f .stmt (d + 1) _) ty us hv));have HQ5:=lh hq5;clear hv hq5;go_wp2_with fail
  refine HC.out.mono ?_;rintro e w4 ⟨y,rfl,hY,hR,hF4⟩;have hX4:=X3.out.rfr hlt hF4;have hFW:=F3.out.trans hF4;have hX4':Got w B w4 x t:=hX4;have hb1:Below w4.heap.size w4 (w4.alloc (.cells #[.pointer (some ⟨xb,0,none⟩),.pointer (some ⟨y.b,0,none⟩)] 22)):=(Y2 _ _).alloc (Y0 _) _;have hb2:Below w4.heap.size w4 ((w4.alloc (.cells #[.pointer (some ⟨xb,0,none⟩),.pointer (some ⟨y.b,0,none⟩)] 22)).alloc (.cells #[.int .i64 8,.string ⟨#[]⟩,.int .i64 0,.slice (some ⟨w4.heap.size,0,none⟩) 2 2] 34)):=hb1.alloc (by simp) _
  have hA:=Got.two (k:=8) (t:=⟨#[]⟩) HP.out.le hFW hX4 (wA:=w3) (fun z hz=>(X3.out.new z hz).2) F3.out.size hY;have hR2:=hR.below hb2;have hF2:=hFW.trans (RFr.below (rb:=rb) hb2);have HN:=lh (Z0a (w4.alloc (.cells #[.pointer (some ⟨xb,0,none⟩),.pointer (some ⟨y.b,0,none⟩)] 22)) rb 8 ⟨#[]⟩ (some ⟨w4.heap.size,0,none⟩) 2 2);obtain ⟨sb,hsb⟩:=zX w4.heap.size
  rw [← hsb] at HN hA hb2 hR2 hF2;have HSB:=lh hsb;go_wp2_with fail
  rw [← HSB.out];refine HN.out.mono ?_;rintro e wn ⟨rfl,hwn⟩;have hb3:Below w4.heap.size w4 wn:=by rw [hwn]; exact hb1.alloc (by simp) _
  have hsz:(w4.alloc (.cells #[.pointer (some ⟨xb,0,none⟩),.pointer (some ⟨y.b,0,none⟩)] 22)).heap.size=sb + 1:=by rw [HSB.out]; simp
  rw [hsz];obtain ⟨nb,hnb⟩:=zX (sb + 1)
  rw [← hnb] at hA ⊢;have hA:Got w B wn (.mk nb (.slice (some ⟨sb,0,none⟩) 2 2) 8 ⟨#[]⟩ 0 [x,y]) (.mk 8 ⟨#[]⟩ 0 [t,ty]):=by rw [hwn,HXB.out]; exact hA
  rw [← hwn] at hR2 hF2;have N:=lh hA;have FQ:=lh hF2;have PQ:=lh ((P3.out.next (ts':=us) hR hF4 HVL2.out).next hR2 (RFr.below (rb:=rb) hb3) (Y0 _));clear hX4 hX4' hFW hY hR hF4 hb1 hb2 hb3 hA hR2 hF2 HN hsb hwn hsz hnb HC;have HR5:=lh (Yc HQ5.out).symm;go_wp2;go_ret;rw [HR5.out];exact ⟨_,rfl,N.out,PQ.out.rd,FQ.out⟩
 have h':isT Z2v ts=false:=by simpa using h
 have hq:=QK6.out;rw [Y3 h] at hq;have QK7:=lh hq;have HT:=Z11 wk6 rb ts d Z2v PK6.out.rd h';unfold Z2v at HT;have HT:=lh HT;clear h h' hq;go_wp2_with fail
 refine HT.out.mono ?_;rintro e wk7 ⟨rfl,hB2⟩;have PK7:=lh (PK6.out.below hB2);have FK7:=lh (FK6.out.trans (RFr.below (rb:=rb) hB2));clear hB2 HT PK6 FK6 QK6;by_cases h:isT Z3t ts=true
 ·have hq := QK7.out;rw [Y5 h] at hq;have HQ2 := lh hq;have HT := Z0j wk7 rb ts d Z3t PK7.out.rd h;unfold Z3t at HT;have HT := lh HT;clear h hq;go_wp2_with fail
  refine HT.out.mono ?_;rintro e w2 ⟨rfl,hR2,hF2⟩;have P2:=lh (PK7.out.tail hR2 hF2);have F2:=lh (FK7.out.trans hF2);clear hR2 hF2 HT;rcases Zp HQ2.out with ⟨⟨c,p⟩,hv,rfl⟩ | ⟨t,vs,hv,hq4⟩
  ·have HC := HA.out w2 rb B d _ _ P2.out hv;unfold rArg at HC;have HC := lh HC;clear hv;go_wp2_with fail
   refine HC.out.mono ?_;rintro e wz ⟨⟨b,rfl,h1,h2⟩,hF⟩;exact ⟨rfl,Z01.pre F2.out (r:=.error (c,p)) ⟨⟨b,rfl,h1,h2⟩,hF⟩⟩
  have HC:=HA.out w2 rb B d _ _ P2.out hv;unfold rArg at HC;have HC:=lh HC;have HVL:=lh (Z0k hv);have HQ4:=lh hq4;clear hv hq4;go_wp2_with fail
  refine HC.out.mono ?_;rintro e w3 ⟨x,rfl,hX,hR3,hF3⟩;have P3:=lh (P2.out.next hR3 hF3 HVL.out);have F3:=lh (F2.out.trans hF3);have X3:=lh (hX.pre F2.out);obtain ⟨xb,hxb⟩:=zX x.b
  have HXB:=lh hxb;rw [← hxb];clear hX hR3 hF3 HC hxb;rcases Zp HQ4.out with ⟨⟨c,p⟩,hv,rfl⟩ | ⟨ty,us,hv,hq5⟩
  ·have HC := lh (Z04 w3 rb B _ d _ _ P3.out.rd (by have := P3.out.deep; omega) hlt hv fun hd h1 w4 hR hs => HS.out w4 rb B (d + 1) _ _ ⟨hR, hd, hlt, by have := P3.out.le; omega, P3.out.few⟩ h1);clear hv;go_wp2_with fail
   refine HC.out.mono ?_;rintro e wz ⟨⟨b,rfl,h1,h2⟩,hF⟩;exact ⟨rfl,Z01.pre F3.out (r:=.error (c,p)) ⟨⟨b,rfl,h1,h2⟩,hF⟩⟩
  have HC:=lh (Z04 w3 rb B _ d _ _ P3.out.rd (by have:=P3.out.deep; omega) hlt hv fun hd h1 w4 hR hs=>HS.out w4 rb B (d + 1) _ _ ⟨hR,hd,hlt,by have:=P3.out.le; omega,P3.out.few⟩ h1);have HVL2:=lh (Nat.le_of_lt (Leaves.within (Z0c f .stmt (d + 1) _) ty us hv));have HQ5:=lh hq5;clear hv hq5;go_wp2_with fail
  refine HC.out.mono ?_;rintro e w4 ⟨y,rfl,hY,hR,hF4⟩;have hX4:=X3.out.rfr hlt hF4;have hFW:=F3.out.trans hF4;have hX4':Got w B w4 x t:=hX4;have hb1:Below w4.heap.size w4 (w4.alloc (.cells #[.pointer (some ⟨xb,0,none⟩),.pointer (some ⟨y.b,0,none⟩)] 22)):=(Y2 _ _).alloc (Y0 _) _;have hb2:Below w4.heap.size w4 ((w4.alloc (.cells #[.pointer (some ⟨xb,0,none⟩),.pointer (some ⟨y.b,0,none⟩)] 22)).alloc (.cells #[.int .i64 9,.string ⟨#[]⟩,.int .i64 0,.slice (some ⟨w4.heap.size,0,none⟩) 2 2] 34)):=hb1.alloc (by simp) _
  have hA:=Got.two (k:=9) (t:=⟨#[]⟩) HP.out.le hFW hX4 (wA:=w3) (fun z hz=>(X3.out.new z hz).2) F3.out.size hY;have hR2:=hR.below hb2;have hF2:=hFW.trans (RFr.below (rb:=rb) hb2);have HN:=lh (Z0a (w4.alloc (.cells #[.pointer (some ⟨xb,0,none⟩),.pointer (some ⟨y.b,0,none⟩)] 22)) rb 9 ⟨#[]⟩ (some ⟨w4.heap.size,0,none⟩) 2 2);obtain ⟨sb,hsb⟩:=zX w4.heap.size
  rw [← hsb] at HN hA hb2 hR2 hF2;have HSB:=lh hsb;go_wp2_with fail
  rw [← HSB.out];refine HN.out.mono ?_;rintro e wn ⟨rfl,hwn⟩;have hb3:Below w4.heap.size w4 wn:=by rw [hwn]; exact hb1.alloc (by simp) _
  have hsz:(w4.alloc (.cells #[.pointer (some ⟨xb,0,none⟩),.pointer (some ⟨y.b,0,none⟩)] 22)).heap.size=sb + 1:=by rw [HSB.out]; simp
  rw [hsz];obtain ⟨nb,hnb⟩:=zX (sb + 1)
  rw [← hnb] at hA ⊢;have hA:Got w B wn (.mk nb (.slice (some ⟨sb,0,none⟩) 2 2) 9 ⟨#[]⟩ 0 [x,y]) (.mk 9 ⟨#[]⟩ 0 [t,ty]):=by rw [hwn,HXB.out]; exact hA
  rw [← hwn] at hR2 hF2;have N:=lh hA;have FQ:=lh hF2;have PQ:=lh ((P3.out.next (ts':=us) hR hF4 HVL2.out).next hR2 (RFr.below (rb:=rb) hb3) (Y0 _));clear hX4 hX4' hFW hY hR hF4 hb1 hb2 hb3 hA hR2 hF2 HN hsb hwn hsz hnb HC;have HR5:=lh (Yc HQ5.out).symm;go_wp2;go_ret;rw [HR5.out];exact ⟨_,rfl,N.out,PQ.out.rd,FQ.out⟩
 have h':isT Z3t ts=false:=by simpa using h
 have hq:=QK7.out;rw [Y3 h] at hq;have QK8:=lh hq;have HT:=Z11 wk7 rb ts d Z3t PK7.out.rd h';unfold Z3t at HT;have HT:=lh HT;clear h h' hq;go_wp2_with fail
 refine HT.out.mono ?_;rintro e wk8 ⟨rfl,hB2⟩;have PK8:=lh (PK7.out.below hB2);have FK8:=lh (FK7.out.trans (RFr.below (rb:=rb) hB2));clear hB2 HT PK7 FK7 QK7;by_cases h:isT Z26 ts=true
 ·have hq := QK8.out;rw [Y5 h] at hq;have HQ2 := lh hq;have HT := Z0j wk8 rb ts d Z26 PK8.out.rd h;unfold Z26 at HT;have HT := lh HT;clear h hq;go_wp2_with fail
  refine HT.out.mono ?_;rintro e w2 ⟨rfl,hR2,hF2⟩;have P2:=lh (PK8.out.tail hR2 hF2);have F2:=lh (FK8.out.trans hF2);clear hR2 hF2 HT;have HN:=lh (Z0a w2 rb 10 ⟨#[]⟩ none 0 0);obtain ⟨nb,hnb⟩:=zX w2.heap.size
  have G3:=Got.leaf (k:=10) (t:=⟨#[]⟩) (n:=0) HP.out.le F2.out;have hal:Below w2.heap.size w2 (w2.alloc (.cells #[.int .i64 10,.string ⟨#[]⟩,.int .i64 0,.slice none 0 0] 34)):=(Y2 _ _).alloc (Y0 _) _;have P3:=P2.out.below hal;have F3:=F2.out.trans (RFr.below (rb:=rb) hal);rw [← hnb] at HN G3;go_wp2_with fail
  refine HN.out.mono ?_;rintro e w3 ⟨rfl,hw3⟩;rw [← hw3] at G3 P3 F3;have N:=lh G3;have PQ:=lh P3;have FQ:=lh F3;clear G3 P3 F3 hal hw3 HN hnb;by_cases hsm:isT Z1x ts.tail=true
  ·have hq := HQ2.out;rw [Y5 hsm] at hq;have HB := Z2k w3 rb ts.tail d Z1x PQ.out.rd;rw [hsm] at HB;unfold Z1x at HB;have HB := lh HB;have HQ4 := lh hq;clear hq hsm;go_wp2_with fail
   refine HB.out.mono ?_;rintro e w4 ⟨rfl,hB4⟩;have HE:=Z4d w w4 rb B d _ _ _ r (PQ.out.below hB4) (N.out.rfr hlt (RFr.below (rb:=rb) hB4)) (FQ.out.trans (RFr.below hB4)) HQ4.out;simp only [ATree.b] at HE;have HE:=lh HE;clear hB4 HB;go_wp2_with fail
   refine HE.out.mono ?_;rcases r with ⟨c,p⟩ | ⟨t,ts'⟩
   ·rintro e wz ⟨⟨b,rfl,h1,h2⟩,hF⟩;exact ⟨rfl,⟨b,rfl,h1,h2⟩,hF⟩
   ·rintro e wz ⟨az,rfl,hG,hR,hF⟩;have HG:=lh hG;have HR:=lh hR;have HF:=lh hF;clear hG hR hF HE;go_wp2;go_ret;exact ⟨az,rfl,HG.out,HR.out,HF.out⟩
  have hsm':isT Z1x ts.tail=false:=by simpa using hsm
  have hq:=HQ2.out;rw [Y3 hsm] at hq;have HB:=Z2k w3 rb ts.tail d Z1x PQ.out.rd;rw [hsm'] at HB;unfold Z1x at HB;have HB:=lh HB;have H2:=lh hq;clear hq hsm hsm';go_wp2_with fail
  refine HB.out.mono ?_;rintro e wf ⟨rfl,hBf⟩;have N:=lh (N.out.rfr hlt (RFr.below (rb:=rb) hBf));have PQ:=lh (PQ.out.below hBf);have FQ:=lh (FQ.out.trans (RFr.below (rb:=rb) hBf));clear hBf HB;have hblk:=N.out.at'.blkOf;simp only [ATree.b,ATree.v,ATree.kind,ATree.text,ATree.n] at hblk;have n3:wf.cell? ⟨nb,3,none⟩=some (.slice none 0 0):=by simp [World.cell?,hblk]
  clear hblk;go_wp2_with fail
  refine Z4 [(true,0),(true,1),(true,2),(true,3),(true,4),(true,5),(false,6),(false,7),(false,8)] [9,10,11] (fun W=>W.cell? ⟨nb,3,none⟩=some (.slice none 0 0)) (by kernel_rfl) (by kernel_rfl) (fun _ _ d _ _ h=>by cases d <;> exact h) n3 (fun hS0=>?_);simp only [Zj,zD,zE,zF,zG,zH,zI]
  iterate 6
   first
    | (refine Z7 ?_ (by rfl) (fun w' hS'=>?_) ?_; rotate_left; (have s0:=hS'; go_simp; first | done | with_reducible rfl); simp only [Act.put,zA,zB,zC])
    | (refine Z6 (by rfl) ?_; simp only [Act.put,zA,zB,zC])
  refine Zd (fun K hK=>?_);go_simp
  have P7:Pre wf.drew rb B d _:=PQ.out.below (Y2 _ _).drew;rcases Zp H2.out with ⟨⟨c,p⟩,hv,rfl⟩ | ⟨t6,vs6,hv,hq6⟩
  ·refine (HV.out wf.drew rb B d _ _ P7 hv).mono ?_;rintro e wz ⟨⟨b,rfl,h1,h2⟩,hF⟩;exact ⟨rfl,Z01.pre FQ.out.drew (r:=.error (c,p)) ⟨⟨b,rfl,h1,h2⟩,hF⟩⟩
  have HVL6:=lh (Z0k hv);have HQ6:=lh hq6;refine (HV.out wf.drew rb B d _ _ P7 hv).mono ?_;rintro e w3' ⟨a,rfl,hA,hR3,hF7⟩;have hF63:RFr wf w3' rb:=(RFr.refl wf rb).drew.trans hF7;have hN3:=N.out.rfr hlt hF63;have hblk:=hN3.at'.blkOf;simp only [ATree.b,ATree.v,ATree.kind,ATree.text,ATree.n] at hblk;have m3:w3'.cell? ⟨nb,3,none⟩=some (.slice none 0 0):=by simp [World.cell?,hblk]
  have mz:w3'.frozen? ⟨nb,3,none⟩=false:=by simp [World.frozen?,hblk]
  have hnb3:nb < w3'.heap.size:=(Y1.1 hblk).1;have hnd:=hN3.nodup;simp only [ATree.blocks,List.nodup_cons,List.mem_append,Option.mem_toList,not_or] at hnd;have hne:=hnd.1.1;have hk4:(([]:List ATree)).length≤8:=by simp
  have N3:=lh hN3;have A3:=lh hA;have R3:=lh hR3;have F3':=lh (FQ.out.trans hF63);have NE:=lh hne;have NA:=lh (show ∀ z∈(ATree.mk nb (.slice none 0 0) 10 ⟨#[]⟩ 0 ([]:List ATree)).blocks,z < wf.drew.heap.size from fun z hz=>(N.out.new z hz).2);refine hK _ _ m3 ?_;obtain ⟨i0,hi,hz0,hz1,hz2⟩:=info_parts Tryz.infoPtr;clear hK K hA hR3 hF63 hN3 hblk hnd hne n3 hF7 hv hq6 P7;refine Zd (fun K hK=>?_);go_simp
  refine hK _ _ ((Zu hnb3).trans m3) ?_;clear hK K;refine Zd (fun K hK=>?_)
  refine step_append_lies _ (by rfl) (.tmp 113) (.tmp 116) 32 (by rfl) B 22 i0 _ 1 8 Tryz.underlying32 hi hz0 hz1 hz2 rfl (by decide) (.slice none 0 0) (([]:List ATree)).length ((([]:List ATree)).map ATree.ptr) (by rfl) (N3.out.at'.rowOf.alloc _) ⟨w3'.heap.size,0,none⟩ 1 1 [a.ptr] (by rfl) rfl (Ya (cs:=#[a.ptr]) (t:=22) (fr:=(0,0)) (heap_alloc_new w3' _)) (by simp [ATree.ptr,Value.oneCell']) (by decide) (by unfold maxLen; omega) (by omega) (by simp; have:=F3'.out.size; have:=HP.out.le; omega) (w3'.heap.size + 1) (by simp) ?_
  intro gg cap w4 hown4 hgrow4 hat4 hlt4;have m4:w4.cell? ⟨nb,3,none⟩=some (.slice none 0 0):=(hgrow4.cell_far ⟨nb,3,none⟩ (by simp; omega) (fun e=>NE.out e.symm)).trans ((Zu hnb3).trans m3);have mz4:w4.frozen? ⟨nb,3,none⟩=false:=(hgrow4.frozen_far ⟨nb,3,none⟩ (by simp; omega) (fun e=>NE.out e.symm)).trans ((Z0o hnb3).trans mz);refine hK _ _ m4 ?_;clear hK K;simp only [Act.put,zA,zB,zC]
  have hfin:=Got.push hlt HP.out.le N3.out (wA:=wf.drew) NA.out A3.out F3'.out R3.out ((Y2 _ _).alloc (Y0 _) _) hgrow4 hown4 (by rcases hat4 with h | h; (exact .inl h); (exact .inr (by omega))) hlt4;have FIN:=lh hfin;clear hgrow4 hown4 hat4 hlt4 hfin;refine Zb ?_;have HE:=Z4d w _ rb B d _ _ _ r (HP.out.next FIN.out.2.2 FIN.out.2.1 (by have:=HVL6.out; have:=Z0e ts; omega)) FIN.out.1 FIN.out.2.1 HQ6.out;simp only [ATree.b] at HE;have HE:=lh HE;clear FIN;go_wp2_with fail
  refine HE.out.mono ?_;rcases r with ⟨c,p⟩ | ⟨t,ts'⟩
  ·rintro e wz ⟨⟨b,rfl,h1,h2⟩,hF⟩;exact ⟨rfl,⟨b,rfl,h1,h2⟩,hF⟩
  ·rintro e wz ⟨az,rfl,hG,hR,hF⟩;have HG:=lh hG;have HR:=lh hR;have HF:=lh hF;clear hG hR hF HE;go_wp2;go_ret;exact ⟨az,rfl,HG.out,HR.out,HF.out⟩
 have h':isT Z26 ts=false:=by simpa using h
 have hq:=QK8.out;rw [Y3 h] at hq;have QK9:=lh hq;have HT:=Z11 wk8 rb ts d Z26 PK8.out.rd h';unfold Z26 at HT;have HT:=lh HT;clear h h' hq;go_wp2_with fail
 refine HT.out.mono ?_;rintro e wk9 ⟨rfl,hB2⟩;have PK9:=lh (PK8.out.below hB2);have FK9:=lh (FK8.out.trans (RFr.below (rb:=rb) hB2));clear hB2 HT PK8 FK8 QK8;by_cases h:isT Z2t ts=true
 ·have hq := QK9.out;rw [Y5 h] at hq;have HQ2 := lh hq;have HT := Z0j wk9 rb ts d Z2t PK9.out.rd h;unfold Z2t at HT;have HT := lh HT;clear h hq;go_wp2_with fail
  refine HT.out.mono ?_;rintro e w2 ⟨rfl,hR2,hF2⟩;have P2:=lh (PK9.out.tail hR2 hF2);have F2:=lh (FK9.out.trans hF2);clear hR2 hF2 HT;rcases Zp HQ2.out with ⟨⟨c,p⟩,hv,rfl⟩ | ⟨t,vs,hv,hq4⟩
  ·have HC := HV.out w2 rb B d _ _ P2.out hv;unfold rArg at HC;have HC := lh HC;clear hv;go_wp2_with fail
   refine HC.out.mono ?_;rintro e wz ⟨⟨b,rfl,h1,h2⟩,hF⟩;exact ⟨rfl,Z01.pre F2.out (r:=.error (c,p)) ⟨⟨b,rfl,h1,h2⟩,hF⟩⟩
  have HC:=HV.out w2 rb B d _ _ P2.out hv;unfold rArg at HC;have HC:=lh HC;have HVL:=lh (Z0k hv);have HQ4:=lh hq4;clear hv hq4;go_wp2_with fail
  refine HC.out.mono ?_;rintro e w4 ⟨x,rfl,hX,hR,hF4⟩;have hX4:=hX.pre F2.out;have hFW:=F2.out.trans hF4;have hb1:Below w4.heap.size w4 (w4.alloc (.cells #[.pointer (some ⟨x.b,0,none⟩)] 22)):=(Y2 _ _).alloc (Y0 _) _;have hb2:Below w4.heap.size w4 ((w4.alloc (.cells #[.pointer (some ⟨x.b,0,none⟩)] 22)).alloc (.cells #[.int .i64 11,.string ⟨#[]⟩,.int .i64 0,.slice (some ⟨w4.heap.size,0,none⟩) 1 1] 34)):=hb1.alloc (by simp) _;have hA:=Got.one (k:=11) (t:=⟨#[]⟩) HP.out.le hFW hX4;have hR2:=hR.below hb2
  have hF2:=hFW.trans (RFr.below (rb:=rb) hb2);have HN:=lh (Z0a (w4.alloc (.cells #[.pointer (some ⟨x.b,0,none⟩)] 22)) rb 11 ⟨#[]⟩ (some ⟨w4.heap.size,0,none⟩) 1 1);obtain ⟨sb,hsb⟩:=zX w4.heap.size
  rw [← hsb] at HN hA hb2 hR2 hF2;have HSB:=lh hsb;go_wp2_with fail
  rw [← HSB.out];refine HN.out.mono ?_;rintro e wn ⟨rfl,hwn⟩;have hb3:Below w4.heap.size w4 wn:=by rw [hwn]; exact hb1.alloc (by simp) _
  have hsz:(w4.alloc (.cells #[.pointer (some ⟨x.b,0,none⟩)] 22)).heap.size=sb + 1:=by rw [HSB.out]; simp
  rw [hsz];obtain ⟨nb,hnb⟩:=zX (sb + 1)
  rw [← hnb] at hA ⊢;have hA:Got w B wn (.mk nb (.slice (some ⟨sb,0,none⟩) 1 1) 11 ⟨#[]⟩ 0 [x]) (.mk 11 ⟨#[]⟩ 0 [t]):=by rw [hwn]; exact hA
  rw [← hwn] at hR2 hF2;have HE:=Z4d w wn rb B d _ _ _ r ((P2.out.next (ts':=vs) hR hF4 HVL.out).next hR2 (RFr.below (rb:=rb) hb3) (Y0 _)) hA hF2 HQ4.out;simp only [ATree.b] at HE;have HE:=lh HE;clear hX4 hFW hX hR hF4 hb1 hb2 hb3 hA hR2 hF2 HN hsb hwn hsz hnb HC;go_wp2_with fail
  refine HE.out.mono ?_;rcases r with ⟨c,p⟩ | ⟨t,ts'⟩
  ·rintro e wz ⟨⟨b,rfl,h1,h2⟩,hF⟩;exact ⟨rfl,⟨b,rfl,h1,h2⟩,hF⟩
  ·rintro e wz ⟨az,rfl,hG,hR,hF⟩;have HG:=lh hG;have HR:=lh hR;have HF:=lh hF;clear hG hR hF HE;go_wp2;go_ret;exact ⟨az,rfl,HG.out,HR.out,HF.out⟩
 have h':isT Z2t ts=false:=by simpa using h
 have hq:=QK9.out;rw [Y3 h] at hq;have QK10:=lh hq;have HT:=Z11 wk9 rb ts d Z2t PK9.out.rd h';unfold Z2t at HT;have HT:=lh HT;clear h h' hq;go_wp2_with fail
 refine HT.out.mono ?_;rintro e wk10 ⟨rfl,hB2⟩;have PK10:=lh (PK9.out.below hB2);have FK10:=lh (FK9.out.trans (RFr.below (rb:=rb) hB2));clear hB2 HT PK9 FK9 QK9;by_cases h:isT Z4e ts=true
 ·have hq := QK10.out;rw [Y5 h] at hq;have HQ2 := lh hq;have HT := Z0j wk10 rb ts d Z4e PK10.out.rd h;unfold Z4e at HT;have HT := lh HT;clear h hq;go_wp2_with fail
  refine HT.out.mono ?_;rintro e w2 ⟨rfl,hR2,hF2⟩;have P2:=lh (PK10.out.tail hR2 hF2);have F2:=lh (FK10.out.trans hF2);clear hR2 hF2 HT;have HC:=HTR.out w2 rb B d _ r P2.out HQ2.out;unfold rArg at HC;have HC:=lh HC;go_wp2_with fail
  refine HC.out.mono ?_;rcases r with ⟨c,p⟩ | ⟨t,ts'⟩
  ·rintro e wz ⟨⟨b,rfl,h1,h2⟩,hF⟩;exact ⟨rfl,Z01.pre F2.out (r:=.error (c,p)) ⟨⟨b,rfl,h1,h2⟩,hF⟩⟩
  ·rintro e wz ⟨a,rfl,hG,hR,hF⟩;have HG:=lh (hG.pre F2.out);have HR:=lh hR;have HF:=lh (F2.out.trans hF);clear hG hR hF HC;go_wp2;go_ret;exact ⟨a,rfl,HG.out,HR.out,HF.out⟩
 have h':isT Z4e ts=false:=by simpa using h
 have hq:=QK10.out;rw [Y3 h] at hq;have QK11:=lh hq;have HT:=Z11 wk10 rb ts d Z4e PK10.out.rd h';unfold Z4e at HT;have HT:=lh HT;clear h h' hq;go_wp2_with fail
 refine HT.out.mono ?_;rintro e wk11 ⟨rfl,hB2⟩;have PK11:=lh (PK10.out.below hB2);have FK11:=lh (FK10.out.trans (RFr.below (rb:=rb) hB2));clear hB2 HT PK10 FK10 QK10;obtain ⟨w2,rfl⟩:∃ w2:World,w2=wk11:=⟨_,rfl⟩
 have P2:=PK11;have F2:=FK11;have HQ2:=QK11;rcases Zp HQ2.out with ⟨⟨c,p⟩,hv,rfl⟩ | ⟨t,vs,hv,hq4⟩
 ·have HC := HV.out w2 rb B d _ _ P2.out hv;unfold rArg at HC;have HC := lh HC;clear hv;go_wp2_with fail
  refine HC.out.mono ?_;rintro e wz ⟨⟨b,rfl,h1,h2⟩,hF⟩;exact ⟨rfl,Z01.pre F2.out (r:=.error (c,p)) ⟨⟨b,rfl,h1,h2⟩,hF⟩⟩
 have HC:=HV.out w2 rb B d _ _ P2.out hv;unfold rArg at HC;have HC:=lh HC;have HVL:=lh (Z0k hv);have HQ4:=lh hq4;clear hv hq4;go_wp2_with fail
 refine HC.out.mono ?_;rintro e w4 ⟨x,rfl,hX,hR,hF4⟩;have hX4:=hX.pre F2.out;have hFW:=F2.out.trans hF4;have hb1:Below w4.heap.size w4 (w4.alloc (.cells #[.pointer (some ⟨x.b,0,none⟩)] 22)):=(Y2 _ _).alloc (Y0 _) _;have hb2:Below w4.heap.size w4 ((w4.alloc (.cells #[.pointer (some ⟨x.b,0,none⟩)] 22)).alloc (.cells #[.int .i64 15,.string ⟨#[]⟩,.int .i64 0,.slice (some ⟨w4.heap.size,0,none⟩) 1 1] 34)):=hb1.alloc (by simp) _;have hA:=Got.one (k:=15) (t:=⟨#[]⟩) HP.out.le hFW hX4;have hR2:=hR.below hb2;have hF2:=hFW.trans (RFr.below (rb:=rb) hb2)
 have HN:=lh (Z0a (w4.alloc (.cells #[.pointer (some ⟨x.b,0,none⟩)] 22)) rb 15 ⟨#[]⟩ (some ⟨w4.heap.size,0,none⟩) 1 1);obtain ⟨sb,hsb⟩:=zX w4.heap.size
 rw [← hsb] at HN hA hb2 hR2 hF2;have HSB:=lh hsb;go_wp2_with fail
 rw [← HSB.out];refine HN.out.mono ?_;rintro e wn ⟨rfl,hwn⟩;have hb3:Below w4.heap.size w4 wn:=by rw [hwn]; exact hb1.alloc (by simp) _
 have hsz:(w4.alloc (.cells #[.pointer (some ⟨x.b,0,none⟩)] 22)).heap.size=sb + 1:=by rw [HSB.out]; simp
 rw [hsz];obtain ⟨nb,hnb⟩:=zX (sb + 1)
 rw [← hnb] at hA ⊢;have hA:Got w B wn (.mk nb (.slice (some ⟨sb,0,none⟩) 1 1) 15 ⟨#[]⟩ 0 [x]) (.mk 15 ⟨#[]⟩ 0 [t]):=by rw [hwn]; exact hA
 rw [← hwn] at hR2 hF2;have HE:=Z4d w wn rb B d _ _ _ r ((P2.out.next (ts':=vs) hR hF4 HVL.out).next hR2 (RFr.below (rb:=rb) hb3) (Y0 _)) hA hF2 HQ4.out;simp only [ATree.b] at HE;have HE:=lh HE;clear hX4 hFW hX hR hF4 hb1 hb2 hb3 hA hR2 hF2 HN hsb hwn hsz hnb HC;go_wp2_with fail
 refine HE.out.mono ?_;rcases r with ⟨c,p⟩ | ⟨t,ts'⟩
 ·rintro e wz ⟨⟨b,rfl,h1,h2⟩,hF⟩;exact ⟨rfl,⟨b,rfl,h1,h2⟩,hF⟩
 ·rintro e wz ⟨az,rfl,hG,hR,hF⟩;have HG:=lh hG;have HR:=lh hR;have HF:=lh hF;clear hG hR hF HE;go_wp2;go_ret;exact ⟨az,rfl,HG.out,HR.out,HF.out⟩
structure AllSay (f:Nat):Prop where
 stmt:Says 31 rArg .stmt f
 value:Says 52 rArg .value f
 assign:Says 65 rArg .assign f
 bin:∀ lv,lv≤6→Says 69 (bArg lv) (.bin lv) f
 unary:Says 73 rArg .unary f
 postfix_:Says 82 rArg .postfix_ f
 primary:Says 94 rArg .primary f
 around:Says 51 rArg .around f
 func:∀ k s,Says 49 (fun rb=>#[.pointer (some ⟨rb,0,none⟩),.int .i64 k,.string s]) (.func k s) f
 object:Says 103 rArg (.object []) f
 block:∀ b,Says 45 (fun rb=>#[.pointer (some ⟨rb,0,none⟩),.bool b]) (.block b) f
 stmts:Says 12 (fun rb=>#[.pointer (some ⟨rb,0,none⟩),.int .i64 6,.string Z03]) (.stmts 6 []) f
 try_:Says 53 rArg .try_ f
 decl:∀ k m,Says 48 (fun rb=>#[.pointer (some ⟨rb,0,none⟩),.int .i64 k,.bool m]) (.decl k m) f
theorem Z1b {F:FuncId} {args:Nat→Array Value} {job:Job}:Says F args job 0:=by
 intro w rb B d ts r _ h;cases h
theorem Zfc:∀ f,AllSay f:=by
 intro f;induction f using Nat.strongRecOn with
 | _ f ih =>
   cases f with
   | zero=>exact ⟨Z1b,Z1b,Z1b,fun _ _=>Z1b,Z1b,Z1b,Z1b,Z1b,fun _ _=>Z1b,Z1b,fun _=>Z1b,Z1b,Z1b,fun _ _=>Z1b⟩
   | succ f =>
     have I:=ih f (Nat.lt_succ_self f)
     refine ⟨Zbw f (I.block false) I.decl (I.func 5) I.around I.stmt I.value I.try_,Za0 f I.assign,Z8c f (I.bin 0 (by omega)) I.value,fun lv hlv=>?_,Zaa f I.unary I.postfix_,Z7d f I.primary (fun g hg=>(ih g (by omega)).value),Z7p f I.around (I.func 37) I.object,Z8w f I.value,
      fun k s=>Zc3 f k s (I.block true),Z97 (f + 1) (fun g hg=>(ih g hg).value),fun b=>Zao f b I.stmts,Z9x (f + 1) (fun g hg=>(ih g hg).stmt),Ze8 f (I.block false),fun k m=>Zbn f k m I.value⟩
     by_cases h6:lv=6;·subst h6; exact Zb7 f I.unary
     ·exact Zdr f lv (by omega) fun g hg=>(ih g (by omega)).bin (lv + 1) (by omega)
theorem Zd1 (f:Nat):Says 12 (fun rb=>#[.pointer (some ⟨rb,0,none⟩),.int .i64 1,.string ⟨#[]⟩]) (.stmts 1 []) f:=
 Zc2 f fun g _=>(Zfc g).stmt
theorem Zf7 (p0:Addr) {σ:Type} (Inv:σ→World→Prop) (g:σ→ATree→Bool×σ) (B:Nat):∀ (m:Nat) (a:ATree),a.many≤m→(∀ s w,Inv s w→TreeAt w B a) →
 (∀ x∈a.subs,∀ s w,Inv s w→Calls Tryz.prog 14 #[x.ptr,.pointer (some p0)] w fun e w'=>e=.returned (.bool (g s x).1)∧Inv (g s x).2 w') →
 ∀ s w,Inv s w→Calls Tryz.prog 13 #[a.ptr,.func (.func 14) #[] #[.pointer (some p0)]] w fun e w'=>e=.returned (.tuple #[])∧Inv (Z8y g a s) w':=by
 intro m;induction m with
 | zero=>intro a h; exfalso; cases a; simp [ATree.many] at h
 | succ m ih =>
   intro a hm hT hg s w hI;have IH:=lh ih;have HT:=lh hT;have HG:=lh hg;have HM:=lh hm;have HC:=hg a (Z7t a) s w hI;rw [Zdp];unfold ATree.ptr at HC ⊢;obtain ⟨ok,s1,hgs⟩:∃ ok s1,g s a=(ok,s1):=⟨_,_,rfl⟩
   rw [hgs] at HC ⊢;have HC:=lh HC;clear ih hT hg hm hI hgs;cases ok
   ·go_enter Tryz.func13, Tryz.ntmps13
    go_wp2_with fail
    refine HC.out.mono ?_;rintro e w1 ⟨rfl,hI1⟩;have HI1:=lh hI1;clear hI1 HC;go_wp2;refine bodyPost_ret (results_none rfl _ _ _) rfl ?_;exact ⟨rfl,HI1.out⟩
   ·simp only [if_true];go_enter Tryz.func13, Tryz.ntmps13
    go_wp2_with fail
    refine HC.out.mono ?_;rintro e w1 ⟨rfl,hI1⟩;have hT1:=HT.out _ _ hI1;have hblk:=hT1.blkOf;have hrow:=hT1.rowOf;obtain ⟨p,cp,hv⟩:∃ p cp,a.v=.slice p a.kids.length cp:=by
     rcases Zm hrow with ⟨h1,h2⟩ | ⟨g0,cap0,h1,_⟩;·exact ⟨none,0,by rw [h1,h2]⟩
     ·exact ⟨_,_,h1⟩
    rw [hv] at hblk;have c3:w1.cell? ⟨a.b,3,none⟩=some (.slice p a.kids.length cp):=by simp [World.cell?,hblk]
    have hlen:a.kids.length≤9223372036854775807:=by
     rcases Zm hrow with ⟨h1,h2⟩ | ⟨g0,cap0,h1,k1,k2,k3⟩;·omega
     ·unfold maxLen at k2; omega
    have HI1:=lh hI1;have HV:=lh hv;obtain ⟨n,hn⟩:=zX a.kids.length
    rw [← hn] at c3 hlen;have HN:=lh hn;clear hI1 hT1 hblk hrow hv hn HC;go_wp2_with fail
    go_loopw [19] (fun i wr=>∃ k:Nat,k≤n∧i=.int .i64 k∧Hid (Inv (Z4u g (a.kids.take k) s1) wr)) (fun i _=>n - (intOf i).toNat)
    case atStart=>exact ⟨0,Yh _,rfl,lh (by simpa [Z4u] using HI1.out)⟩
    case round=>
     obtain ⟨k,hk,rfl,HI⟩:=hrel;by_cases hkn:k < n
     ·obtain ⟨x, hx⟩ : ∃ x, a.kids[k]? = some x := ⟨_, Y6 (by rw [← HN.out]; exact hkn)⟩
      have hT2:=HT.out _ _ HI.out;have hrow:=hT2.rowOf;rcases Zm hrow with ⟨_,h2⟩ | ⟨g0,cap0,hv0,k1,k2,k3⟩;·rw [← HN.out] at h2; omega
      have hp:p=some ⟨g0,0,none⟩:=by
       have:=HV.out.symm.trans hv0;simp only [Value.slice.injEq] at this;exact this.1
      subst hp;have cx:=Z0z hrow (g:=g0) (by rw [hv0]; rfl) (i:=k) (x:=x.ptr) (by rw [Yg,hx]; rfl);unfold ATree.ptr at cx;have hmem:x∈a.kids:=Yd hx;have hcall:=IH.out x (by have:=Z9l hmem; have:=HM.out; omega) (fun s w h=>(HT.out s w h).kid hmem) (fun y hy=>HG.out y (Z9n hmem hy)) _ _ HI.out;unfold ATree.ptr at hcall;have HCALL:=lh hcall;have HX:=lh hx;have hge:n≤cp:=by
       have:=HV.out.symm.trans hv0;simp only [Value.slice.injEq] at this;rw [HN.out,this.2.2]; exact k1
      clear hx hT2 hrow hv0 k1 k2 k3 hmem hcall;go_wp2_with fail
      refine HCALL.out.mono ?_;rintro e w2 ⟨rfl,hI2⟩;have HI2:=lh hI2;clear hI2 HCALL;go_wp2;go_roundw
      case rel=>exact ⟨k + 1,by omega,by go_num,lh (by rw [Z6t HX.out,Zaj]; exact HI2.out)⟩
      case measure=>simp [intOf]; omega
     ·have hk2 : k = n := by omega
      subst hk2;go_wp2;go_end0
      refine ⟨rfl,?_⟩;have:=HI.out;rwa [Ye (by rw [← HN.out]; exact Y0 _)] at this
end Go.Proofs.YtjcgkdfeplbajaaGreatDoor
