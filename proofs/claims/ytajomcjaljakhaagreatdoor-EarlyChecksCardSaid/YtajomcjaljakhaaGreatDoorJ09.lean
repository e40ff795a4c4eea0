/- slices.ContainsFunc with the closures of package early. -/
import Derived.Test.YtajomcjaljakhaaGreatDoorJ08
namespace Go.Proofs.YtajomcjaljakhaaGreatDoor
open Go Go.RowKit
set_option maxRecDepth 100000
set_option maxHeartbeats 20000000
set_option linter.unusedVariables false
theorem Zj4 (p0:Addr) {α:Type} (enc:α→Value) (g:α→Bool) (Inv:World→Prop) (p:Option Addr) (cap:Nat) (l:List α) (w:World) (hn:l.length≤9223372036854775807) (hle:l.length≤cap)
 (hc:∀ i x,l[i]?=some x→∃ b off,p=some ⟨b,off,none⟩∧∀ w1,Inv w1→w1.cell? ⟨b,off + i,none⟩=some (enc x))
 (hg:∀ x∈l,∀ w1,Inv w1→Calls Tryz.prog 41 #[enc x,.pointer (some p0)] w1 fun e w'=>e=.returned (.bool (g x))∧Inv w') (hI:Inv w) :
 Calls Tryz.prog 81 #[.slice p l.length cap,.func (.func 41) #[] #[.pointer (some p0)]] w fun e w'=>(∃ z:Int,e=.returned (.int .i64 z)∧decide (z ≥ 0)=l.any g)∧Inv w':=by
 have HC:=lh hc;have HG:=lh hg;have HI0:=lh hI;obtain ⟨n,hnn⟩:=zX l.length
 rw [← hnn] at hn hle ⊢;have HN:=lh hnn;clear hc hg hI hnn;go_enter Tryz.func81,Tryz.ntmps81
 go_wp2_with fail
 go_loopw [8] (fun i wr=>∃ (k:Nat),k≤n∧i=.int .i64 k∧Hid (∀ x∈l.take k,g x=false)∧Hid (Inv wr)) (fun i _=>n - (intOf i).toNat)
 case atStart=>exact ⟨0,Yp _,rfl,lh (by simp),HI0⟩
 case round=>
  obtain ⟨k,hk,rfl,HF,HI⟩:=hrel;clear HI0;by_cases hkn:k < n
  ·obtain ⟨x, hx⟩ : ∃ x, l[k]? = some x := ⟨_, Yd (by rw [← HN.out]; exact hkn)⟩
   obtain ⟨b,off,hp,hcell⟩:=HC.out k x hx;subst hp;have cx:=hcell wr HI.out;have HCALL:=HG.out x (Yl hx) wr HI.out;obtain ⟨vx,hvx⟩:=zX (enc x)
   rw [← hvx] at cx HCALL;obtain ⟨gx,hgx⟩:=zX (g x)
   rw [← hgx] at HCALL;have HCL:=lh HCALL;have HX:=lh hx;have HGX:=lh hgx;have hae:((⟨b,off,none⟩:Addr).add k)=⟨b,off + k,none⟩:=by unfold Addr.add; split <;> simp_all
   have hkI:(k:Int)≤9223372036854775807:=by omega
   clear hcell HCALL hvx hx hgx;go_wp2_with fail
   refine HCL.out.mono ?_;rintro e w1 ⟨rfl,hI1⟩;have HI1:=lh hI1;clear hI1 HCL;cases gx
   ·go_wp2;go_roundw
    case rel=>
     refine ⟨k + 1,by omega,by go_num,lh ?_,HI1⟩;intro y hy;obtain ⟨hkl,hke⟩:=List.getElem?_eq_some_iff.1 HX.out;rw [List.take_succ_eq_append_getElem hkl,List.mem_append] at hy;rcases hy with hy | hy;·exact HF.out y hy
     ·simp only [List.mem_singleton] at hy;rw [hy,hke];exact HGX.out.symm
    case measure=>simp [intOf]; omega
   ·go_wp2;go_ret;refine ⟨⟨_,rfl,?_⟩,HI1.out⟩;rw [List.any_eq_true.2 ⟨x,Yl HX.out,HGX.out.symm⟩];simp
  ·have hk2 : k = n := by omega
   subst hk2;go_wp2;go_ret;refine ⟨⟨_,rfl,?_⟩,HI.out⟩;have hall:l.any g=false:=by
    rw [List.any_eq_false];intro y hy;have:=HF.out y (by rw [Ym (by rw [← HN.out]; exact Y5 _)]; exact hy);simp [this]
   rw [hall];rfl
theorem Zlz (p0:Addr) {α:Type} (enc:α→Value) (g:α→Bool) (Inv:World→Prop) (p:Option Addr) (cap:Nat) (l:List α) (w:World) (hn:l.length≤9223372036854775807) (hle:l.length≤cap)
 (hc:∀ i x,l[i]?=some x→∃ b off,p=some ⟨b,off,none⟩∧∀ w1,Inv w1→w1.cell? ⟨b,off + i,none⟩=some (enc x))
 (hg:∀ x∈l,∀ w1,Inv w1→Calls Tryz.prog 41 #[enc x,.pointer (some p0)] w1 fun e w'=>e=.returned (.bool (g x))∧Inv w') (hI:Inv w) :
 Calls Tryz.prog 40 #[.slice p l.length cap,.func (.func 41) #[] #[.pointer (some p0)]] w fun e w'=>e=.returned (.bool (l.any g))∧Inv w':=by
 have HC:=lh (Zj4 p0 enc g Inv p cap l w hn hle hc hg hI);clear hn hle hc hg hI;go_enter Tryz.func40,Tryz.ntmps40
 go_wp2_with fail
 refine HC.out.mono ?_;rintro e w1 ⟨⟨z,rfl,hz⟩,hI1⟩;have HZ:=lh hz;clear hz HC;go_wp2;go_ret;refine ⟨?_,hI1⟩;rw [← HZ.out];rfl
theorem Zje (p0:Addr) {α:Type} (enc:α→Value) (g:α→Bool) (Inv:World→Prop) (p:Option Addr) (cap:Nat) (l:List α) (w:World) (hn:l.length≤9223372036854775807) (hle:l.length≤cap)
 (hc:∀ i x,l[i]?=some x→∃ b off,p=some ⟨b,off,none⟩∧∀ w1,Inv w1→w1.cell? ⟨b,off + i,none⟩=some (enc x))
 (hg:∀ x∈l,∀ w1,Inv w1→Calls Tryz.prog 43 #[enc x,.pointer (some p0)] w1 fun e w'=>e=.returned (.bool (g x))∧Inv w') (hI:Inv w) :
 Calls Tryz.prog 82 #[.slice p l.length cap,.func (.func 43) #[] #[.pointer (some p0)]] w fun e w'=>(∃ z:Int,e=.returned (.int .i64 z)∧decide (z ≥ 0)=l.any g)∧Inv w':=by
 have HC:=lh hc;have HG:=lh hg;have HI0:=lh hI;obtain ⟨n,hnn⟩:=zX l.length
 rw [← hnn] at hn hle ⊢;have HN:=lh hnn;clear hc hg hI hnn;go_enter Tryz.func82,Tryz.ntmps82
 go_wp2_with fail
 go_loopw [8] (fun i wr=>∃ (k:Nat),k≤n∧i=.int .i64 k∧Hid (∀ x∈l.take k,g x=false)∧Hid (Inv wr)) (fun i _=>n - (intOf i).toNat)
 case atStart=>exact ⟨0,Yp _,rfl,lh (by simp),HI0⟩
 case round=>
  obtain ⟨k,hk,rfl,HF,HI⟩:=hrel;clear HI0;by_cases hkn:k < n
  ·obtain ⟨x, hx⟩ : ∃ x, l[k]? = some x := ⟨_, Yd (by rw [← HN.out]; exact hkn)⟩
   obtain ⟨b,off,hp,hcell⟩:=HC.out k x hx;subst hp;have cx:=hcell wr HI.out;have HCALL:=HG.out x (Yl hx) wr HI.out;obtain ⟨vx,hvx⟩:=zX (enc x)
   rw [← hvx] at cx HCALL;obtain ⟨gx,hgx⟩:=zX (g x)
   rw [← hgx] at HCALL;have HCL:=lh HCALL;have HX:=lh hx;have HGX:=lh hgx;have hae:((⟨b,off,none⟩:Addr).add k)=⟨b,off + k,none⟩:=by unfold Addr.add; split <;> simp_all
   have hkI:(k:Int)≤9223372036854775807:=by omega
   clear hcell HCALL hvx hx hgx;go_wp2_with fail
   refine HCL.out.mono ?_;rintro e w1 ⟨rfl,hI1⟩;have HI1:=lh hI1;clear hI1 HCL;cases gx
   ·go_wp2;go_roundw
    case rel=>
     refine ⟨k + 1,by omega,by go_num,lh ?_,HI1⟩;intro y hy;obtain ⟨hkl,hke⟩:=List.getElem?_eq_some_iff.1 HX.out;rw [List.take_succ_eq_append_getElem hkl,List.mem_append] at hy;rcases hy with hy | hy;·exact HF.out y hy
     ·simp only [List.mem_singleton] at hy;rw [hy,hke];exact HGX.out.symm
    case measure=>simp [intOf]; omega
   ·go_wp2;go_ret;refine ⟨⟨_,rfl,?_⟩,HI1.out⟩;rw [List.any_eq_true.2 ⟨x,Yl HX.out,HGX.out.symm⟩];simp
  ·have hk2 : k = n := by omega
   subst hk2;go_wp2;go_ret;refine ⟨⟨_,rfl,?_⟩,HI.out⟩;have hall:l.any g=false:=by
    rw [List.any_eq_false];intro y hy;have:=HF.out y (by rw [Ym (by rw [← HN.out]; exact Y5 _)]; exact hy);simp [this]
   rw [hall];rfl
theorem Zlx (p0:Addr) {α:Type} (enc:α→Value) (g:α→Bool) (Inv:World→Prop) (p:Option Addr) (cap:Nat) (l:List α) (w:World) (hn:l.length≤9223372036854775807) (hle:l.length≤cap)
 (hc:∀ i x,l[i]?=some x→∃ b off,p=some ⟨b,off,none⟩∧∀ w1,Inv w1→w1.cell? ⟨b,off + i,none⟩=some (enc x))
 (hg:∀ x∈l,∀ w1,Inv w1→Calls Tryz.prog 43 #[enc x,.pointer (some p0)] w1 fun e w'=>e=.returned (.bool (g x))∧Inv w') (hI:Inv w) :
 Calls Tryz.prog 42 #[.slice p l.length cap,.func (.func 43) #[] #[.pointer (some p0)]] w fun e w'=>e=.returned (.bool (l.any g))∧Inv w':=by
 have HC:=lh (Zje p0 enc g Inv p cap l w hn hle hc hg hI);clear hn hle hc hg hI;go_enter Tryz.func42,Tryz.ntmps42
 go_wp2_with fail
 refine HC.out.mono ?_;rintro e w1 ⟨⟨z,rfl,hz⟩,hI1⟩;have HZ:=lh hz;clear hz HC;go_wp2;go_ret;refine ⟨?_,hI1⟩;rw [← HZ.out];rfl
theorem Zjf (p0:Addr) {α:Type} (enc:α→Value) (g:α→Bool) (Inv:World→Prop) (p:Option Addr) (cap:Nat) (l:List α) (w:World) (hn:l.length≤9223372036854775807) (hle:l.length≤cap)
 (hc:∀ i x,l[i]?=some x→∃ b off,p=some ⟨b,off,none⟩∧∀ w1,Inv w1→w1.cell? ⟨b,off + i,none⟩=some (enc x))
 (hg:∀ x∈l,∀ w1,Inv w1→Calls Tryz.prog 85 #[enc x,.pointer (some p0)] w1 fun e w'=>e=.returned (.bool (g x))∧Inv w') (hI:Inv w) :
 Calls Tryz.prog 82 #[.slice p l.length cap,.func (.func 85) #[] #[.pointer (some p0)]] w fun e w'=>(∃ z:Int,e=.returned (.int .i64 z)∧decide (z ≥ 0)=l.any g)∧Inv w':=by
 have HC:=lh hc;have HG:=lh hg;have HI0:=lh hI;obtain ⟨n,hnn⟩:=zX l.length
 rw [← hnn] at hn hle ⊢;have HN:=lh hnn;clear hc hg hI hnn;go_enter Tryz.func82,Tryz.ntmps82
 go_wp2_with fail
 go_loopw [8] (fun i wr=>∃ (k:Nat),k≤n∧i=.int .i64 k∧Hid (∀ x∈l.take k,g x=false)∧Hid (Inv wr)) (fun i _=>n - (intOf i).toNat)
 case atStart=>exact ⟨0,Yp _,rfl,lh (by simp),HI0⟩
 case round=>
  obtain ⟨k,hk,rfl,HF,HI⟩:=hrel;clear HI0;by_cases hkn:k < n
  ·obtain ⟨x, hx⟩ : ∃ x, l[k]? = some x := ⟨_, Yd (by rw [← HN.out]; exact hkn)⟩
   obtain ⟨b,off,hp,hcell⟩:=HC.out k x hx;subst hp;have cx:=hcell wr HI.out;have HCALL:=HG.out x (Yl hx) wr HI.out;obtain ⟨vx,hvx⟩:=zX (enc x)
   rw [← hvx] at cx HCALL;obtain ⟨gx,hgx⟩:=zX (g x)
   rw [← hgx] at HCALL;have HCL:=lh HCALL;have HX:=lh hx;have HGX:=lh hgx;have hae:((⟨b,off,none⟩:Addr).add k)=⟨b,off + k,none⟩:=by unfold Addr.add; split <;> simp_all
   have hkI:(k:Int)≤9223372036854775807:=by omega
   clear hcell HCALL hvx hx hgx;go_wp2_with fail
   refine HCL.out.mono ?_;rintro e w1 ⟨rfl,hI1⟩;have HI1:=lh hI1;clear hI1 HCL;cases gx
   ·go_wp2;go_roundw
    case rel=>
     refine ⟨k + 1,by omega,by go_num,lh ?_,HI1⟩;intro y hy;obtain ⟨hkl,hke⟩:=List.getElem?_eq_some_iff.1 HX.out;rw [List.take_succ_eq_append_getElem hkl,List.mem_append] at hy;rcases hy with hy | hy;·exact HF.out y hy
     ·simp only [List.mem_singleton] at hy;rw [hy,hke];exact HGX.out.symm
    case measure=>simp [intOf]; omega
   ·go_wp2;go_ret;refine ⟨⟨_,rfl,?_⟩,HI1.out⟩;rw [List.any_eq_true.2 ⟨x,Yl HX.out,HGX.out.symm⟩];simp
  ·have hk2 : k = n := by omega
   subst hk2;go_wp2;go_ret;refine ⟨⟨_,rfl,?_⟩,HI.out⟩;have hall:l.any g=false:=by
    rw [List.any_eq_false];intro y hy;have:=HF.out y (by rw [Ym (by rw [← HN.out]; exact Y5 _)]; exact hy);simp [this]
   rw [hall];rfl
theorem Zlq (p0:Addr) {α:Type} (enc:α→Value) (g:α→Bool) (Inv:World→Prop) (p:Option Addr) (cap:Nat) (l:List α) (w:World) (hn:l.length≤9223372036854775807) (hle:l.length≤cap)
 (hc:∀ i x,l[i]?=some x→∃ b off,p=some ⟨b,off,none⟩∧∀ w1,Inv w1→w1.cell? ⟨b,off + i,none⟩=some (enc x))
 (hg:∀ x∈l,∀ w1,Inv w1→Calls Tryz.prog 85 #[enc x,.pointer (some p0)] w1 fun e w'=>e=.returned (.bool (g x))∧Inv w') (hI:Inv w) :
 Calls Tryz.prog 42 #[.slice p l.length cap,.func (.func 85) #[] #[.pointer (some p0)]] w fun e w'=>e=.returned (.bool (l.any g))∧Inv w':=by
 have HC:=lh (Zjf p0 enc g Inv p cap l w hn hle hc hg hI);clear hn hle hc hg hI;go_enter Tryz.func42,Tryz.ntmps42
 go_wp2_with fail
 refine HC.out.mono ?_;rintro e w1 ⟨⟨z,rfl,hz⟩,hI1⟩;have HZ:=lh hz;clear hz HC;go_wp2;go_ret;refine ⟨?_,hI1⟩;rw [← HZ.out];rfl
theorem Zj2 {α:Type} (enc:α→Value) (g:α→Bool) (Inv:World→Prop) (p:Option Addr) (cap:Nat) (l:List α) (w:World) (hn:l.length≤9223372036854775807) (hle:l.length≤cap)
 (hc:∀ i x,l[i]?=some x→∃ b off,p=some ⟨b,off,none⟩∧∀ w1,Inv w1→w1.cell? ⟨b,off + i,none⟩=some (enc x))
 (hg:∀ x∈l,∀ w1,Inv w1→Calls Tryz.prog 87 #[enc x] w1 fun e w'=>e=.returned (.bool (g x))∧Inv w') (hI:Inv w) :
 Calls Tryz.prog 81 #[.slice p l.length cap,.func (.func 87) #[] #[]] w fun e w'=>(∃ z:Int,e=.returned (.int .i64 z)∧decide (z ≥ 0)=l.any g)∧Inv w':=by
 have HC:=lh hc;have HG:=lh hg;have HI0:=lh hI;obtain ⟨n,hnn⟩:=zX l.length
 rw [← hnn] at hn hle ⊢;have HN:=lh hnn;clear hc hg hI hnn;go_enter Tryz.func81,Tryz.ntmps81
 go_wp2_with fail
 go_loopw [8] (fun i wr=>∃ (k:Nat),k≤n∧i=.int .i64 k∧Hid (∀ x∈l.take k,g x=false)∧Hid (Inv wr)) (fun i _=>n - (intOf i).toNat)
 case atStart=>exact ⟨0,Yp _,rfl,lh (by simp),HI0⟩
 case round=>
  obtain ⟨k,hk,rfl,HF,HI⟩:=hrel;clear HI0;by_cases hkn:k < n
  ·obtain ⟨x, hx⟩ : ∃ x, l[k]? = some x := ⟨_, Yd (by rw [← HN.out]; exact hkn)⟩
   obtain ⟨b,off,hp,hcell⟩:=HC.out k x hx;subst hp;have cx:=hcell wr HI.out;have HCALL:=HG.out x (Yl hx) wr HI.out;obtain ⟨vx,hvx⟩:=zX (enc x)
   rw [← hvx] at cx HCALL;obtain ⟨gx,hgx⟩:=zX (g x)
   rw [← hgx] at HCALL;have HCL:=lh HCALL;have HX:=lh hx;have HGX:=lh hgx;have hae:((⟨b,off,none⟩:Addr).add k)=⟨b,off + k,none⟩:=by unfold Addr.add; split <;> simp_all
   have hkI:(k:Int)≤9223372036854775807:=by omega
   clear hcell HCALL hvx hx hgx;go_wp2_with fail
   refine HCL.out.mono ?_;rintro e w1 ⟨rfl,hI1⟩;have HI1:=lh hI1;clear hI1 HCL;cases gx
   ·go_wp2;go_roundw
    case rel=>
     refine ⟨k + 1,by omega,by go_num,lh ?_,HI1⟩;intro y hy;obtain ⟨hkl,hke⟩:=List.getElem?_eq_some_iff.1 HX.out;rw [List.take_succ_eq_append_getElem hkl,List.mem_append] at hy;rcases hy with hy | hy;·exact HF.out y hy
     ·simp only [List.mem_singleton] at hy;rw [hy,hke];exact HGX.out.symm
    case measure=>simp [intOf]; omega
   ·go_wp2;go_ret;refine ⟨⟨_,rfl,?_⟩,HI1.out⟩;rw [List.any_eq_true.2 ⟨x,Yl HX.out,HGX.out.symm⟩];simp
  ·have hk2 : k = n := by omega
   subst hk2;go_wp2;go_ret;refine ⟨⟨_,rfl,?_⟩,HI.out⟩;have hall:l.any g=false:=by
    rw [List.any_eq_false];intro y hy;have:=HF.out y (by rw [Ym (by rw [← HN.out]; exact Y5 _)]; exact hy);simp [this]
   rw [hall];rfl
theorem Zln {α:Type} (enc:α→Value) (g:α→Bool) (Inv:World→Prop) (p:Option Addr) (cap:Nat) (l:List α) (w:World) (hn:l.length≤9223372036854775807) (hle:l.length≤cap)
 (hc:∀ i x,l[i]?=some x→∃ b off,p=some ⟨b,off,none⟩∧∀ w1,Inv w1→w1.cell? ⟨b,off + i,none⟩=some (enc x))
 (hg:∀ x∈l,∀ w1,Inv w1→Calls Tryz.prog 87 #[enc x] w1 fun e w'=>e=.returned (.bool (g x))∧Inv w') (hI:Inv w) :
 Calls Tryz.prog 40 #[.slice p l.length cap,.func (.func 87) #[] #[]] w fun e w'=>e=.returned (.bool (l.any g))∧Inv w':=by
 have HC:=lh (Zj2  enc g Inv p cap l w hn hle hc hg hI);clear hn hle hc hg hI;go_enter Tryz.func40,Tryz.ntmps40
 go_wp2_with fail
 refine HC.out.mono ?_;rintro e w1 ⟨⟨z,rfl,hz⟩,hI1⟩;have HZ:=lh hz;clear hz HC;go_wp2;go_ret;refine ⟨?_,hI1⟩;rw [← HZ.out];rfl
theorem Ze0 {s:ByteArray} {l:ByteArray} {t:List UInt8} (hl:l.toList=t) (h:s≠l):(s.toList == t)=false:=by
 have:(s.toList == l.toList)=false:=by rw [Z1w]; simp [Zp,h]
 rwa [hl] at this
theorem Zci:Z45.toList=[101,118,97,108]:=by kernel_rfl
theorem Z6f:Z1f.toList=[97,114,103,117,109,101,110,116,115]:=by kernel_rfl
theorem Z63 (w:World) (st ins:Bool) (s:ByteArray) :
 Calls Tryz.prog 83 #[.agg #[.bool st,.bool ins],.string s] w fun e w'=>e=.returned (.bool (Z0x st s))∧Below w.heap.size w w':=by
 have HB:=lh ((Y8 w.heap.size w).alloc (Y5 _) (.cells #[.bool st,.bool ins] 43));unfold Z0x;cases st
 ·go_enter Tryz.func83, Tryz.ntmps83
  go_wp2;go_ret;exact ⟨rfl,HB.out⟩
 ·by_cases h1 : s = Z45
  ·subst h1;rw [show Zp Z45 Z45 = true by simp [Zp]];unfold Z45;go_enter Tryz.func83, Tryz.ntmps83
   go_wp2;go_ret;exact ⟨rfl,HB.out⟩
  ·have n1 := Ze0 Zci h1;rw [show Zp s Z45 = false by simp [Zp, h1]];clear h1;by_cases h2 : s = Z1f
   ·subst h2;rw [show Zp Z1f Z1f = true by simp [Zp]];unfold Z1f;clear n1;go_enter Tryz.func83, Tryz.ntmps83
    go_wp2;go_ret;exact ⟨rfl,HB.out⟩
   ·have n2 := Ze0 Z6f h2;rw [show Zp s Z1f = false by simp [Zp, h2]];clear h2;go_enter Tryz.func83, Tryz.ntmps83
    go_wp2;go_ret;exact ⟨rfl,HB.out⟩
theorem Zhr (w:World) (B:Nat) (a:ATree) (hT:TreeAt w B a) :
 Calls Tryz.prog 88 #[a.ptr] w fun e w'=>e=.returned (.bool (Z40 a))∧w'=w:=by
 have c0:=hT.c0;unfold Z40 ATree.ptr;obtain ⟨kd,hkd⟩:=zX a.kind
 rw [← hkd] at c0 ⊢;clear hkd hT;rcases (by omega:kd=3∨kd=4∨kd=5∨(kd≠3∧kd≠4∧kd≠5)) with h3 | h3 | h3 | ⟨h3,h4,h5⟩
 ·subst h3;go_enter Tryz.func88, Tryz.ntmps88
  go_wp2;go_ret;exact ⟨rfl,rfl⟩
 ·subst h3;go_enter Tryz.func88, Tryz.ntmps88
  go_wp2;go_ret;exact ⟨rfl,rfl⟩
 ·subst h3;go_enter Tryz.func88, Tryz.ntmps88
  go_wp2;go_ret;exact ⟨rfl,rfl⟩
 ·have n3 : (kd == 3) = false := by simpa using h3
  have n4:(kd == 4)=false:=by simpa using h4
  have n5:(kd == 5)=false:=by simpa using h5
  rw [n3,n4,n5];have m3:(kd != 3)=true:=by simpa using h3
  have m4:(kd != 4)=true:=by simpa using h4
  have m5:(kd != 5)=true:=by simpa using h5
  clear h3 h4 h5 n3 n4 n5;go_enter Tryz.func88,Tryz.ntmps88
  go_wp2;go_ret;exact ⟨rfl,rfl⟩
theorem Zg9 (w:World) (B:Nat) (a:ATree) (hT:TreeAt w B a) :
 Calls Tryz.prog 87 #[a.ptr] w fun e w'=>e=.returned (.bool (!Z40 a))∧w'=w:=by
 have HA:=lh (Zhr w B a hT);unfold ATree.ptr at HA ⊢;obtain ⟨al,hal⟩:=zX (Z40 a)
 rw [← hal] at HA ⊢;clear hT hal;go_enter Tryz.func87,Tryz.ntmps87
 go_wp2_with fail
 refine HA.out.mono ?_;rintro e w' ⟨rfl,rfl⟩;go_wp2;go_ret;exact ⟨rfl,rfl⟩
theorem Zhv (w:World) (B c:Nat) (a:ATree) (s:ByteArray) (hT:TreeAt w B a) (hc:w.cell? ⟨c,0,none⟩=some a.ptr) :
 Calls Tryz.prog 85 #[.string s,.pointer (some ⟨c,0,none⟩)] w fun e w'=>e=.returned (.bool (Zp s a.text))∧w'=w:=by
 have c1:=hT.c1;unfold ATree.ptr at hc;rw [← Z1w];obtain ⟨tx,htx⟩:=zX a.text
 rw [← htx] at c1 ⊢;clear hT htx;go_enter Tryz.func85,Tryz.ntmps85
 go_wp2;go_ret;exact ⟨rfl,rfl⟩
theorem Zeo (w:World) (B c:Nat) (x k:ATree) (hx:TreeAt w B x) (hk:TreeAt w B k) (hc:w.cell? ⟨c,0,none⟩=some k.ptr) :
 Calls Tryz.prog 41 #[x.ptr,.pointer (some ⟨c,0,none⟩)] w fun e w'=>e=.returned (.bool (Zp x.text k.text))∧Below w.heap.size w w':=by
 have x1:=hx.c1;have k1:=hk.c1;unfold ATree.ptr at hc ⊢;rw [← Z1w];obtain ⟨tx,htx⟩:=zX x.text
 obtain ⟨tk,htk⟩:=zX k.text
 rw [← htx] at x1 ⊢;rw [← htk] at k1 ⊢;clear hx hk htx htk;go_enter Tryz.func41,Tryz.ntmps41
 go_wp2_with fail
 refine Z0 [(true,0),(true,1),(true,2),(true,3),(true,4),(true,5),(true,6),(true,7)] [8,9] (fun W=>W.cell? ⟨x.b,1,none⟩=some (.string tx)∧W.cell? ⟨c,0,none⟩=some (.pointer (some ⟨k.b,0,none⟩))∧W.cell? ⟨k.b,1,none⟩=some (.string tk)) (by kernel_rfl) (by kernel_rfl) (fun _ _ d _ _ h=>by cases d <;> exact h) ⟨x1,hc,k1⟩ (fun hS0=>?_);simp only [Za,zD,zE,zF,zG,zH,zI]
 iterate 8
  first
   | (refine Z1 ?_ (by rfl) (fun w' hS'=>?_) ?_; rotate_left; (obtain ⟨s0,s1,s2⟩:=hS'; go_simp; first | done | with_reducible rfl); simp only [Act.put,zA,zB,zC])
   | (refine Z2 (by rfl) ?_; simp only [Act.put,zA,zB,zC])
 refine Z4 ?_;go_wp2;go_ret;exact ⟨rfl,(Y8 _ _).drew⟩
theorem Zfk (w:World) (B c:Nat) (v:Value) (l:List ByteArray) (s:ByteArray) (ht:Z04 w B v l) (hc:w.cell? ⟨c,0,none⟩=some v) :
 Calls Tryz.prog 43 #[.string s,.pointer (some ⟨c,0,none⟩)] w fun e w'=>e=.returned (.bool (Lib.containsS l s))∧w'=w:=by
 have HC:=lh (Z23 ht s);clear ht;go_enter Tryz.func43,Tryz.ntmps43
 go_wp2_with fail
 refine HC.out.mono ?_;rintro e w' ⟨rfl,rfl⟩;go_wp2;go_ret;exact ⟨rfl,rfl⟩
theorem Zen {T:List ByteArray} {k:Nat} {s:ByteArray} (h:T[k]?=some s):Z4x (T.take k) (T.drop k)=(Lib.containsS (T.take k) s || Z4x (T.take (k + 1)) (T.drop (k + 1))):=by
 obtain ⟨hk,he⟩:=List.getElem?_eq_some_iff.1 h;rw [List.drop_eq_getElem_cons hk,List.take_succ_eq_append_getElem hk,he];rfl
theorem Zg2 {L V T:List ByteArray} {b:Bool} {k:Nat} {s:ByteArray} (h:T[k]?=some s):Z5u L V b (T.take k) (T.drop k)=(Lib.containsS L s || (!b && ((T.take k).any (fun o=>Zp o s) || Lib.containsS V s)) || Z5u L V b (T.take (k + 1)) (T.drop (k + 1))):=by
 obtain ⟨hk,he⟩:=List.getElem?_eq_some_iff.1 h;rw [List.drop_eq_getElem_cons hk,List.take_succ_eq_append_getElem hk,he];rfl
structure EsInv (w0:World) (c:Nat) (l:List ByteArray) (w:World):Prop where
 cell:∃ v,w.heap[c]?=some (.cells #[v] 53 (0,0))∧Z04 w (c + 1) v l
 bel:Below w0.heap.size w0 w
theorem EsInv.on {w0 w w1:World} {c:Nat} {l:List ByteArray} (h:EsInv w0 c l w) (g:Below w.heap.size w w1):EsInv w0 c l w1:=by
 obtain ⟨v,h1,h2⟩:=h.cell;exact ⟨⟨v,(g.block c (Y6.1 h1).1).trans h1,h2.bel g⟩,h.bel.trans (g.mono h.bel.size)⟩
theorem EsInv.push {w0 w w1 w2:World} {c:Nat} {l:List ByteArray} {v v2:Value} {s:ByteArray} (hcell:w.heap[c]?=some (.cells #[v] 53 (0,0))) (ht:Z04 w (c + 1) v l) (hbel:Below w0.heap.size w0 w) (hc:w0.heap.size≤c)
 (hB:Below w.heap.size w w1) (hg:w1.grownBy w2 v.ownBlock) (hown:w2.ownsRow (c + 1) 9 1 v2 (l.length + 1) (l.map Value.string ++ [.string s])) :
 EsInv w0 c (l ++ [s]) (w2.setCell ⟨c,0,none⟩ v2)∧∀ k,k < w.heap.size→k≠c→v.ownBlock≠some k→(w2.setCell ⟨c,0,none⟩ v2).heap[k]?=w.heap[k]?:=by
 have hcl:=(Y6.1 hcell).1;have hne:v.ownBlock≠some c:=fun e=>by have:=(Yh ht c e).1; omega
 have step:∀ k,k < w.heap.size→v.ownBlock≠some k→w2.heap[k]?=w.heap[k]?:=fun k hk hv=>(hg.block k (Ye hk hB.size) (fun e=>hv e.symm)).trans (hB.block k hk);refine ⟨⟨⟨v2,Zm (o:=0) v2 ((step c hcl hne).trans hcell),?_⟩,?_⟩,fun k hk h1 h2=>(Yg _ _ _ _ h1).trans (step k hk h2)⟩
 ·refine Zg (Z7r hown) fun k hk=>Yg _ _ _ _ ?_;have:=(Yh hown k hk).1;simp only;omega
 ·refine Below.setCell (Below.grown (hbel.trans (hB.mono hbel.size)) hg (Ya hbel.size hB.size) ?_) (p:=⟨c,0,none⟩) hc _;exact fun k hk=>by have:=(Yh ht k hk).1; omega
theorem Z0q.off {w w':World} {B B' c:Nat} {v v' cv:Value} {L:List ATree} {l:List ByteArray} (h:Z0q w B v L) (hcell:w.heap[c]?=some (.cells #[cv] 53 (0,0))) (ht:Z04 w B' v' l)
 (hf:∀ k,k < w.heap.size→k≠c→v'.ownBlock≠some k→w'.heap[k]?=w.heap[k]?):Z0q w' B v L:=by
 refine Zg h fun k hk=>hf k (Yh h k hk).2 ?_ ?_
 ·intro e;obtain ⟨c1,f1,h1⟩:=Lib.ownsRow_kind h k hk;rw [e,hcell] at h1;simp only [Option.some.injEq,Obj.cells.injEq] at h1;exact absurd h1.2.1 (by decide)
 ·intro e;obtain ⟨c1,f1,h1⟩:=Lib.ownsRow_kind h k hk;obtain ⟨c2,f2,h2⟩:=Lib.ownsRow_kind ht k e;rw [h1] at h2;simp only [Option.some.injEq,Obj.cells.injEq] at h2;exact absurd h2.2.1 (by decide)
theorem Z0q.slice {w:World} {B:Nat} {v:Value} {l:List ATree} (h:Z0q w B v l):∃ p cp,v=.slice p l.length cp∧l.length≤cp∧cp≤maxLen∧∀ (i:Nat) x,l[i]?=some x→∃ g,p=some ⟨g,0,none⟩:=by
 rcases h.form with ⟨h1,h2⟩ | ⟨g,cap,h1,h2,h3⟩;·exact ⟨none,0,by rw [h1,h2]; rfl,by rw [h2]; exact Y5 _,by unfold maxLen; omega,fun i x hx=>by rw [h2] at hx; simp at hx⟩
 ·exact ⟨_,_,h1,h2,h3,fun i x hx=>⟨g,rfl⟩⟩
theorem Z04.form2 {w:World} {B:Nat} {v:Value} {l:List ByteArray} (h:Z04 w B v l):∃ p cp,v=.slice p l.length cp∧l.length≤cp∧cp≤maxLen∧∀ (i:Nat) x,l[i]?=some x→∃ g,p=some ⟨g,0,none⟩:=by
 rcases h.form with ⟨h1,h2⟩ | ⟨g,cap,h1,h2,h3⟩;·exact ⟨none,0,by rw [h1,h2]; rfl,by rw [h2]; exact Y5 _,by unfold maxLen; omega,fun i x hx=>by rw [h2] at hx; simp at hx⟩
 ·exact ⟨_,_,h1,h2,h3,fun i x hx=>⟨g,rfl⟩⟩
theorem Z9s (w:World) (B:Nat) (a:ATree) (st ins body:Bool) (hT:TreeAt w B a) (hm:a.many < 274877906944) :
 Calls Tryz.prog 14 #[.agg #[.bool st,.bool ins],a.ptr,.bool body] w fun e w'=>e=.returned (.int .i64 (if Z2n a body then 9 else 0))∧Below w.heap.size w w':=by
 obtain ⟨i0,hi,hz0,hz1,hz2⟩:=info_parts Tryz.infoStr;have hmf:∀ (fn:Fn) (first cap:Array Value) (w:World),(Instr.makeFunc fn first cap).run Tryz.prog w=.ok (.func fn first cap) w:=fun _ _ _ _=>rfl;have hkl:=Z95 a;have HT:=lh hT;have HL:=lh (fun W (h:TreeAt W B a)=>Z8f W B a h (by omega));have HFU:=lh (fun W (h:TreeAt W B a)=>Z8r W B a h (by omega));have HV:=lh (fun W (h:TreeAt W B a)=>Zdz W B a h (by omega));have hfu:(a.kids.filter Z1i).length≤a.kids.length:=List.length_filter_le _ _
 have hle:(a.kids.filter Z2g).length≤a.kids.length:=List.length_filter_le _ _;have hfk:∀ x,x∈a.kids.filter Z1i→x∈a.kids:=fun x hx=>(List.mem_filter.1 hx).1;have hlk:∀ x,x∈a.kids.filter Z2g→x∈a.kids:=fun x hx=>(List.mem_filter.1 hx).1;have HFK:=lh hfk;have HLK:=lh hlk;have hsc:Z2n a body=(Z4x [] (Z51 a) || Z5u (Z51 a) (Z3w a) body [] (Z87 a) || (Z3w a).any (fun s=>Lib.containsS (Z51 a) s)):=rfl;obtain ⟨P,hP⟩:=zX (a.kids.filter Z2g)
 obtain ⟨Q,hQ⟩:=zX (a.kids.filter Z1i)
 obtain ⟨V,hVd⟩:=zX (Z3w a)
 have hlT:Z51 a=P.map ATree.text:=by rw [hP]; rfl
 have hfT:Z87 a=Q.map ATree.text:=by rw [hQ]; rfl
 rw [hlT,hfT,← hVd] at hsc;rw [← hP] at hle HLK;rw [← hQ] at hfu HFK;simp only [← hP] at HL;simp only [← hQ] at HFU;simp only [← hVd] at HV;obtain ⟨T,hTT⟩:=zX (P.map ATree.text)
 rw [← hTT] at hsc;obtain ⟨R1,hR1⟩:=zX (Z4x [] T)
 obtain ⟨R2,hR2⟩:=zX (Z5u T V body [] (Q.map ATree.text))
 rw [← hR1,← hR2] at hsc;obtain ⟨code,hcode⟩:∃ c:Int,c=if Z2n a body then 9 else 0:=⟨_,rfl⟩
 rw [← hcode];rw [hsc] at hcode;have HSC:=lh hcode;have HR1:=lh hR1;have HR2:=lh hR2;have HTT:=lh hTT;have hb0:Below w.heap.size w (w.alloc (.cells #[.bool st,.bool ins] 43)):=(Y8 _ _).alloc (Y5 _) _;have hs0:EsInv w (w.heap.size + 1) [] ((w.alloc (.cells #[.bool st,.bool ins] 43)).alloc (.cells #[.slice none 0 0] 53)):=
  ⟨⟨_,by simpa using (Go.MapKept.heap_alloc (w.alloc (.cells #[.bool st,.bool ins] 43)) (.cells #[.slice none 0 0] 53)).1,Z04.nil _ _⟩,hb0.alloc hb0.size _⟩
 have HS0:=lh hs0;have hkl2:a.kids.length < 274877906944:=by omega
 clear hT hkl hfk hlk hsc hcode hP hQ hVd hlT hfT hTT hR1 hR2 hb0 hs0;unfold ATree.ptr at HL HFU HV ⊢;go_enter Tryz.func14,Tryz.ntmps14
 go_wp2_with fail
 refine (HL.out _ (HT.out.bel HS0.out.bel)).mono ?_;rintro e w2 ⟨v2,rfl,hn2,hb2⟩;have hs2:=HS0.out.on hb2;have HS2:=lh hs2;obtain ⟨zn,hzn⟩:=zX (((w.alloc (.cells #[.bool st,.bool ins] 43)).alloc (.cells #[.slice none 0 0] 53)).heap.size)
 rw [← hzn] at hn2;obtain ⟨p2,cp2,rfl,hge2,hmx2,hpp2⟩:=hn2.slice;have N2:=lh hn2;have HPP2:=lh hpp2;obtain ⟨q,hq1⟩:=zX P.length
 have hqq:q≤9223372036854775807:=by unfold maxLen at hmx2; omega
 rw [← hq1] at hge2 N2 hle ⊢;have HQ1:=lh hq1;clear hs2 hn2 hb2 hzn hq1 HS0 hpp2;go_wp2_with fail
 go_loopw [19] (fun i wr=>∃ (k:Nat),k≤q∧i=.int .i64 k∧Hid (EsInv w (w.heap.size + 1) (T.take k) wr)∧Hid (Z0q wr zn (.slice p2 q cp2) P)∧Hid (Z4x (T.take k) (T.drop k)=R1)) (fun i _=>q - (intOf i).toNat)
 case atStart=>exact ⟨0,Yp _,rfl,HS2,N2,lh HR1.out.symm⟩
 case round=>
  obtain ⟨k,hk,rfl,HS,NO,HR⟩:=hrel;clear HS2 N2;by_cases hkn:k < q
  ·obtain ⟨x, hx⟩ : ∃ x, P[k]? = some x := ⟨_, Yd (by rw [← HQ1.out]; exact hkn)⟩
   obtain ⟨g0,hp⟩:=HPP2.out k x hx;subst hp;have cx:=NO.out.cell rfl hx;have hTx:=(HT.out.bel HS.out.bel).kid (HLK.out x (Yl hx));have c1:=hTx.c1;obtain ⟨v,hcell,htx⟩:=HS.out.cell;have sv:wr.cell? ⟨w.heap.size + 1,0,none⟩=some v:=by simp [World.cell?,hcell]
   have svz:wr.frozen? ⟨w.heap.size + 1,0,none⟩=false:=by simp [World.frozen?,hcell]
   have hscl:=(Y6.1 hcell).1;have hxl:=hTx.lt;have hTk:T[k]?=some x.text:=by rw [HTT.out,Yo,hx]; rfl
   have hstep:=Zen hTk;rw [HR.out] at hstep;have htl:(T.take k).length=k:=by rw [List.length_take,HTT.out,Yv,← HQ1.out]; omega
   have htk:T.take k ++ [x.text]=T.take (k + 1):=by
    obtain ⟨hkl,hke⟩:=List.getElem?_eq_some_iff.1 hTk;rw [List.take_succ_eq_append_getElem hkl,hke]
   obtain ⟨pv,nv,cv,rfl⟩:=htx.slice;obtain ⟨tx,htxx⟩:=zX x.text
   rw [← htxx] at c1 hstep htk;obtain ⟨l,hl⟩:=zX (T.take k)
   rw [← hl] at htx hstep htl htk;have HC:=lh (Z23 (w:=wr.drew) (Zg htx fun k _=>rfl) tx);obtain ⟨cb,hcb⟩:=zX (Lib.containsS l tx)
   rw [← hcb] at HC hstep;have TX:=lh htx;have HCELL:=lh hcell;have STEP:=lh hstep;have HTK:=lh htk;have HBE:=lh HS.out.bel;have hszl:l.length < 1099511627776:=by omega
   clear hTx hcell htx hTk hstep htk htxx hl hcb hx;go_wp2_with fail
   refine Z0 [(true,0),(true,1),(true,2),(true,3),(true,4)] [5] (fun W=>W.cell? ⟨w.heap.size + 1,0,none⟩=some (.slice pv nv cv)∧W.cell? ⟨x.b,1,none⟩=some (.string tx)) (by kernel_rfl) (by kernel_rfl) (fun _ _ d _ _ h=>by cases d <;> exact h) ⟨sv,c1⟩ (fun hS0=>?_);simp only [Za,zD,zE,zF,zG,zH,zI]
   iterate 5
    first
     | (refine Z1 ?_ (by rfl) (fun w' hS'=>?_) ?_; rotate_left; (obtain ⟨s0,s1⟩:=hS'; go_simp; first | done | with_reducible rfl); simp only [Act.put,zA,zB,zC])
     | (refine Z2 (by rfl) ?_; simp only [Act.put,zA,zB,zC])
   refine Z4 ?_;go_wp2_with fail
   refine HC.out.mono ?_;rintro e w' ⟨rfl,hww⟩;rw [hww];clear hww w' HC;cases cb
   ·have sv' : wr.drew.cell? ⟨w.heap.size + 1, 0, none⟩ = some (.slice pv nv cv) := sv;have c1' : wr.drew.cell? ⟨x.b, 1, none⟩ = some (.string tx) := c1;have svz' : wr.drew.frozen? ⟨w.heap.size + 1, 0, none⟩ = false := svz;go_wp2_with fail
    refine Z0 [(true,0),(true,1),(true,2),(true,3),(true,4),(false,5)] [6,7] (fun W=>W.cell? ⟨w.heap.size + 1,0,none⟩=some (.slice pv nv cv)∧W.cell? ⟨x.b,1,none⟩=some (.string tx)) (by kernel_rfl) (by kernel_rfl) (fun _ _ d _ _ h=>by cases d <;> exact h) ⟨sv',c1'⟩ (fun hS0=>?_);simp only [Za,zD,zE,zF,zG,zH,zI]
    iterate 5
     first
      | (refine Z1 ?_ (by rfl) (fun w' hS'=>?_) ?_; rotate_left; (obtain ⟨s0,s1⟩:=hS'; go_simp; first | done | with_reducible rfl); simp only [Act.put,zA,zB,zC])
      | (refine Z2 (by rfl) ?_; simp only [Act.put,zA,zB,zC])
    refine Z6 (fun K hK=>?_);go_simp
    refine hK _ _ ⟨(Z5 (by show w.heap.size + 1 < _; exact hscl)).trans sv',(Z5 (by show x.b < _; exact hxl)).trans c1'⟩ ?_;clear hK K;refine Z4 ?_;have svq:(wr.alloc (.cells #[.string tx] 9)).drew.drew.frozen? ⟨w.heap.size + 1,0,none⟩=false:=(Zz (by show w.heap.size + 1 < _; exact hscl)).trans svz;have TX2:=TX;unfold Z04 at TX2;have htd:(wr.alloc (.cells #[.string tx] 9)).drew.drew.ownsRow (w.heap.size + 1 + 1) 9 1 (.slice pv nv cv) l.length (l.map Value.string):=Zg (TX2.out.alloc _) fun k _=>rfl;have HTD:=lh htd;clear htd
    refine wpList_append_lies _ rfl (.tmp 29) (.tmp 34) 53 rfl (w.heap.size + 1 + 1) 9 i0 (.string ByteArray.empty) 1 16 Tryz.underlying53 hi hz0 hz1 hz2 rfl (by decide) (.slice pv nv cv) l.length (l.map Value.string) rfl HTD.out ⟨wr.heap.size,0,none⟩ 1 1 [.string tx] rfl rfl (fun j u hu=>cell_one_new wr _ _ j u hu) (by intro u hu; simp at hu; subst hu; rfl) (by decide) (by unfold maxLen; omega) (by omega) (by simp; omega) (wr.heap.size + 1) (by simp) ?_;intro g cap w3 hown2 hgrow2 hat2 hgl2;have HG:=lh hgrow2;have HW:=lh hown2
    have hne:(Value.slice pv nv cv).ownBlock≠some (w.heap.size + 1):=fun e=>by have:=(Yh TX.out _ e).1; omega
    have sz3:w3.frozen? ⟨w.heap.size + 1,0,none⟩=false:=(hgrow2.frozen_far ⟨w.heap.size + 1,0,none⟩ (by simp; omega) (fun e=>hne e.symm)).trans svq;have cz3:w3.cell? ⟨w.heap.size + 1,0,none⟩=some (.slice pv nv cv):=(hgrow2.cell_far ⟨w.heap.size + 1,0,none⟩ (by simp; omega) (fun e=>hne e.symm)).trans ((Z5 (w:=wr) (by show w.heap.size + 1 < _; exact hscl)).trans sv);clear hgrow2 hown2 hat2 hgl2 hne svq;simp only [Act.put,zA,zB,zC];go_wp2
    have hpush:=EsInv.push HCELL.out TX.out HBE.out (by omega) (((Y8 wr.heap.size wr).alloc (Y5 _) (.cells #[.string tx] 9)).drew.drew) HG.out HW.out;rw [HTK.out,htl] at hpush;have HPUSH:=lh hpush;clear hpush;go_roundw
    case rel=>
     refine ⟨k + 1,by omega,by go_num,lh HPUSH.out.1,lh (NO.out.off HCELL.out TX.out HPUSH.out.2),lh ?_⟩;have h1:=STEP.out;simp only [Bool.false_or] at h1;exact h1.symm
    case measure=>simp [intOf]; omega
   ·go_wp2;go_ret;refine ⟨?_,HBE.out.drew⟩;have h1:=STEP.out;simp only [Bool.true_or] at h1;rw [HSC.out,h1];rfl
  ·have hk2 : k = q := by omega
   subst hk2;have hTl:T.length=k:=by rw [HTT.out,Yv,← HQ1.out]
   have hs1:EsInv w (w.heap.size + 1) T wr:=by
    have:=HS.out;rwa [Ym (by omega)] at this
   have hr1:R1=false:=by
    have:=HR.out;rw [Ym (by omega),List.drop_of_length_le (by omega)] at this;rw [← this];rfl
   subst hr1;have HS1:=lh hs1;clear hs1 HS NO HR HR1 hTl;go_wp2_with fail
   refine (HV.out _ (HT.out.bel HS1.out.bel)).mono ?_;rintro e w4 ⟨vv,rfl,ht4,hb4,hvl⟩;obtain ⟨pv,cpv,rfl,hgv,hmv,hpv⟩:=ht4.form2;have hs4:=HS1.out.on hb4;have HS4:=lh hs4;have HT4:=lh ht4;obtain ⟨zv,hzv⟩:=zX wr.heap.size
   rw [← hzv] at HT4;clear ht4 hb4 hs4 HS1 HV hzv;go_wp2_with fail
   refine (HFU.out _ (HT.out.bel HS4.out.bel)).mono ?_;rintro e w5 ⟨v5,rfl,hn5,hb5⟩;obtain ⟨p5,cp5,rfl,hge5,hmx5,hpp5⟩:=hn5.slice;have HS5:=lh (HS4.out.on hb5);have HT5:=lh (HT4.out.bel hb5);have N5:=lh hn5;have HPP5:=lh hpp5;obtain ⟨zf,hzf⟩:=zX w4.heap.size
   rw [← hzf] at N5;obtain ⟨m,hm1⟩:=zX Q.length
   have hmq:m≤9223372036854775807:=by unfold maxLen at hmx5; omega
   rw [← hm1] at hge5 N5 hfu ⊢;have HM1:=lh hm1;have HPV:=lh hpv;obtain ⟨nV,hnV⟩:=zX V.length
   rw [← hnV] at hgv HT5 hvl ⊢;have HNV:=lh hnV;clear hn5 hb5 hpp5 hzf hm1 hpv HS4 HT4 hnV;go_wp2_with fail
   go_loopw [42] (fun i wr=>∃ (k:Nat),k≤m∧i=.int .i64 k∧Hid (EsInv w (w.heap.size + 1) T wr)∧Hid (Z04 wr zv (.slice pv nV cpv) V)∧Hid (Z0q wr zf (.slice p5 m cp5) Q)∧Hid (Z5u T V body ((Q.map ATree.text).take k) ((Q.map ATree.text).drop k)=R2)) (fun i _=>m - (intOf i).toNat)
   case atStart=>exact ⟨0,Yp _,rfl,HS5,HT5,N5,lh HR2.out.symm⟩
   case round=>
    obtain ⟨k,hk,rfl,HS,TV,NO,HR⟩:=hrel;clear HS5 HT5 N5;by_cases hkn:k < m
    ·obtain ⟨x, hx⟩ : ∃ x, Q[k]? = some x := ⟨_, Yd (by rw [← HM1.out]; exact hkn)⟩
     obtain ⟨g0,hp⟩:=HPP5.out k x hx;subst hp;have cx:=NO.out.cell rfl hx;have hTx:=(HT.out.bel HS.out.bel).kid (HFK.out x (Yl hx));have c1:=hTx.c1;obtain ⟨v,hcell,htx⟩:=HS.out.cell;have sv:wr.cell? ⟨w.heap.size + 1,0,none⟩=some v:=by simp [World.cell?,hcell]
     have hscl:=(Y6.1 hcell).1;have hxl:=hTx.lt;have hTk:(Q.map ATree.text)[k]?=some x.text:=by rw [Yo,hx]; rfl
     have hstep:=Zg2 (L:=T) (V:=V) (b:=body) hTk;rw [HR.out] at hstep;obtain ⟨ps,ns,cs,rfl⟩:=htx.slice;obtain ⟨tx,htxx⟩:=zX x.text
     rw [← htxx] at c1 hstep;have hba:Below wr.heap.size wr (wr.alloc (.cells #[.pointer (some ⟨x.b,0,none⟩)] 22)):=(Y8 _ _).alloc (Y5 _) _;have HC:=lh (Z23 (w:=(wr.alloc (.cells #[.pointer (some ⟨x.b,0,none⟩)] 22)).drew) (htx.bel hba.drew) tx);obtain ⟨cb,hcb⟩:=zX (Lib.containsS T tx)
     rw [← hcb] at HC hstep;have hagain:((Q.map ATree.text).take k).any (fun o=>Zp o tx)=(Q.take k).any (fun o=>Zp o.text tx):=by
      rw [← List.map_take,List.any_map];rfl
     rw [hagain] at hstep;have STEP:=lh hstep;have TX:=lh htx;have HBA:=lh hba;have HTX:=lh hTx;have HTXX:=lh htxx;have HX:=lh hx;have sva:(wr.alloc (.cells #[.pointer (some ⟨x.b,0,none⟩)] 22)).cell? ⟨w.heap.size + 1,0,none⟩=some (.slice ps ns cs):=(Z5 (by show w.heap.size + 1 < _; exact hscl)).trans sv;have c1a:(wr.alloc (.cells #[.pointer (some ⟨x.b,0,none⟩)] 22)).cell? ⟨x.b,1,none⟩=some (.string tx):=(Z5 (by show x.b < _; exact hxl)).trans c1
     have cka:(wr.alloc (.cells #[.pointer (some ⟨x.b,0,none⟩)] 22)).cell? ⟨wr.heap.size,0,none⟩=some (.pointer (some ⟨x.b,0,none⟩)):=by simp
     clear hTx hcell htx hTk hstep htxx hcb hx hagain hba;go_wp2_with fail
     refine Z0 [(true,0),(true,1),(true,2),(true,3),(true,4)] [5] (fun W=>W.cell? ⟨w.heap.size + 1,0,none⟩=some (.slice ps ns cs)∧W.cell? ⟨wr.heap.size,0,none⟩=some (.pointer (some ⟨x.b,0,none⟩))∧W.cell? ⟨x.b,1,none⟩=some (.string tx)) (by kernel_rfl) (by kernel_rfl) (fun _ _ d _ _ h=>by cases d <;> exact h) ⟨sva,cka,c1a⟩ (fun hS0=>?_);simp only [Za,zD,zE,zF,zG,zH,zI]
     iterate 5
      first
       | (refine Z1 ?_ (by rfl) (fun w' hS'=>?_) ?_; rotate_left; (obtain ⟨s0,s1,s2⟩:=hS'; go_simp; first | done | with_reducible rfl); simp only [Act.put,zA,zB,zC])
       | (refine Z2 (by rfl) ?_; simp only [Act.put,zA,zB,zC])
     refine Z4 ?_;go_wp2_with fail
     refine HC.out.mono ?_;rintro e w' ⟨rfl,hww⟩;rw [hww];clear hww w' HC;cases cb
     ·have HT6 := lh (HT.out.bel ((HS.out.on HBA.out.drew).bel));go_wp2_with fail
      refine (HFU.out _ HT6.out).mono ?_;rintro e w6 ⟨v6,rfl,hn6,hb6⟩;obtain ⟨p6,cp6,rfl,hge6,hmx6,hpp6⟩:=hn6.slice;obtain ⟨g6,rfl⟩:=hpp6 k x HX.out;rw [← HM1.out] at hge6 ⊢;have hb7:Below wr.heap.size wr w6:=HBA.out.drew.trans (hb6.mono HBA.out.drew.size);have HS6:=lh (HS.out.on hb7);have TV6:=lh (TV.out.bel hb7);have NO6:=lh (NO.out.bel hb7);have HB7:=lh hb7;have c16:w6.cell? ⟨x.b,1,none⟩=some (.string tx):=(Yj (hb7.block x.b hxl)).trans c1
      have cck:w6.cell? ⟨wr.heap.size,0,none⟩=some (.pointer (some ⟨x.b,0,none⟩)):=(Yj (hb6.block wr.heap.size (by show wr.heap.size < (wr.alloc _).heap.size; simp))).trans cka;have hlk:(Q.take k).length=k:=by rw [List.length_take,← HM1.out]; omega
      have hgl6:=(Yh hn6 g6 rfl).2;have hxw:TreeAt w6 B x:=HTX.out.bel hb7;have hckl:wr.heap.size < w6.heap.size:=by
       have:=hb6.size;have h2:(wr.alloc (.cells #[.pointer (some ⟨x.b,0,none⟩)] 22)).drew.heap.size=wr.heap.size + 1:=by simp
       omega
      have han:=Zlz ⟨wr.heap.size,0,none⟩ ATree.ptr (fun o=>Zp o.text tx) (Below w6.heap.size w6) (some ⟨g6,0,none⟩) cp6 (Q.take k) w6 (by omega) (by omega)
       (fun i y hy => ⟨g6, 0, rfl, fun w1 h => by
        rw [Nat.zero_add];have hq:Q[i]?=some y:=by
         rw [List.getElem?_take] at hy;split at hy;·exact hy
         ·cases hy
        exact (Yj (h.block g6 hgl6)).trans (hn6.cell rfl hq)⟩)
       (fun y hy w1 h => by
        have hyQ:y∈Q:=List.mem_of_mem_take hy;have hyw:TreeAt w1 B y:=((HT.out.bel HS6.out.bel).kid (HFK.out y hyQ)).bel h;rw [HTXX.out];exact (Zeo w1 B wr.heap.size y x hyw (hxw.bel h) ((Yj (h.block wr.heap.size hckl)).trans cck)).mono fun e w2 ⟨h1,h2⟩=>⟨h1,h.trans (h2.mono h.size)⟩)
       (Y8 _ _)
      rw [hlk] at han;have HAN:=lh han;obtain ⟨ag,hag⟩:=zX ((Q.take k).any (fun o=>Zp o.text tx))
      rw [← hag] at HAN STEP;have hkm:k≤cp6:=by omega
      have hkmI:(k:Int)≤(cp6:Int):=by omega
      have hkmI2:(k:Int)≤(m:Int):=by omega
      unfold maxLen at hmx6;clear hn6 hb6 hpp6 han hag hlk hxw hb7;go_wp2_with fail
      refine HAN.out.mono ?_;rintro e w7 ⟨rfl,hb8⟩;have HS7:=lh (HS6.out.on hb8);have TV7:=lh (TV6.out.bel hb8);have NO7:=lh (NO6.out.bel hb8);have hxl6:x.b < w6.heap.size:=Ye hxl HB7.out.size;have c17:w7.cell? ⟨x.b,1,none⟩=some (.string tx):=(Yj (hb8.block x.b hxl6)).trans c16;have ck7:w7.cell? ⟨wr.heap.size,0,none⟩=some (.pointer (some ⟨x.b,0,none⟩)):=(Yj (hb8.block wr.heap.size hckl)).trans cck;clear hb8 HAN HS6 TV6 NO6 HS TV NO c16 cck c1 cka c1a sva sv;cases body
      ·cases ag
       ·have HCV := lh (Z23 TV7.out tx);obtain ⟨cv2, hcv2⟩ := zX (Lib.containsS V tx)
        rw [← hcv2] at HCV STEP;clear hcv2;go_wp2_with fail
        refine HCV.out.mono ?_;rintro e w' ⟨rfl,hww⟩;rw [hww];clear hww w' HCV;cases cv2
        ·go_wp2;go_roundw
         case rel=>
          have h1:=STEP.out;simp only [Bool.not_false,Bool.true_and,Bool.or_self,Bool.false_or] at h1;exact ⟨k + 1,by omega,by go_num,HS7,TV7,NO7,lh h1.symm⟩
         case measure=>simp [intOf]; omega
        ·go_wp2;go_ret;refine ⟨?_,HS7.out.bel⟩;have h1:=STEP.out;simp only [Bool.not_false,Bool.true_and,Bool.or_true,Bool.true_or] at h1;rw [HSC.out,h1];rfl
       ·go_wp2;go_ret;refine ⟨?_,HS7.out.bel⟩;have h1:=STEP.out;simp only [Bool.not_false,Bool.true_and,Bool.or_true,Bool.true_or] at h1;rw [HSC.out,h1];rfl
      ·go_wp2;go_roundw
       case rel=>
        have h1:=STEP.out;simp only [Bool.not_true,Bool.false_and,Bool.or_self,Bool.false_or] at h1;exact ⟨k + 1,by omega,by go_num,HS7,TV7,NO7,lh h1.symm⟩
       case measure=>simp [intOf]; omega
     ·go_wp2;go_ret;refine ⟨?_,(HS.out.on HBA.out.drew).bel⟩;have h1:=STEP.out;simp only [Bool.true_or] at h1;rw [HSC.out,h1];rfl
    ·have hk2 : k = m := by omega
     subst hk2;have hr2:R2=false:=by
      have:=HR.out;have hl:(Q.map ATree.text).length=k:=by rw [Yv,← HM1.out]
      rw [Ym (by omega),List.drop_of_length_le (by omega)] at this;rw [← this];rfl
     subst hr2;obtain ⟨v,hcell,htx⟩:=HS.out.cell;have sv:wr.cell? ⟨w.heap.size + 1,0,none⟩=some v:=by simp [World.cell?,hcell]
     have hscl:=(Y6.1 hcell).1;have hgt:∀ g,pv=some ⟨g,0,none⟩→g < wr.heap.size:=fun g h=>(Yh TV.out g (by rw [h]; rfl)).2
     have han:=Zlx ⟨w.heap.size + 1,0,none⟩ Value.string (fun s=>Lib.containsS T s) (Below wr.heap.size wr) pv cpv V wr (by unfold maxLen at hmv; rw [← HNV.out]; omega) (by rw [← HNV.out]; exact hgv)
      (fun i y hy => by
       obtain ⟨g,hg⟩:=HPV.out i y hy;refine ⟨g,0,hg,fun w1 h=>?_⟩;rw [Nat.zero_add];exact (Yj (h.block g (hgt g hg))).trans (TV.out.cells (by rw [hg]; rfl) hy))
      (fun y hy w1 h=>(Zfk w1 (w.heap.size + 1 + 1) (w.heap.size + 1) v T y (htx.bel h) ((Yj (h.block _ hscl)).trans sv)).mono fun e w2 ⟨h1,h2⟩=>⟨h1,by rw [h2]; exact h⟩)
      (Y8 _ _)
     rw [← HNV.out] at han;have HAN:=lh han;obtain ⟨r3,hr3⟩:=zX (V.any (fun s=>Lib.containsS T s))
     rw [← hr3] at HAN HSC;have HBE:=lh HS.out.bel;clear hcell htx han hr3 hgt HS TV NO HR HR2;go_wp2_with fail
     refine HAN.out.mono ?_;rintro e w7 ⟨rfl,hb8⟩;have HB8:=lh (HBE.out.trans (hb8.mono HBE.out.size));clear hb8 HAN;cases r3
     ·go_wp2;go_ret;exact ⟨by rw [HSC.out]; rfl,HB8.out⟩
     ·go_wp2;go_ret;exact ⟨by rw [HSC.out]; rfl,HB8.out⟩
end Go.Proofs.YtajomcjaljakhaaGreatDoor
