/- HoistClosed, walked: the fact, the law. -/
import Derived.Test.YtedopiahfejdfaaGreatDoorJ22
import Derived.Lib.LaidTab
import Derived.LaidMore
import Derived.Stop.Joined
namespace Go.Proofs.YtedopiahfejdfaaGreatDoor
open Go Go.RowKit
set_option maxRecDepth 100000
set_option maxHeartbeats 20000000
set_option linter.unusedVariables false
theorem Z96 (w:World) (B1 B2:Nat) (v1 v2:Value) (l:List ByteArray) (h1:Zv w B1 v1 l) (h2:Zv w B2 v2 l) :
 Calls Tryz.prog 10 #[v1,v2] w fun e w'=>e=.returned (.bool true)∧Below w.heap.size w w':=by
 obtain ⟨p,cp,rfl,hge,hgm⟩:=h1.parts;obtain ⟨q,cq,rfl,hhe,hhm⟩:=h2.parts;obtain ⟨n,hn⟩:=zX l.length
 have H1:=lh h1;have H2:=lh h2;rw [← hn] at hge hhe H1 H2 ⊢;have HN:=lh hn;have hnn:((n:Int) != (n:Int))=false:=by simp
 clear h1 h2 hn;go_enter Tryz.func10,Tryz.ntmps10
 go_wp2_with fail
 go_loopw [5] (fun i wr=>∃ k:Nat,k≤n∧i=.int .i64 k∧Hid (Below w.heap.size w wr)) (fun i _=>n - (intOf i).toNat)
 case atStart=>exact ⟨0,Yh _,rfl,lh (Y2 _ _)⟩
 case round=>
  obtain ⟨k,hk,rfl,HB⟩:=hrel;by_cases hkn:k < n
  ·obtain ⟨x, hx⟩ : ∃ x, l[k]? = some x := ⟨_, Y6 (by rw [← HN.out]; exact hkn)⟩
   obtain ⟨g0,hp⟩:∃ g,p=some ⟨g,0,none⟩:=by
    rcases H1.out.form with ⟨_,h2⟩ | ⟨g,cap,h1,_⟩;·rw [h2] at hx; simp at hx
    ·simp only [Value.slice.injEq] at h1; exact ⟨g,h1.1⟩
   subst hp;obtain ⟨g1,hq⟩:∃ g,q=some ⟨g,0,none⟩:=by
    rcases H2.out.form with ⟨_,h2⟩ | ⟨g,cap,h1,_⟩;·rw [h2] at hx; simp at hx
    ·simp only [Value.slice.injEq] at h1; exact ⟨g,h1.1⟩
   subst hq;have cx:=(H1.out.bel HB.out).cells rfl hx;have cy:=(H2.out.bel HB.out).cells rfl hx;have hb:(x.toList != x.toList)=false:=by simp
   clear hx;go_wp2_with fail
   refine Z1 [(true,0),(true,1),(true,2),(true,3),(true,4),(true,5),(true,6),(true,7)] [8] (fun W=>W.cell? ⟨g0,k,none⟩=some (.string x)∧W.cell? ⟨g1,k,none⟩=some (.string x)) (by kernel_rfl) (by kernel_rfl) (fun _ _ d _ _ h=>by cases d <;> exact h) ⟨cx,cy⟩ (fun hS0=>?_);simp only [Zc,zD,zE,zF,zG,zH,zI]
   iterate 8
    first
     | (refine Z3 ?_ (by rfl) (fun w' hS'=>?_) ?_; rotate_left; (obtain ⟨s0,s1⟩:=hS'; go_simp; first | done | with_reducible rfl); simp only [Act.put,zA,zB,zC])
     | (refine Z4 (by rfl) ?_; simp only [Act.put,zA,zB,zC])
   refine Z6 ?_;go_wp2;go_roundw
   case rel=>exact ⟨k + 1,by omega,by go_num,lh HB.out.drew⟩
   case measure=>simp [intOf]; omega
  ·have hk2 : k = n := by omega
   subst hk2;go_wp2;go_ret;exact ⟨rfl,HB.out⟩
theorem Zv.one3 {w:World} {B:Nat} (hB:B≤w.heap.size) (s:ByteArray):Zv (w.alloc (.cells #[.string s] 9)) B (.slice (some ⟨w.heap.size,0,none⟩) 1 1) [s]:=by
 unfold Zv;refine ⟨rfl,.inr ⟨w.heap.size,1,_,rfl,hB,(Go.MapKept.heap_alloc w _).1,by simp,by unfold maxLen; omega,by simp,?_⟩⟩;simp
theorem Zv.three {w:World} {B:Nat} (hB:B≤w.heap.size) (s t u:ByteArray):Zv (w.alloc (.cells #[.string s,.string t,.string u] 9)) B (.slice (some ⟨w.heap.size,0,none⟩) 3 3) [s,t,u]:=by
 unfold Zv;refine ⟨rfl,.inr ⟨w.heap.size,3,_,rfl,hB,(Go.MapKept.heap_alloc w _).1,by simp,by unfold maxLen; omega,by simp,?_⟩⟩;simp
theorem Z9r (w:World) (hW:Words w) (hL:Z2a w w.heap.size) :
 Calls Tryz.prog 5 #[] w fun e w'=>e=.returned (.bool true)∧Below w.heap.size w w':=by
 have hR:=Z6g w Z60 hW hL;rw [Z74] at hR;unfold Z60 at hR;have HR:=lh hR;clear hR;go_enter Tryz.func5,Tryz.ntmps5
 go_wp2_with fail
 refine HR.out.mono ?_;rintro e w1 ⟨hb,a,rfl,hg⟩;have hk:(Z6a.kind == 1)=true:=by rfl
 obtain ⟨_,_,hwa,hmany⟩:=Z36 Z74 hg.tree;obtain ⟨hn1,hn2⟩:=Z9n hg.tree;have hC1:=Z99 true w1 _ a hg.at' (by omega);rw [hn1] at hC1;unfold ATree.ptr at hC1;have HC1:=lh hC1;have HT:=lh hg.at';have HB:=lh hb;have HF:=lh (fun W (h:TreeAt W w.heap.size a)=>Z65 W _ a h hwa (by omega));rw [show Z3r ((Z10 a [] true).foldl addL [])=[⟨#[97]⟩] from hn2] at HF;unfold ATree.ptr at HF;rw [hk];clear hwa hmany hn1 hn2 hg hb hk HR hC1;go_wp2_with fail
 refine HC1.out.mono ?_;rintro e w2 ⟨v2,rfl,ht2,hb2⟩;have HB2:=lh (HB.out.trans (hb2.mono HB.out.size));have HT2:=lh (HT.out.bel hb2);have hb3:Below w.heap.size w (w2.alloc (.cells #[.string ⟨#[98]⟩,.string ⟨#[102]⟩,.string ⟨#[99]⟩] 9)):=HB2.out.alloc HB2.out.size _;have hS1:=Z96 (w2.alloc (.cells #[.string ⟨#[98]⟩,.string ⟨#[102]⟩,.string ⟨#[99]⟩] 9)) _ _ v2 _ _ (ht2.bel ((Y2 _ _).alloc (Y0 _) _)) (Zv.three (Y0 _) _ _ _);have HS1:=lh hS1;have HB3:=lh hb3
 have HT3:=lh (HT2.out.bel ((Y2 w2.heap.size w2).alloc (Y0 _) (.cells #[.string ⟨#[98]⟩,.string ⟨#[102]⟩,.string ⟨#[99]⟩] 9)));clear ht2 hb2 hb3 hS1 HC1 HT HB;go_wp2_with fail
 refine HS1.out.mono ?_;rintro e w3 ⟨rfl,hb4⟩;have HB4:=lh (HB3.out.trans (hb4.mono HB3.out.size));have HC4:=lh (HF.out w3 (HT3.out.bel hb4));clear hb4 HS1 HB3 HT3 HT2 HF;go_wp2_with fail
 refine HC4.out.mono ?_;rintro e w4 ⟨v4,rfl,ht4,hb4⟩;have HB5:=lh (HB4.out.trans (hb4.mono HB4.out.size));have hb6:Below w.heap.size w (w4.alloc (.cells #[.string ⟨#[97]⟩] 9)):=HB5.out.alloc HB5.out.size _;have HS2:=lh (Z96 (w4.alloc (.cells #[.string ⟨#[97]⟩] 9)) _ _ v4 _ _ (ht4.bel ((Y2 _ _).alloc (Y0 _) _)) (Zv.one3 (Y0 _) _));have HB6:=lh hb6;clear ht4 hb4 hb6 HC4 HB4;go_wp2_with fail
 refine HS2.out.mono ?_;rintro e w5 ⟨rfl,hb7⟩;have HB7:=lh (HB6.out.trans (hb7.mono HB6.out.size));clear hb7 HS2;go_wp2;go_ret;exact ⟨rfl,HB7.out⟩
theorem Zfy (w:World) (text:ByteArray)
 (HR:Hid (Calls Tryz.prog 4 #[.string text] w fun e w'=>(∃ p,e=.returned (.tuple #[p,.bool false]))∧Below w.heap.size w w'))
 (HTO:Hid (∀ w1,Below w.heap.size w w1→Calls Tryz.prog 5 #[] w1 fun e w'=>e=.returned (.bool true)∧Below w1.heap.size w1 w')) :
 Calls Tryz.prog 3 #[.string text] w fun e w'=>e=.returned (.bool true)∧Below w.heap.size w w':=by
 go_enter Tryz.func3,Tryz.ntmps3
 go_wp2_with fail
 refine HR.out.mono ?_;rintro e w1 ⟨⟨p,rfl⟩,hb⟩;have HB:=lh hb;clear hb;go_wp2_with fail
 refine (HTO.out w1 HB.out).mono ?_;rintro e w2 ⟨rfl,hb⟩;have HB2:=lh (HB.out.trans (hb.mono HB.out.size));clear hb;go_wp2_with fail
 refine (HTO.out w2 HB2.out).mono ?_;rintro e w3 ⟨rfl,hb⟩;have HB3:=lh (HB2.out.trans (hb.mono HB2.out.size));clear hb;go_wp2;go_ret;exact ⟨rfl,HB3.out⟩
theorem Zf5 (w:World) (text:ByteArray) (hlong:2000 < text.size)
 (HR:Hid (Calls Tryz.prog 4 #[.string text] w fun e w'=>(∃ p,e=.returned (.tuple #[p,.bool true]))∧Below w.heap.size w w'))
 (HTO:Hid (∀ w1,Below w.heap.size w w1→Calls Tryz.prog 5 #[] w1 fun e w'=>e=.returned (.bool true)∧Below w1.heap.size w1 w')) :
 Calls Tryz.prog 3 #[.string text] w fun e w'=>e=.returned (.bool true)∧Below w.heap.size w w':=by
 have hl:decide ((2000:Int) < (text.size:Int))=true:=by simp; omega
 have hl2:(2000:Int) < (text.size:Int):=by omega
 clear hlong;go_enter Tryz.func3,Tryz.ntmps3
 go_wp2_with fail
 refine HR.out.mono ?_;rintro e w1 ⟨⟨p,rfl⟩,hb⟩;have HB:=lh hb;clear hb;go_wp2_with fail
 refine (HTO.out w1 HB.out).mono ?_;rintro e w2 ⟨rfl,hb⟩;have HB2:=lh (HB.out.trans (hb.mono HB.out.size));clear hb;go_wp2_with fail
 refine (HTO.out w2 HB2.out).mono ?_;rintro e w3 ⟨rfl,hb⟩;have HB3:=lh (HB2.out.trans (hb.mono HB2.out.size));clear hb;go_wp2;go_ret;exact ⟨rfl,HB3.out⟩
structure HcAt (w:World) (text:ByteArray) (L:List ByteArray):Prop where
 lt:L.Pairwise fun x y=>x.data.toList < y.data.toList
 nm:∀ s∈L,Z3l s
 len:L.length≤1500
 name:∀ W s,Below w.heap.size w W→s∈L→Calls Tryz.prog 7 #[.string s] W fun e w'=>e=.returned (.bool true)∧Below W.heap.size W w'
 parse:∀ W,Below w.heap.size w W→(Z39 L ++ text).size≤3000→Calls Tryz.prog 8 #[.string (Z39 L ++ text)] W fun e w'=>Below W.heap.size W w' ∧
  ((e = .returned (.tuple #[.pointer none, .iface 33 (.int .i64 4)])) ∨ ∃ b : Nat, e = .returned (.tuple #[.pointer (some ⟨b, 0, none⟩), .nilIface]) ∧
    Calls Tryz.prog 6 #[.pointer (some ⟨b,0,none⟩)] w' fun e w''=>∃ v,e=.returned v∧Zv w'' w'.heap.size v []∧Below w'.heap.size w' w'')
theorem Zfd (w:World) (text:ByteArray) (hshort:text.size≤2000) (hE:Z2x w)
 (HR : Hid (Calls Tryz.prog 4 #[.string text] w fun e w' => ∃ (ab : Nat) (L : List ByteArray), e = .returned (.tuple #[.pointer (some ⟨ab, 0, none⟩), .bool true]) ∧ Below w.heap.size w w' ∧ HcAt w text L ∧
  ∀ W,Below w'.heap.size w' W→Calls Tryz.prog 6 #[.pointer (some ⟨ab,0,none⟩)] W fun e w'=>∃ v,e=.returned v∧Zv w' W.heap.size v L∧Below W.heap.size W w'))
 (HTO:Hid (∀ w1,Below w.heap.size w w1→Calls Tryz.prog 5 #[] w1 fun e w'=>e=.returned (.bool true)∧Below w1.heap.size w1 w')) :
 Calls Tryz.prog 3 #[.string text] w fun e w'=>e=.returned (.bool true)∧Below w.heap.size w w':=by
 have hl:decide ((2000:Int) < (text.size:Int))=false:=by simp; omega
 have hl2:¬ (2000:Int) < (text.size:Int):=by omega
 have HE:=lh hE;have HSH:=lh hshort;clear hE hshort;go_enter Tryz.func3,Tryz.ntmps3
 go_wp2_with fail
 refine HR.out.mono ?_;rintro e w1 ⟨ab,L,rfl,hb,hH,hfree⟩;obtain ⟨n,hn⟩:=zX L.length
 have HN:=lh hn;have HH:=lh hH;have hms:∀ k,(Z39 (L.take k)).size≤40000:=fun k=>by
  have h1:=Zdc (L.take k) fun s hs=>(hH.nm s (List.mem_of_mem_take hs)).2.1;have h2:=hH.len;rw [List.length_take] at h1;omega
 have HMS:=lh hms;have HB:=lh hb;have HFR:=lh hfree;clear hb hfree HR hn hH hms;go_wp2_with fail
 refine (HTO.out w1 HB.out).mono ?_;rintro e w2 ⟨rfl,hb⟩;have HB2:=lh (HB.out.trans (hb.mono HB.out.size));have HFR2:=lh (HFR.out w2 hb);clear hb HTO HFR HB;go_wp2_with fail
 refine HFR2.out.mono ?_;rintro e w3 ⟨v3,rfl,ht3,hb3⟩;have HB3:=lh (HB2.out.trans (hb3.mono HB2.out.size));have HT:=lh ht3;obtain ⟨p,cp,rfl,hge,hgm⟩:=ht3.parts;rw [← HN.out] at HT hge ⊢;clear ht3 hb3 HFR2 HB2;go_wp2_with fail
 go_loopw [6,7] (fun m i wr=>∃ k:Nat,k≤n∧m=.string (Z39 (L.take k))∧i=.int .i64 k∧Hid (Below w3.heap.size w3 wr)) (fun _ i _=>n - (intOf i).toNat)
 case atStart=>exact ⟨0,Yh _,rfl,rfl,lh (Y2 _ _)⟩
 case round=>
  obtain ⟨k,hk,rfl,rfl,HBR⟩:=hrel;obtain ⟨acc,hacc⟩:=zX (Z39 (L.take k))
  have hz:=HMS.out k;rw [← hacc] at hz ⊢;have HACC:=lh hacc;clear hacc;by_cases hkn:k < n
  ·obtain ⟨x, hx⟩ : ∃ x, L[k]? = some x := ⟨_, Y6 (by rw [← HN.out]; exact hkn)⟩
   obtain ⟨g0,hp⟩:∃ g,p=some ⟨g,0,none⟩:=by
    rcases HT.out.form with ⟨_,h2⟩ | ⟨g,cap,h1,_⟩;·rw [h2] at hx; simp at hx
    ·simp only [Value.slice.injEq] at h1; exact ⟨g,h1.1⟩
   subst hp;have hxm:x∈L:=Yd hx;have hx20:=(HH.out.nm x hxm).2.1;have HNX:=lh (Zc9 L k x hx);have cx:=(HT.out.bel HBR.out).cells rfl hx;have HIS:=lh (HH.out.name wr.drew x (HB3.out.trans (HBR.out.drew.mono HB3.out.size)) hxm);have ha1:¬ (4 + x.size > 9223372036854775807):=by omega
   have ha2:¬ (4 + x.size + 2 > 9223372036854775807):=by omega
   have ha3:¬ (acc.size + (4 + x.size + 2) > 9223372036854775807):=by omega
   by_cases hk0:k=0
   ·subst hk0;have hlt0 : decide ((0 : Int) < ((0 : Nat) : Int)) = false := by simp
    have HX:=lh hx;clear hx hxm hx20 hz;go_wp2_with fail
    refine Z1 [(true,0),(true,1),(true,2),(true,3),(true,4),(true,5),(true,6),(true,7),(true,8),(true,9),(true,10),(true,11),(true,12),(true,13),(true,14),(true,15),(true,16)] [17,18,19,20,21] (fun W=>W.cell? ⟨g0,0,none⟩=some (.string x)) (by kernel_rfl) (by kernel_rfl) (fun _ _ d _ _ h=>by cases d <;> exact h) cx (fun hS0=>?_);simp only [Zc,zD,zE,zF,zG,zH,zI]
    iterate 17
     first
      | (refine Z3 ?_ (by rfl) (fun w' hS'=>?_) ?_; rotate_left; (have s0:=hS'; go_simp; first | done | with_reducible rfl); simp only [Act.put,zA,zB,zC])
      | (refine Z4 (by rfl) ?_; simp only [Act.put,zA,zB,zC])
    refine Z6 ?_;go_wp2_with fail
    refine HIS.out.mono ?_;rintro e w4 ⟨rfl,hb4⟩;have HB4:=lh (HBR.out.drew.trans (hb4.mono HBR.out.drew.size));have c4:w4.cell? ⟨g0,0,none⟩=some (.string x):=(HT.out.bel HB4.out).cells rfl HX.out;clear hb4 HIS cx;go_wp2;go_roundw
    case rel=>exact ⟨1,by omega,by rw [HNX.out,HACC.out],by first | done | rfl | go_num,lh HB4.out⟩
    case measure=>simp [intOf]; omega
   ·obtain ⟨j, hj⟩ : ∃ j, j + 1 = k := ⟨k - 1, by omega⟩
    rw [← hj] at hx;obtain ⟨y,hy⟩:∃ y,L[j]?=some y:=⟨_,Y6 (by rw [← HN.out]; omega)⟩
    have cy:=(HT.out.bel HBR.out).cells rfl hy;have hge2:=Zf7 HH.out.lt hy hx;have hsub:(k:Int) - 1=(j:Int):=by omega
    have hpos:decide ((0:Int) < (k:Int))=true:=by simp; omega
    have hpos2:(0:Int) < (k:Int):=by omega
    have hpos3:0 < k:=by omega
    have hpos4:decide (0 < k)=true:=by simp; omega
    have hjn:j < n:=by omega
    have hjI:(j:Int) < (n:Int):=by omega
    have hwj:IntKind.i64.wrap (j:Int)=(j:Int):=IntWalk.i64_in _ (by omega);have HX:=lh hx;rw [hj] at HX;have HJ:=lh hj;clear hx hy hxm hx20 hz hk0 hj;go_wp2_with fail
    refine Z1 [(true,0),(true,1),(true,2),(true,3),(true,4),(true,5),(true,6),(true,7),(true,8),(true,9),(true,10),(true,11),(true,12),(true,13),(true,14),(true,15),(true,16)] [17,18,19,20,21] (fun W=>W.cell? ⟨g0,k,none⟩=some (.string x)∧W.cell? ⟨g0,j,none⟩=some (.string y)) (by kernel_rfl) (by kernel_rfl) (fun _ _ d _ _ h=>by cases d <;> exact h) ⟨cx,cy⟩ (fun hS0=>?_);simp only [Zc,zD,zE,zF,zG,zH,zI]
    iterate 17
     first
      | (refine Z3 ?_ (by rfl) (fun w' hS'=>?_) ?_; rotate_left; (obtain ⟨s0,s1⟩:=hS'; go_simp; first | done | with_reducible rfl); simp only [Act.put,zA,zB,zC])
      | (refine Z4 (by rfl) ?_; simp only [Act.put,zA,zB,zC])
    refine Z6 ?_;go_wp2_with fail
    refine HIS.out.mono ?_;rintro e w4 ⟨rfl,hb4⟩;have HB4:=lh (HBR.out.drew.trans (hb4.mono HBR.out.drew.size));have c4:w4.cell? ⟨g0,k,none⟩=some (.string x):=(HT.out.bel HB4.out).cells rfl HX.out;clear hb4 HIS cx cy;go_wp2;go_roundw
    case rel=>exact ⟨k + 1,by omega,by rw [HNX.out,HACC.out],by go_num,lh HB4.out⟩
    case measure=>simp [intOf]; omega
  ·have hk2 : k = n := by omega
   subst hk2;have hal:acc=Z39 L:=by rw [HACC.out,HN.out,List.take_length]
   have HB4:=lh (HB3.out.trans (HBR.out.mono HB3.out.size));by_cases h3:3000 < acc.size + text.size
   ·have hd3 : decide ((3000 : Int) < (acc.size : Int) + (text.size : Int)) = true := by simp; omega
    have hd4:(3000:Int) < (acc.size:Int) + (text.size:Int):=by omega
    clear hal h3;go_wp2;go_ret;exact ⟨rfl,HB4.out⟩
   ·have hd3 : decide ((3000 : Int) < (acc.size : Int) + (text.size : Int)) = false := by simp; omega
    have hd4:¬ (3000:Int) < (acc.size:Int) + (text.size:Int):=by omega
    have hd5:¬ (acc.size + text.size > 9223372036854775807):=by omega
    have hp:=HH.out.parse wr HB4.out (by rw [← hal,ByteArray.size_append]; omega);rw [← hal] at hp;have HP:=lh hp;clear hal h3 hp;go_wp2_with fail
    refine HP.out.mono ?_;rintro e w5 ⟨hb5,hres⟩;have HB5:=lh (HB4.out.trans (hb5.mono HB4.out.size));rcases hres with rfl | ⟨b,rfl,hfr⟩
    ·have htl := Ze2 w5 4 (HE.out.below HB5.out);rw [show errV 4 = .iface 33 (.int .i64 4) from rfl] at htl;have HTL := lh htl;clear htl hb5 HP;go_wp2_with fail
     refine HTL.out.mono ?_;rintro e w6 ⟨rfl,hb6⟩;have HB6:=lh (HB5.out.trans (hb6.mono HB5.out.size));clear hb6 HTL;go_wp2;go_ret;exact ⟨rfl,HB6.out⟩
    ·have HFR := lh hfr;clear hfr hb5 HP;go_wp2_with fail
     refine HFR.out.mono ?_;rintro e w6 ⟨v6,rfl,ht6,hb6⟩;obtain ⟨q,cq,rfl,_,_⟩:=ht6.parts;have HB6:=lh (HB5.out.trans (hb6.mono HB5.out.size));clear hb6 HFR ht6;go_wp2;go_ret;exact ⟨rfl,HB6.out⟩
theorem Z67 (w:World) (text:ByteArray) (hW:Words w) (hL:Z2a w w.heap.size) (hE:Z2x w) :
 Calls Tryz.prog 3 #[.string text] w fun e w'=>e=.returned (.bool true)∧Below w.heap.size w w':=by
 have hup:∀ W,Below w.heap.size w W→Words W∧Z2a W W.heap.size:=fun W hB=>⟨hW.below hB,by
  intro lv hl;obtain ⟨b,off,cap,h1,h2,h3,h4,h5⟩:=hL.keep (fun k hk=>hB.block k hk) lv hl;exact ⟨b,off,cap,Y7 h1 hB.size,Y7 h2 hB.size,h3,h4,h5⟩⟩
 have HTO:=lh (fun w1 (hB:Below w.heap.size w w1)=>Z9r w1 (hup w1 hB).1 (hup w1 hB).2);have hR:=Z6g w text hW hL;cases hr:Zi text with
 | error x =>
   rw [hr] at hR;exact Zfy w text (lh (hR.mono fun e w' h=>⟨⟨_,h.2⟩,h.1⟩)) HTO
 | ok t =>
   rw [hr] at hR;have hk:(t.kind == 1)=true:=by rw [(Z30 hr).2]; rfl
   by_cases hlong:2000 < text.size
   ·refine Zf5 w text hlong (lh (hR.mono fun e w' h=>?_)) HTO;obtain ⟨hb,a,rfl,hg⟩:=h;rw [hk];exact ⟨⟨_,rfl⟩,hb⟩
   ·refine Zfd w text (by omega) hE (lh (hR.mono fun e w' h => ?_)) HTO;obtain ⟨hb, a, rfl, hg⟩ := h;obtain ⟨_, hnm, hwa, hmany⟩ := Z36 hr hg.tree;rw [hk];refine ⟨a.b, Z2q a, rfl, hb, ⟨Zci a, hnm, Y4 (Zbo a) hmany, fun W s hB hs => ?_, fun W hB hz => ?_⟩, fun W hB => Z65 W _ a (hg.at'.bel hB) hwa (by omega)⟩
    ·have h1:=Zbl s W (by have:=(hnm s hs).2.1; omega) (hup W hB).1;rw [Ze5 (hnm s hs)] at h1;exact h1
    ·have hP := Z9b W (Z39 (Z2q a) ++ text) (hup W hB).1 (hup W hB).2;rcases Zaa hr hnm hz with h1 | ⟨y, h1, h2⟩
     ·rw [h1] at hP;refine hP.mono fun e w2 h => ⟨h.1, .inl ?_⟩;obtain ⟨_, x, rfl, hx⟩ := h;rcases hx with ⟨_, rfl⟩ | ⟨q, hq, _⟩;·rfl
      ·omega
     ·rw [h1] at hP;refine hP.mono fun e w2 h=>⟨h.1,.inr ?_⟩;obtain ⟨_,b,rfl,hgb⟩:=h;obtain ⟨_,_,hwb,hmb⟩:=Z36 h1 hgb.tree;refine ⟨b.b,rfl,?_⟩;have h3:=Z65 w2 _ b hgb.at' hwb (by omega);rw [show Z3r ((Z10 b [] true).foldl addL [])=[] from Zch hr hg.tree h1 hgb.tree h2] at h3;exact h3
end Go.Proofs.YtedopiahfejdfaaGreatDoor
namespace Go.Proofs.YtedopiahfejdfaaGreatDoor
open Go Go.RowKit
set_option maxRecDepth 100000
set_option maxHeartbeats 20000000
theorem Z7a {H:Type} {enc:TypeId×Value→H} {P:Program} {w:World} {base:Nat} {sp:Nat→Bool} {held:Bool} {fuel:Nat} {t e:TypeId} {n:Nat} {cs:List Value} {l:List (List UInt8)} {p:List MemPlace}
 (ht:P.underlying t=some (.array n e)) (he:P.underlying e=some .string) (hce:P.cellsOf e=1) (hct:P.cellsOf t=n)
 (h:DataW.trod enc P w base sp held fuel t cs=some (.agg (l.map fun b=>.lit (.string b)),p)):cs=l.map fun b=>Value.string ⟨b.toArray⟩:=by
 cases fuel with
 | zero=>simp [DataW.trod] at h
 | succ fuel =>
   simp only [DataW.trod,ht,hce,hct,Nat.mul_one] at h;split at h
   ·rename_i hl;obtain ⟨xs,hm,hx⟩:=Option.map_eq_some_iff.1 h;have hxs:xs.map (·.1)=l.map fun b=>(DataW.lit (.string b):DataW H):=by
     have:=congrArg Prod.fst hx;simpa using this
    have hxl:xs.length=n:=by simpa using Lib.mapM_length hm
    have hzl:l.length=n:=by
     have:=congrArg List.length hxs;simp at this;omega
    apply List.ext_getElem?;intro i;by_cases hi:i < n
    ·obtain ⟨b,hb,hf⟩:=Lib.mapM_at hm i i (by simp [hi]);obtain ⟨s,hc,rfl,_⟩:=DataW.trod_string he hf;have h1:cs[i]?=some (.string s):=by
      have:=congrArg (·[0]?) hc;simpa [List.getElem?_take,List.getElem?_drop] using this
     have h2:(xs.map (·.1))[i]?=some (DataW.lit (.string s.data.toList):DataW H):=by simp [hb]
     rw [hxs] at h2;simp only [List.getElem?_map,Option.map_eq_some_iff,DataW.lit.injEq,Lit.string.injEq] at h2;obtain ⟨z',hz',hzz⟩:=h2;simp only [h1,List.getElem?_map,hz',Option.map_some,hzz]
    ·rw [List.getElem?_eq_none (by omega),List.getElem?_eq_none (by simp; omega)]
   ·cases h
theorem Zff {H:Type} {enc:TypeId×Value→H} {P:Program} {w:World} {base:Nat} {sp:Nat→Bool} {held:Bool} {fuel:Nat} {e:TypeId} {v:Value} {b:List UInt8} {q:List MemPlace} (he:P.underlying e=some .string)
 (h:DataW.trod enc P w base sp held fuel e [v]=some (.lit (.string b),q)):v=.string ⟨b.toArray⟩:=by
 obtain ⟨s,hc,hx,_⟩:=DataW.trod_string he h;simp only [List.cons.injEq,and_true] at hc;simp only [Prod.mk.injEq,DataW.lit.injEq,Lit.string.injEq] at hx;rw [hc,hx.1]
theorem Z89 {P:Program} {W:World} {name:String} {d:DataW Unit} {rest:List (String×DataW Unit)} {g:Nat} {t e:TypeId} {n:Nat} {l:List (List UInt8)}
 (hg:P.globalNamed name=some g) (hty:(P.globals[g]?).map (·.type)=some t) (ht:P.underlying t=some (.array n e)) (he:P.underlying e=some .string) (hce:P.cellsOf e=1) (hct:P.cellsOf t=n)
 (hd:d=.agg (l.map fun b=>.lit (.string b))) (h:laidMet P ((name,d) :: rest) W) (i:Nat) (b:List UInt8) (hi:l[i]?=some b):W.cell? ⟨g,i,none⟩=some (.string ⟨b.toArray⟩):=by
 obtain ⟨ps,⟨g',t',cs,fuel,p,q,hg',ht',hvar,hd',_,_⟩,_⟩:=h;obtain rfl:=Yc (hg.symm.trans hg');obtain rfl:=Yc (hty.symm.trans ht');rw [hd] at hd';have hc:=Z7a ht he hce hct hd';have:=World.var?_cell hg hvar i;rw [this];have hx:cs=(l.map fun b=>Value.string ⟨b.toArray⟩).toArray:=by rw [← hc]
 rw [hx];simp [hi]
theorem Zfi {H:Type} {enc:TypeId×Value→H} {P:Program} {w:World} {base:Nat} {sp:Nat→Bool} {held:Bool} {fuel:Nat} {t e:TypeId} {n:Nat} {cs:List Value} {l:List (DataW H)} {p:List MemPlace}
 (ht:P.underlying t=some (.array n e)) (hce:P.cellsOf e=1) (hct:P.cellsOf t=n)
 (h:DataW.trod enc P w base sp held fuel t cs=some (.agg l,p)) (i:Nat) (r:DataW H) (hi:l[i]?=some r) :
 ∃ fuel' q,DataW.trod enc P w base sp held fuel' e ((cs.drop i).take 1)=some (r,q):=by
 cases fuel with
 | zero=>simp [DataW.trod] at h
 | succ fuel =>
   simp only [DataW.trod,ht,hce,hct,Nat.mul_one] at h;split at h
   ·rename_i hl;obtain ⟨xs,hm,hx⟩:=Option.map_eq_some_iff.1 h;have hxs:xs.map (·.1)=l:=by
     have:=congrArg Prod.fst hx;simpa using this
    have hxl:xs.length=n:=by simpa using Lib.mapM_length hm
    have hin:i < n:=by
     have h1:=(List.getElem?_eq_some_iff.1 hi).1;rw [← hxs,Ym] at h1;omega
    obtain ⟨b,hb,hf⟩:=Lib.mapM_at hm i i (by simp [hin]);have h2:(xs.map (·.1))[i]?=some b.1:=by simp [hb]
    rw [hxs,hi] at h2;exact ⟨fuel,b.2,by rw [Yc h2]; exact hf⟩
   ·cases h
theorem Z7j {P:Program} {W:World} {n1 name:String} {d1 d:DataW Unit} {rest:List (String×DataW Unit)} {g:Nat} {t e f:TypeId} {n:Nat} {l:List (List (List UInt8))}
 (hg:P.globalNamed name=some g) (hty:(P.globals[g]?).map (·.type)=some t) (ht:P.underlying t=some (.array n e)) (he:P.underlying e=some (.slice f)) (hf:P.underlying f=some .string)
 (hce:P.cellsOf e=1) (hcf:P.cellsOf f=1) (hct:P.cellsOf t=n)
 (hd:d=.agg (l.map fun r=>.slice (r.map fun b=>.lit (.string b)) [])) (h:laidMet P ((n1,d1) :: (name,d) :: rest) W) (i:Nat) (r:List (List UInt8)) (hi:l[i]?=some r) (hr:0 < r.length) :
 ∃ b off cap,W.cell? ⟨g,i,none⟩=some (.slice (some ⟨b,off,none⟩) r.length cap)∧r.length≤cap∧∀ j x,r[j]?=some x→W.cell? ⟨b,off + j,none⟩=some (.string ⟨x.toArray⟩):=by
 obtain ⟨ps,⟨_,_,_,_,_,_,_,_,_,_,h2,_⟩,_⟩:=h;obtain ⟨g',t',cs,fuel,p,q,hg',ht',hvar,hd',_,_⟩:=h2;obtain rfl:=Yc (hg.symm.trans hg');obtain rfl:=Yc (hty.symm.trans ht');rw [hd] at hd';obtain ⟨fuel',q',hrow⟩:=Zfi ht hce hct hd' i (.slice (r.map fun b=>.lit (.string b)) []) (by rw [Yg,hi]; rfl);obtain ⟨a,cap,hcs,hcap,hel⟩:=open_row he hcf hrow;rw [Ym] at hcs hcap;have hcell:W.cell? ⟨g,i,none⟩=some (.slice (some a) r.length cap):=by
  rw [World.var?_cell hg hvar i];have:=congrArg (·[0]?) hcs;simpa [List.getElem?_take,List.getElem?_drop] using this
 obtain ⟨b,off,spot⟩:=a;have hspot:spot=none:=by
  obtain ⟨x,hx⟩:∃ x,r[0]?=some x:=⟨r[0],Y6 hr⟩
  obtain ⟨v,n,q,hc,_⟩:=hel 0 _ (by rw [Yg,hx]; rfl);simpa [Addr.add] using World.cell?_spot hc
 subst hspot;refine ⟨b,off,cap,hcell,hcap,fun j x hx=>?_⟩;obtain ⟨v,n,q,hc,hr⟩:=hel j _ (by rw [Yg,hx]; rfl);rw [Zff hf hr] at hc;rwa [show ((⟨b,off,none⟩:Addr).add j)=⟨b,off + j,none⟩ by unfold Addr.add; split <;> simp_all] at hc
end Go.Proofs.YtedopiahfejdfaaGreatDoor
