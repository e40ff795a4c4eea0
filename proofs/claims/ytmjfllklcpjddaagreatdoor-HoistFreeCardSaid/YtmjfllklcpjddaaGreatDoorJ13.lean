/- The document's Vars: what it tells is what package hoist's does. -/
import Derived.Test.YtmjfllklcpjddaaGreatDoorJ12
namespace Go.Proofs.YtmjfllklcpjddaaGreatDoor
open Go Go.RowKit
set_option maxRecDepth 100000
set_option maxHeartbeats 20000000
set_option linter.unusedVariables false
def Z2i (l m:List ByteArray):List ByteArray:=m.foldl addL l
theorem Z9e {l:List ByteArray} {s x:ByteArray} (h:x∈l):x∈addL l s:=by
 unfold addL;split;·exact h
 ·exact List.mem_append_left _ h
theorem Z8w (l:List ByteArray) (s:ByteArray):s∈addL l s:=by
 unfold addL;split;·rename_i h; exact (Lib.containsS_iff _ _).1 h
 ·simp
theorem Zer:∀ (m l:List ByteArray) (x:ByteArray),x∈l∨x∈m→x∈Z2i l m:=by
 intro m;induction m with
 | nil=>intro l x h; rcases h with h | h; (exact h); (cases h)
 | cons y m ih =>
   intro l x h;refine ih (addL l y) x ?_;rcases h with h | h;·exact .inl (Z9e h)
   ·rcases List.mem_cons.1 h with rfl | h;·exact .inl (Z8w _ _)
    ·exact .inr h
theorem Zdc (l m:List ByteArray) (s:ByteArray):Z2i l (addL m s)=addL (Z2i l m) s:=by
 by_cases h:Lib.containsS m s=true
 ·have h1 : addL m s = m := by unfold addL; rw [Yb h]
  have h2:Lib.containsS (Z2i l m) s=true:=(Lib.containsS_iff _ _).2 (Zer m l s (.inr ((Lib.containsS_iff _ _).1 h)));rw [h1];conv=>rhs; unfold addL
  rw [Yb h2]
 ·have h1 : addL m s = m ++ [s] := by unfold addL; rw [Y9 h]
  rw [h1];simp [Z2i,List.foldl_append]
def ownV (a:ATree) (l:List ByteArray):List ByteArray:=if a.kind == 2 then addL l a.text else l
theorem Z61 (a:ATree) (l:List ByteArray):Z5f Z2k a l=cond (Z2q a) (ownV a l) (Z20 Z2k a.kids (ownV a l)):=by
 rw [Zar];have h1:(Z2k l a).1=!Z2q a:=rfl;have h2:(Z2k l a).2=ownV a l:=rfl;rw [h2];cases hi:Z2q a with
 | true=>rw [Y9 (by rw [h1,hi]; decide)]; rfl
 | false=>rw [Yb (by rw [h1,hi]; rfl)]; rfl
theorem Zc0 (a:ATree) (l m:List ByteArray):Z2i l (ownV a m)=ownV a (Z2i l m):=by
 unfold ownV;by_cases h:(a.kind == 2)=true;·rw [Yb h,Yb h,Zdc]
 ·rw [Y9 h,Y9 h]
theorem Zk8 (a:ATree) (l:List ByteArray):(ownV a l).length≤l.length + 1:=by
 unfold ownV;split;·exact Z6y _ _
 ·omega
mutual
theorem Zf4:∀ (a:ATree) (l m:List ByteArray),Z2i l (Z5f Z2k a m)=Z5f Z2k a (Z2i l m)
 | .mk b v k t n ks, l, m => by
   rw [Z61,Z61];cases Z2q (.mk b v k t n ks) with
   | true=>simp only [cond_true]; exact Zc0 _ _ _
   | false=>simp only [cond_false,ATree.kids]; rw [Z6r ks,Zc0]
theorem Z6r:∀ (ks:List ATree) (l m:List ByteArray),Z2i l (Z20 Z2k ks m)=Z20 Z2k ks (Z2i l m)
 | [],l,m=>by simp only [Z20]
 | a :: ks, l, m => by
   simp only [Z20];rw [Z6r ks,Zf4 a]
end
mutual
theorem Zgw:∀ (a:ATree) (l:List ByteArray),(Z5f Z2k a l).length≤l.length + a.many
 | .mk b v k t n ks, l => by
   rw [Z61];have h0:=Zk8 (.mk b v k t n ks) l;cases Z2q (.mk b v k t n ks) with
   | true=>simp only [cond_true,ATree.many]; omega
   | false =>
     simp only [cond_false,ATree.kids,ATree.many];have:=Z5y ks (ownV (.mk b v k t n ks) l);omega
theorem Z5y:∀ (ks:List ATree) (l:List ByteArray),(Z20 Z2k ks l).length≤l.length + Z0w ks
 | [],l=>by simp [Z20]
 | a :: ks, l => by
   simp only [Z20,Z0w];have h1:=Zgw a l;have h2:=Z5y ks (Z5f Z2k a l);omega
end
theorem Z6z (a:ATree):(Z4g a).length≤a.many:=by
 have:=Z5y a.kids [];obtain ⟨b,v,k,t,n,ks⟩:=a;unfold Z4g;simp only [ATree.kids,List.length_nil,ATree.many] at this ⊢;omega
theorem Z8b (x:ATree) (l:List ByteArray):Z5f Z2k x l=cond (Z2q x) (ownV x l) (Z2i (ownV x l) (Z4g x)):=by
 rw [Z61];cases Z2q x with
 | true=>rfl
 | false =>
   simp only [cond_false];unfold Z4g;rw [Z6r];rfl
theorem Z8d {l m:List ByteArray} {j:Nat} {s:ByteArray} (h:m[j]?=some s):Z2i l (m.take (j + 1))=addL (Z2i l (m.take j)) s:=by
 have e:m.take (j + 1)=m.take j ++ [s]:=by rw [List.take_add_one,h]; rfl
 rw [e];simp [Z2i,List.foldl_append]
theorem Za4 (l m:List ByteArray):(Z2i l m).length≤l.length + m.length:=by
 induction m generalizing l with
 | nil=>simp [Z2i]
 | cons x m ih =>
   have h1:=ih (addL l x);have h2:=Z6y l x;simp only [Z2i,List.foldl_cons,List.length_cons] at h1 ⊢;omega
theorem Z6c (w:World) (B:Nat) (a:ATree) (hT:TreeAt w B a) :
 Calls Tryz.prog 16 #[a.ptr] w fun e w'=>e=.returned (.bool (Z2q a))∧w'=w:=by
 have c0:=hT.c0;unfold Z2q ATree.ptr;obtain ⟨kd,hkd⟩:=zX a.kind
 rw [← hkd] at c0 ⊢;clear hkd hT;rcases (by omega:kd=5∨kd=37∨(kd≠5∧kd≠37)) with h3 | h3 | ⟨h3,h4⟩
 ·subst h3;go_enter Tryz.func16, Tryz.ntmps16
  go_wp2;go_ret;exact ⟨rfl,rfl⟩
 ·subst h3;go_enter Tryz.func16, Tryz.ntmps16
  go_wp2;go_ret;exact ⟨rfl,rfl⟩
 ·have n3 : (kd == 5) = false := by simpa using h3
  have n4:(kd == 37)=false:=by simpa using h4
  clear h3 h4;rw [n3,n4];go_enter Tryz.func16,Tryz.ntmps16
  go_wp2;go_ret;exact ⟨rfl,rfl⟩
theorem Zgy (n0:Nat):∀ (a:ATree),a.many≤n0→a.many≤100000→∀ (w:World) (B0:Nat),TreeAt w B0 a →
 Calls Tryz.prog 36 #[a.ptr] w fun e w'=>∃ v,e=.returned v∧Zp w' w.heap.size v (Z4g a)∧Below w.heap.size w w':=by
 induction n0 with
 | zero=>intro a h; cases a; simp [ATree.many] at h
 | succ n0 ih=>
 intro a hn hmx w B0 hT;have HIH:=lh ih;obtain ⟨p,cp,hv,hge,hgm⟩:=hT.vOf;have c3:=hT.c3;rw [hv] at c3;have hkm:=Z22 a;have hlen:a.kids.length≤100000:=by omega
 have HT:=lh hT;have HV:=lh hv;have HNN:=lh hn;have HMX:=lh hmx;have HLEN:=lh (show ∀ k,(Z20 Z2k (a.kids.take k) []).length≤100000 from fun k=>by
  have h1:=Z5y (a.kids.take k) [];have h2:Z0w (a.kids.take k)≤Z0w a.kids:=by
   rw [← Z5t,← Z5t]; exact Zdt
  have h3:Z0w a.kids < a.many:=by obtain ⟨b,v,kk,t,n,ks⟩:=a; simp only [ATree.kids,ATree.many]; omega
  simp only [List.length_nil] at h1;omega)
 unfold ATree.ptr;unfold Z4g;obtain ⟨n,hnn⟩:=zX a.kids.length
 rw [← hnn] at c3 hlen hge;have HN:=lh hnn;unfold maxLen at hgm;clear hv hnn hT hkm ih hn hmx;go_enter Tryz.func36,Tryz.ntmps36
 go_wp2_with fail
 go_loopw [3,15] (fun v i wr=>∃ (k:Nat) (v':Value),v'=v∧k≤n∧i=.int .i64 k∧Hid (Zp wr w.heap.size v' (Z20 Z2k (a.kids.take k) []))∧Hid (Below w.heap.size w wr)) (fun _ i _=>n - (intOf i).toNat)
 case atStart=>exact ⟨0,_,rfl,Yp _,rfl,lh (Zp.nil _ _),lh (Y8 _ _)⟩
 case round=>
  obtain ⟨k,v,rfl,hk,rfl,HR,HB⟩:=hrel;by_cases hkn:k < n
  ·obtain ⟨x, hx⟩ : ∃ x, a.kids[k]? = some x := ⟨_, Yd (by rw [← HN.out]; exact hkn)⟩
   have hT2:=HT.out.bel HB.out;have hrow:=hT2.rowOf;rcases Za hrow with ⟨_,h2⟩ | ⟨g0,cap0,hv0,_⟩;·rw [← HN.out] at h2; omega
   have hp:p=some ⟨g0,0,none⟩:=by
    have:=HV.out.symm.trans hv0;simp only [Value.slice.injEq] at this;exact this.1
   subst hp;have cx:=Zl hrow (g:=g0) (by rw [hv0]; rfl) (i:=k) (x:=x.ptr) (by rw [Yo,hx]; rfl);unfold ATree.ptr at cx;have hmem:=Yl hx;have hTx:=hT2.kid hmem;have hxm:=Z1t hmem;have x0:=hTx.c0;have x1:=hTx.c1;have HTX:=lh hTx;have HXM:=lh hxm;have HNX:=lh (show Z20 Z2k (a.kids.take (k + 1)) []=Z5f Z2k x (Z20 Z2k (a.kids.take k) []) from by rw [Z0v hx,Z62]);obtain ⟨L,hL⟩:=zX (Z20 Z2k (a.kids.take k) [])
   have HLL:=lh hL;have hl1:L.length≤100000:=by rw [hL]; exact HLEN.out k
   rw [← hL] at HR HNX;obtain ⟨kd,hkd⟩:=zX x.kind
   obtain ⟨tx,htx⟩:=zX x.text
   rw [← hkd] at x0;rw [← htx] at x1;have HKD:=lh hkd;have HTXT:=lh htx;have HSZ:=lh HB.out.size;clear hT2 hrow hv0 hTx hxm hmem hx hL hkd htx;by_cases h2:kd=2
   ·subst h2;have HA := lh (Z4l wr w.heap.size v L tx HR.out HSZ.out (by omega));go_wp2_with fail
    refine HA.out.mono ?_;rintro e w1 ⟨v1,rfl,ht1,hb1⟩;obtain ⟨L1,hL1⟩:=zX (addL L tx)
    have HL1:=lh (show ownV x L=L1 from by rw [hL1]; unfold ownV; rw [← HKD.out,← HTXT.out]; rfl);have HL1L:=lh (show L1.length≤100001 from by rw [hL1]; have:=Z6y L tx; omega);rw [← hL1] at ht1;have T1:=lh ht1;have BWR:=lh hb1;have BW:=lh (HB.out.trans (hb1.mono HB.out.size));clear ht1 hb1 HA hL1;have HTX1:=lh (HTX.out.bel BWR.out);have HI:=lh (Z6c w1 _ x HTX1.out);have HSW:=lh (BW.out.size);unfold ATree.ptr at HI;cases hin:Z2q x with
    | true =>
      rw [hin] at HI;have HFI:=lh (show Z20 Z2k (a.kids.take (k + 1)) []=L1 from by rw [HNX.out,Z8b,hin]; simp only [cond_true]; exact HL1.out);clear hin;go_wp2_with fail
      refine HI.out.mono ?_;rintro e w2 ⟨rfl,hw2⟩;have hw3:=hw2.symm;subst hw3;go_wp2;go_roundw
      case rel=>exact ⟨k + 1,_,rfl,by omega,by go_num,lh (by rw [HFI.out]; exact T1.out),BW⟩
      case measure=>simp [intOf]; omega
    | false =>
      rw [hin] at HI;have HFI:=lh (show Z20 Z2k (a.kids.take (k + 1)) []=Z2i L1 (Z4g x) from by rw [HNX.out,Z8b,hin]; simp only [cond_false]; rw [HL1.out]);have HC:=lh (HIH.out x (by have:=HNN.out; have:=HXM.out; omega) (by have:=HMX.out; have:=HXM.out; omega) w1 _ HTX1.out);unfold ATree.ptr at HC;clear hin;go_wp2_with fail
      refine HI.out.mono ?_;rintro e w2 ⟨rfl,hw2⟩;have hw3:=hw2.symm;subst hw3;go_wp2_with fail
      refine HC.out.mono ?_;rintro e w3 ⟨vm,rfl,htm,hb3⟩;obtain ⟨M,hM⟩:=zX (Z4g x)
      have hml:M.length≤100000:=by rw [hM]; have:=Z6z x; have:=HXM.out; have:=HMX.out; omega
      rw [← hM] at htm HFI;obtain ⟨q,cq,rfl,hqe,hqm⟩:∃ p cp,vm=.slice p M.length cp∧M.length≤cp∧cp≤maxLen:=by
       rcases htm.form with ⟨h1,h2⟩ | ⟨g,cap,h1,h2,h3⟩;·exact ⟨none,0,by rw [h1,h2]; rfl,by rw [h2]; exact Y5 _,by unfold maxLen; omega⟩
       ·exact ⟨_,_,h1,h2,h3⟩
      unfold maxLen at hqm;obtain ⟨m,hm⟩:=zX M.length
      have T3:=lh (T1.out.bel hb3);have B3:=lh (BW.out.trans (hb3.mono BW.out.size));rw [← hm] at htm hqe hml ⊢;have HM:=lh hm;have HTM:=lh htm;clear hM hm htm hb3 HC HI HR HB;go_wp2_with fail
      go_loopw [3,36] (fun v i wr'=>∃ (j:Nat) (v':Value),v'=v∧j≤m∧i=.int .i64 j∧Hid (Zp wr' w.heap.size v' (Z2i L1 (M.take j)))∧Hid (Zp wr' w1.heap.size (.slice q m cq) M)∧Hid (Below w.heap.size w wr')) (fun _ i _=>m - (intOf i).toNat)
      case atStart=>exact ⟨0,_,rfl,Yp _,rfl,T3,HTM,B3⟩
      case round=>
       obtain ⟨j,v,rfl,hj,rfl,HR,HM2,HB⟩:=hrel;clear T3 HTM B3;by_cases hjm:j < m
       ·obtain ⟨y, hy⟩ : ∃ y, M[j]? = some y := ⟨_, Yd (by rw [← HM.out]; exact hjm)⟩
        obtain ⟨g1,hq⟩:∃ g,q=some ⟨g,0,none⟩:=by
         rcases HM2.out.form with ⟨_,h2⟩ | ⟨g,cap,h1,_⟩;·rw [h2] at hy; simp at hy
         ·simp only [Value.slice.injEq] at h1; exact ⟨g,h1.1⟩
        subst hq;have cy:=HM2.out.cells rfl hy;have HST:=lh (Z8d (l:=L1) hy);have hlm:(Z2i L1 (M.take j)).length≤300000:=by
         have h1:=Za4 L1 (M.take j);have h2:(M.take j).length≤M.length:=by rw [List.length_take]; omega
         have h3:=HM.out;have h4:=HL1L.out;omega
        have HA:=lh (Z4l _ w.heap.size v _ y HR.out HB.out.size (by omega));clear hy hlm;go_wp2_with fail
        refine HA.out.mono ?_;rintro e w4 ⟨v4,rfl,ht4,hb4⟩;have T4:=lh ht4;have M4:=lh (HM2.out.bel hb4);have B4:=lh (HB.out.trans (hb4.mono HB.out.size));clear ht4 hb4 HA;go_wp2;go_roundw
        case rel=>exact ⟨j + 1,_,rfl,by omega,by go_num,lh (by rw [HST.out]; exact T4.out),M4,B4⟩
        case measure=>simp [intOf]; omega
       ·have hj2 : j = m := by omega
        subst hj2;have HFIN:=lh (show Zp _ w.heap.size v (Z20 Z2k (a.kids.take (k + 1)) []) from by
         have:=HR.out;rw [Ym (by rw [← HM.out]; exact Y5 _)] at this;rw [HFI.out]; exact this)
        go_wp2;go_roundw
        case rel=>exact ⟨k + 1,_,rfl,by omega,by go_num,HFIN,HB⟩
        case measure=>simp [intOf]; omega
   ·have n2 : (kd == 2) = false := by simpa using h2
    obtain ⟨L1,hL1⟩:=zX L
    have HL1:=lh (show ownV x L=L1 from by rw [hL1]; unfold ownV; rw [← HKD.out,n2]; rfl);have HL1L:=lh (show L1.length≤100001 from by rw [hL1]; omega);rw [← hL1] at HR;have T1:=HR;have BW:=HB;clear hL1 h2;have HTX1:=lh (HTX.out.bel (Y8 _ _));have HI:=lh (Z6c wr _ x HTX1.out);have HSW:=lh (BW.out.size);unfold ATree.ptr at HI;cases hin:Z2q x with
    | true =>
      rw [hin] at HI;have HFI:=lh (show Z20 Z2k (a.kids.take (k + 1)) []=L1 from by rw [HNX.out,Z8b,hin]; simp only [cond_true]; exact HL1.out);clear hin;go_wp2_with fail
      refine HI.out.mono ?_;rintro e w2 ⟨rfl,hw2⟩;have hw3:=hw2.symm;subst hw3;go_wp2;go_roundw
      case rel=>exact ⟨k + 1,_,rfl,by omega,by go_num,lh (by rw [HFI.out]; exact T1.out),BW⟩
      case measure=>simp [intOf]; omega
    | false =>
      rw [hin] at HI;have HFI:=lh (show Z20 Z2k (a.kids.take (k + 1)) []=Z2i L1 (Z4g x) from by rw [HNX.out,Z8b,hin]; simp only [cond_false]; rw [HL1.out]);have HC:=lh (HIH.out x (by have:=HNN.out; have:=HXM.out; omega) (by have:=HMX.out; have:=HXM.out; omega) wr _ HTX1.out);unfold ATree.ptr at HC;clear hin;go_wp2_with fail
      refine HI.out.mono ?_;rintro e w2 ⟨rfl,hw2⟩;have hw3:=hw2.symm;subst hw3;go_wp2_with fail
      refine HC.out.mono ?_;rintro e w3 ⟨vm,rfl,htm,hb3⟩;obtain ⟨M,hM⟩:=zX (Z4g x)
      have hml:M.length≤100000:=by rw [hM]; have:=Z6z x; have:=HXM.out; have:=HMX.out; omega
      rw [← hM] at htm HFI;obtain ⟨q,cq,rfl,hqe,hqm⟩:∃ p cp,vm=.slice p M.length cp∧M.length≤cp∧cp≤maxLen:=by
       rcases htm.form with ⟨h1,h2⟩ | ⟨g,cap,h1,h2,h3⟩;·exact ⟨none,0,by rw [h1,h2]; rfl,by rw [h2]; exact Y5 _,by unfold maxLen; omega⟩
       ·exact ⟨_,_,h1,h2,h3⟩
      unfold maxLen at hqm;obtain ⟨m,hm⟩:=zX M.length
      have T3:=lh (T1.out.bel hb3);have B3:=lh (BW.out.trans (hb3.mono BW.out.size));rw [← hm] at htm hqe hml ⊢;have HM:=lh hm;have HTM:=lh htm;clear hM hm htm hb3 HC HI HR HB;go_wp2_with fail
      go_loopw [3,36] (fun v i wr'=>∃ (j:Nat) (v':Value),v'=v∧j≤m∧i=.int .i64 j∧Hid (Zp wr' w.heap.size v' (Z2i L1 (M.take j)))∧Hid (Zp wr' wr.heap.size (.slice q m cq) M)∧Hid (Below w.heap.size w wr')) (fun _ i _=>m - (intOf i).toNat)
      case atStart=>exact ⟨0,_,rfl,Yp _,rfl,T3,HTM,B3⟩
      case round=>
       obtain ⟨j,v,rfl,hj,rfl,HR,HM2,HB⟩:=hrel;clear T3 HTM B3;by_cases hjm:j < m
       ·obtain ⟨y, hy⟩ : ∃ y, M[j]? = some y := ⟨_, Yd (by rw [← HM.out]; exact hjm)⟩
        obtain ⟨g1,hq⟩:∃ g,q=some ⟨g,0,none⟩:=by
         rcases HM2.out.form with ⟨_,h2⟩ | ⟨g,cap,h1,_⟩;·rw [h2] at hy; simp at hy
         ·simp only [Value.slice.injEq] at h1; exact ⟨g,h1.1⟩
        subst hq;have cy:=HM2.out.cells rfl hy;have HST:=lh (Z8d (l:=L1) hy);have hlm:(Z2i L1 (M.take j)).length≤300000:=by
         have h1:=Za4 L1 (M.take j);have h2:(M.take j).length≤M.length:=by rw [List.length_take]; omega
         have h3:=HM.out;have h4:=HL1L.out;omega
        have HA:=lh (Z4l _ w.heap.size v _ y HR.out HB.out.size (by omega));clear hy hlm;go_wp2_with fail
        refine HA.out.mono ?_;rintro e w4 ⟨v4,rfl,ht4,hb4⟩;have T4:=lh ht4;have M4:=lh (HM2.out.bel hb4);have B4:=lh (HB.out.trans (hb4.mono HB.out.size));clear ht4 hb4 HA;go_wp2;go_roundw
        case rel=>exact ⟨j + 1,_,rfl,by omega,by go_num,lh (by rw [HST.out]; exact T4.out),M4,B4⟩
        case measure=>simp [intOf]; omega
       ·have hj2 : j = m := by omega
        subst hj2;have HFIN:=lh (show Zp _ w.heap.size v (Z20 Z2k (a.kids.take (k + 1)) []) from by
         have:=HR.out;rw [Ym (by rw [← HM.out]; exact Y5 _)] at this;rw [HFI.out]; exact this)
        go_wp2;go_roundw
        case rel=>exact ⟨k + 1,_,rfl,by omega,by go_num,HFIN,HB⟩
        case measure=>simp [intOf]; omega
  ·have hk2 : k = n := by omega
   subst hk2;go_wp2;go_ret;refine ⟨_,rfl,?_,HB.out⟩;have:=HR.out;rwa [Ym (by rw [← HN.out]; exact Y5 _)] at this
def Z3v (cs:List Int) (x:ATree):List ATree:=(cs.filter fun c=>x.kind == c).map fun _=>x
def Z4b (cs:List Int) (ks:List ATree):List ATree:=ks.flatMap (Z3v cs)
theorem Zdf {cs:List Int} {ks:List ATree} {k:Nat} {x:ATree} (h:ks[k]?=some x):Z4b cs (ks.take (k + 1))=Z4b cs (ks.take k) ++ Z3v cs x:=by
 rw [Z0v h];simp [Z4b]
theorem Zc4 {cs:List Int} {j:Nat} {c:Int} {x:ATree} (h:cs[j]?=some c):Z3v (cs.take (j + 1)) x=Z3v (cs.take j) x ++ (if x.kind == c then [x] else []):=by
 have e:cs.take (j + 1)=cs.take j ++ [c]:=by rw [List.take_add_one,h]; rfl
 rw [e];unfold Z3v;rw [List.filter_append,Yu];by_cases hc:(x.kind == c)=true;·rw [Yb hc]; simp [hc]
 ·rw [Y9 hc]; simp [hc]
theorem Z8r (cs:List Int) (x:ATree):(Z3v cs x).length≤cs.length:=by
 unfold Z3v;rw [Yv];exact List.length_filter_le _ _
theorem Zeu (cs:List Int) (ks:List ATree):(Z4b cs ks).length≤cs.length * ks.length:=by
 induction ks with
 | nil=>simp [Z4b]
 | cons x ks ih =>
   have h1:=Z8r cs x;simp only [Z4b,List.flatMap_cons,List.length_append,List.length_cons] at ih ⊢;rw [Nat.mul_succ];omega
theorem Zes (ks:List ATree):Z4b [5] ks=ks.filter Z1n:=by
 induction ks with
 | nil=>rfl
 | cons x ks ih =>
   simp only [Z4b,List.flatMap_cons] at ih ⊢;rw [ih];unfold Z3v Z1n;by_cases h:(x.kind == 5)=true;·simp [h]
   ·simp [h]
theorem Zgl (ks:List ATree):Z4b [3,4] ks=ks.filter Z31:=by
 induction ks with
 | nil=>rfl
 | cons x ks ih =>
   simp only [Z4b,List.flatMap_cons] at ih ⊢;rw [ih];unfold Z3v Z31;by_cases h:(x.kind == 3)=true
   ·have h4:(x.kind == 4)=false:=by
     have:x.kind=3:=by simpa using h
     rw [this]; rfl
    simp [h,h4]
   ·by_cases h4 : (x.kind == 4) = true;·simp [h, h4]
    ·simp [h,h4]
theorem Z0x.snoc {w:World} {B g cap:Nat} {l:List ATree} {x:ATree} (h:w.ownsRow B 22 1 (.slice (some ⟨g,0,none⟩) (l.length + 1) cap) (l.length + 1) (l.map ATree.ptr ++ [x.ptr])):Z0x w B (.slice (some ⟨g,0,none⟩) (l.length + 1) cap) (l ++ [x]):=by
 unfold Z0x;rw [Yq,Yu];exact h
theorem Z9u (w:World) (B0:Nat) (a:ATree) (hT:TreeAt w B0 a) (hmx:a.many≤100000) (lb:Nat) (cs:List Int) (hlb:lb < w.heap.size) (hcs:∀ i x,cs[i]?=some x→w.cell? ⟨lb,i,none⟩=some (.int .i64 x)) (hc10:cs.length≤10) :
 Calls Tryz.prog 82 #[a.ptr,.slice (some ⟨lb,0,none⟩) cs.length cs.length] w fun e w'=>∃ v,e=.returned v∧Z0x w' w.heap.size v (Z4b cs a.kids)∧Below w.heap.size w w':=by
 obtain ⟨i0,hi,hz0,hz1,hz2⟩:=info_parts Tryz.infoPtr;obtain ⟨p,cp,hv,hge,hgm⟩:=hT.vOf;have c3:=hT.c3;rw [hv] at c3;have hkm:=Z22 a;have hlen:a.kids.length≤100000:=by omega
 have HT:=lh hT;have HV:=lh hv;have HCS:=lh hcs;have HLB:=lh hlb;have HSL:=lh (show ∀ k,(Z4b cs (a.kids.take k)).length≤1000000 from fun k=>by
  have h1:=Zeu cs (a.kids.take k);have h2:(a.kids.take k).length≤a.kids.length:=by rw [List.length_take]; omega
  have h3:cs.length * (a.kids.take k).length≤10 * 100000:=Nat.mul_le_mul hc10 (by omega);omega)
 unfold ATree.ptr;obtain ⟨n,hnn⟩:=zX a.kids.length
 rw [← hnn] at c3 hlen hge;have HN:=lh hnn;obtain ⟨m,hm⟩:=zX cs.length
 rw [← hm] at hc10 ⊢;have HM:=lh hm;unfold maxLen at hgm;clear hv hnn hT hkm hmx hm hcs hlb;go_enter Tryz.func82,Tryz.ntmps82
 go_wp2_with fail
 go_loopw [5,17] (fun v i wr=>∃ (k:Nat) (v':Value),v'=v∧k≤n∧i=.int .i64 k∧Hid (Z0x wr w.heap.size v' (Z4b cs (a.kids.take k)))∧Hid (Below w.heap.size w wr)) (fun _ i _=>n - (intOf i).toNat)
 case atStart=>exact ⟨0,_,rfl,Yp _,rfl,lh (Z0x.nil _ _),lh (Y8 _ _)⟩
 case round=>
  obtain ⟨k,v,rfl,hk,rfl,HR,HB⟩:=hrel;by_cases hkn:k < n
  ·obtain ⟨x, hx⟩ : ∃ x, a.kids[k]? = some x := ⟨_, Yd (by rw [← HN.out]; exact hkn)⟩
   have hT2:=HT.out.bel HB.out;have hrow:=hT2.rowOf;rcases Za hrow with ⟨_,h2⟩ | ⟨g0,cap0,hv0,_⟩;·rw [← HN.out] at h2; omega
   have hp:p=some ⟨g0,0,none⟩:=by
    have:=HV.out.symm.trans hv0;simp only [Value.slice.injEq] at this;exact this.1
   subst hp;have cx:=Zl hrow (g:=g0) (by rw [hv0]; rfl) (i:=k) (x:=x.ptr) (by rw [Yo,hx]; rfl);unfold ATree.ptr at cx;have hTx:=(HT.out).kid (Yl hx);have HTX:=lh hTx;have HNX:=lh (Zdf (cs:=cs) hx);obtain ⟨L,hL⟩:=zX (Z4b cs (a.kids.take k))
   have hl1:L.length≤1000000:=by rw [hL]; exact HSL.out k
   rw [← hL] at HR HNX;clear hT2 hrow hv0 hTx hx hL;go_wp2_with fail
   go_loopw [5,23] (fun v i wr'=>∃ (j:Nat) (v':Value),v'=v∧j≤m∧i=.int .i64 j∧Hid (Z0x wr' w.heap.size v' (L ++ Z3v (cs.take j) x))∧Hid (Below w.heap.size w wr')) (fun _ i _=>m - (intOf i).toNat)
   case atStart=>exact ⟨0,_,rfl,Yp _,rfl,lh (by have:=HR.out; simpa [Z3v] using this),HB⟩
   case round=>
    obtain ⟨j,v,rfl,hj,rfl,HR2,HB2⟩:=hrel;by_cases hjm:j < m
    ·obtain ⟨c, hc⟩ : ∃ c, cs[j]? = some c := ⟨_, Yd (by rw [← HM.out]; exact hjm)⟩
     have cc:=(HB2.out.cell (p:=⟨lb,j,none⟩) HLB.out).trans (HCS.out j c hc);have x0:=(HTX.out.bel HB2.out).c0;have HST:=lh (Zc4 (x:=x) hc);obtain ⟨L2,hL2⟩:=zX (L ++ Z3v (cs.take j) x)
     have hl2:L2.length≤1000010:=by
      rw [hL2,Yq];have h1:=Z8r (cs.take j) x;have h2:(cs.take j).length≤cs.length:=by rw [List.length_take]; omega
      have h3:=HM.out;omega
     rw [← hL2] at HR2;have HL2:=lh hL2;obtain ⟨kd,hkd⟩:=zX x.kind
     rw [← hkd] at x0 HST;clear hc hL2 hkd;by_cases hkc:kd=c
     ·subst hkc;have hbb : (kd == kd) = true := beq_self_eq_true _;have HB3 := HB2.out.size
      go_wp2_with (at_builtin; go_must (refine wpList_append_lies _ rfl (.tmp 33) (.tmp 35) 44 rfl w.heap.size 22 i0 _ 1 8 Tryz.underlying44 hi hz0 hz1 hz2 rfl (by decide) v L2.length (L2.map ATree.ptr) rfl (HR2.out.alloc _) ⟨_,0,none⟩ 1 1 [x.ptr] rfl rfl (Yi (cs:=#[x.ptr]) (t:=22) (fr:=(0,0)) (heap_alloc_new _ _)) (by simp [ATree.ptr,Value.oneCell']) (by omega) (by unfold maxLen; omega) (by omega) (by simp; omega) _ rfl ?_); intro gg cap w4 hown4 hgrow4 hat4 hgl4; have HG:=lh hgrow4; have HW:=lh hown4; clear hgrow4 hown4 hat4 hgl4)
      go_roundw
      case rel=>exact ⟨j + 1,_,rfl,by omega,by go_num,lh (by rw [HST.out,Yb (beq_self_eq_true _),← List.append_assoc,← HL2.out]; exact Z0x.snoc HW.out),lh ((HB2.out.alloc HB2.out.size _).grown HG.out (by simp; omega) fun i hi2=>(Yh HR2.out i hi2).1)⟩
      case measure=>simp [intOf]; omega
     ·have hbb : (kd == c) = false := by simpa using hkc
      clear hkc;go_wp2;go_roundw
      case rel=>exact ⟨j + 1,_,rfl,by omega,by go_num,lh (by rw [HST.out,hbb,← List.append_assoc,← HL2.out]; simpa using HR2.out),HB2⟩
      case measure=>simp [intOf]; omega
    ·have hj2 : j = m := by omega
     subst hj2;have HFIN:=lh (show Z0x _ w.heap.size v (Z4b cs (a.kids.take (k + 1))) from by
      have:=HR2.out;rw [Ym (by rw [← HM.out]; exact Y5 _)] at this;rw [HNX.out]; exact this)
     go_wp2;go_roundw
     case rel=>exact ⟨k + 1,_,rfl,by omega,by go_num,HFIN,HB2⟩
     case measure=>simp [intOf]; omega
  ·have hk2 : k = n := by omega
   subst hk2;go_wp2;go_ret;refine ⟨_,rfl,?_,HB.out⟩;have:=HR.out;rwa [Ym (by rw [← HN.out]; exact Y5 _)] at this
theorem Za2 (w:World) (B0:Nat) (a:ATree) (hT:TreeAt w B0 a) (hmx:a.many≤100000) :
 Calls Tryz.prog 37 #[a.ptr] w fun e w'=>∃ v,e=.returned v∧Z0x w' w.heap.size v (a.kids.filter Z1n)∧Below w.heap.size w w':=by
 have hal:Below w.heap.size w (w.alloc (.cells #[.int .i64 5] 3)):=(Y8 _ _).alloc (Y5 _) _;have HC:=Z9u (w.alloc (.cells #[.int .i64 5] 3)) B0 a (hT.bel hal) hmx w.heap.size [5] (by simp) (fun i x hx=>by
  cases i with
  | zero=>simp at hx; subst hx; simp
  | succ i=>simp at hx) (by simp)
 rw [Zes] at HC;have HC:=lh HC;have HAL:=lh hal;unfold ATree.ptr at HC ⊢;clear hal hT hmx;go_enter Tryz.func37,Tryz.ntmps37
 go_wp2_with fail
 refine HC.out.mono ?_;rintro e w1 ⟨v,rfl,hn,hb⟩;have HNN:=lh hn;have HBB:=lh (HAL.out.trans (hb.mono HAL.out.size));clear hn hb HC;go_wp2;go_ret;exact ⟨_,rfl,Z1u HAL.out.size HNN.out,HBB.out⟩
theorem Zbr (w:World) (B0:Nat) (a:ATree) (hT:TreeAt w B0 a) (hmx:a.many≤100000) :
 Calls Tryz.prog 38 #[a.ptr] w fun e w'=>∃ v,e=.returned v∧Z0x w' w.heap.size v (a.kids.filter Z31)∧Below w.heap.size w w':=by
 have hal:Below w.heap.size w (w.alloc (.cells #[.int .i64 3,.int .i64 4] 3)):=(Y8 _ _).alloc (Y5 _) _;have HC:=Z9u (w.alloc (.cells #[.int .i64 3,.int .i64 4] 3)) B0 a (hT.bel hal) hmx w.heap.size [3,4] (by simp) (fun i x hx=>by
  cases i with
  | zero=>simp at hx; subst hx; simp
  | succ i =>
    cases i with
    | zero=>simp at hx; subst hx; simp
    | succ i=>simp at hx) (by simp)
 rw [Zgl] at HC;have HC:=lh HC;have HAL:=lh hal;unfold ATree.ptr at HC ⊢;clear hal hT hmx;go_enter Tryz.func38,Tryz.ntmps38
 go_wp2_with fail
 refine HC.out.mono ?_;rintro e w1 ⟨v,rfl,hn,hb⟩;have HNN:=lh hn;have HBB:=lh (HAL.out.trans (hb.mono HAL.out.size));clear hn hb HC;go_wp2;go_ret;exact ⟨_,rfl,Z1u HAL.out.size HNN.out,HBB.out⟩
theorem Z6t (l:List ByteArray) (P Q:List ATree):Z0o l (P ++ Q)=Z0o (Z0o l P) Q:=by simp [Z0o,List.foldl_append]
theorem Z55 {l:List ByteArray} {R:List ATree} {k:Nat} {x:ATree} (h:R[k]?=some x):Z0o l (R.take (k + 1))=addL (Z0o l (R.take k)) x.text:=by rw [Z0v h,Z56]
theorem Z8q (w:World) (B0:Nat) (a:ATree) (hT:TreeAt w B0 a) (hmx:a.many≤100000) :
 Calls Tryz.prog 15 #[a.ptr,.bool true] w fun e w'=>∃ v,e=.returned v∧Zp w' w.heap.size v (Z1k true a)∧Below w.heap.size w w':=by
 obtain ⟨i0,hi,hz0,hz1,hz2⟩:=info_parts Tryz.infoPtr;have hkm:=Z22 a;have HT:=lh hT;have HF:=lh (fun (w1:World) (hb:Below w.heap.size w w1)=>Za2 w1 B0 a (hT.bel hb) hmx);have HL:=lh (fun (w1:World) (hb:Below w.heap.size w w1)=>Zbr w1 B0 a (hT.bel hb) hmx);have hfu:(a.kids.filter Z1n).length≤a.kids.length:=List.length_filter_le _ _;have hle:(a.kids.filter Z31).length≤a.kids.length:=List.length_filter_le _ _;have HPK:=lh (show ∀ x,x∈a.kids.filter Z1n→x∈a.kids from fun x hx=>(List.mem_filter.1 hx).1)
 have HQK:=lh (show ∀ x,x∈a.kids.filter Z31→x∈a.kids from fun x hx=>(List.mem_filter.1 hx).1);unfold Z1k;obtain ⟨P,hP⟩:=zX (a.kids.filter Z1n)
 obtain ⟨Q,hQ⟩:=zX (a.kids.filter Z31)
 rw [← hP] at hfu HPK HF ⊢;rw [← hQ] at hle HQK HL ⊢;have HPL:=lh (show P.length≤100000 by omega);have HQL:=lh (show Q.length≤100000 by omega);have HV:=lh (Zgy _ a (Y5 _) hmx w B0 hT);have hvl:=Z6z a;simp only [if_true];obtain ⟨l0,hl0⟩:=zX (Z4g a)
 rw [← hl0] at HV hvl ⊢;have HL0:=lh (show l0.length≤100000 by omega);unfold ATree.ptr at HF HL HV ⊢;clear hkm hT hfu hle hP hQ hvl hl0 hmx;go_enter Tryz.func15,Tryz.ntmps15
 go_wp2_with fail
 refine HV.out.mono ?_;rintro e w1 ⟨v0,rfl,ht1,hb1⟩;have TX1:=lh ht1;have TX1L:=TX1;have B1:=lh hb1;clear ht1 hb1 HV;go_wp2_with fail
 refine (HF.out w1 B1.out).mono ?_;rintro e w2 ⟨v2,rfl,hn2,hb2⟩;have N2:=lh hn2;have TX2:=lh (TX1.out.bel hb2);have B2:=lh (B1.out.trans (hb2.mono B1.out.size));clear hn2 hb2 HF TX1;go_wp2_with fail
 refine (HL.out w2 B2.out).mono ?_;rintro e w3 ⟨v3,rfl,hn3,hb3⟩;have NP:=lh (show Z0x w3 w.heap.size v2 P from Z1u B1.out.size (N2.out.bel hb3));have NQ:=lh (show Z0x w3 w.heap.size v3 Q from Z1u B2.out.size hn3);have hfar:∀ g,v3.ownBlock=some g→w2.heap.size≤g:=fun g h=>(Yh hn3 g h).1;have hpl:∀ g,v2.ownBlock=some g→g < w2.heap.size:=fun g h=>(Yh N2.out g h).2;have TX:=lh (TX2.out.bel hb3);have B3:=lh (B2.out.trans (hb3.mono B2.out.size));have hpl0:∀ g,v0.ownBlock=some g→v2.ownBlock≠some g:=fun g h e=>by
  have h1:=(Yh TX1L.out g h).2;have h2:=(Yh N2.out g e).1;omega
 have HP0:=lh hpl0;clear hn3 hb3 HL N2 TX2 TX1L;by_cases hq:Q=[]
 ·obtain ⟨p3,c3,rfl⟩:∃ p c,v3=.slice p 0 c:=by
   rcases NQ.out.form with ⟨h1,_⟩ | ⟨g,cap,h1,_⟩;·exact ⟨none,0,h1⟩
   ·exact ⟨some ⟨g,0,none⟩,cap,by rw [h1,hq]; rfl⟩
  obtain ⟨R,hR⟩:=zX P
  have HR:=lh (show R=P ++ Q by rw [hR,hq,List.append_nil]);have NR:=NP;rw [← hR] at NR;have BW:=B3;obtain ⟨q,cq,rfl,hqe,hqm⟩:∃ p cp,v2=.slice p R.length cp∧R.length≤cp∧cp≤maxLen:=by
   rcases NR.out.form with ⟨h1,h2⟩ | ⟨g,cap,h1,h2,h3⟩;·exact ⟨none,0,by rw [h1,h2]; rfl,by rw [h2]; exact Y5 _,by unfold maxLen; omega⟩
   ·exact ⟨_,_,h1,h2,h3⟩
  unfold maxLen at hqm;have HRK:=lh (show ∀ x∈R,x∈a.kids from fun x hx=>HPK.out x (by rw [← hR]; exact hx));have hml:R.length≤100000:=by rw [hR]; exact HPL.out
  have NRO:=NR.out;unfold Z0x at NRO;obtain ⟨m,hm⟩:=zX R.length
  rw [← hm] at hqe hml NR NRO ⊢;have HM:=lh hm;have NRO:=lh NRO;clear hm hR hq NP hfar hpl hpl0 NQ;go_wp2_with (at_builtin; go_must (refine Z39 rfl (.tmp 12) (.tmp 14) 44 rfl w.heap.size 22 i0 1 Tryz.underlying44 hi (.slice q m cq) m (R.map ATree.ptr) rfl NRO.out p3 c3 rfl ?_))
  go_loopw [5,17] (fun v i wr=>∃ (k:Nat) (v':Value),v'=v∧k≤m∧i=.int .i64 k∧Hid (Zp wr w.heap.size v' (Z0o l0 (R.take k)))∧Hid (Z0x wr w.heap.size (.slice q m cq) R)∧Hid (Below w.heap.size w wr)) (fun _ i _=>m - (intOf i).toNat)
  case atStart=>exact ⟨0,_,rfl,Yp _,rfl,lh (by simpa [Z0o] using TX.out),NR,BW⟩
  case round=>
   obtain ⟨k,v,rfl,hk,rfl,TX2,NO,HB⟩:=hrel;clear TX NR BW;by_cases hkn:k < m
   ·obtain ⟨x, hx⟩ : ∃ x, R[k]? = some x := ⟨_, Yd (by rw [← HM.out]; exact hkn)⟩
    obtain ⟨g0,hp⟩:∃ g,q=some ⟨g,0,none⟩:=by
     rcases NO.out.form with ⟨_,h2⟩ | ⟨g,cap,h1,_⟩;·rw [h2] at hx; simp at hx
     ·simp only [Value.slice.injEq] at h1; exact ⟨g,h1.1⟩
    subst hp;have cx:=NO.out.cell rfl hx;have x1:=((HT.out.bel HB.out).kid (HRK.out x (Yl hx))).c1;have HST:=lh (Z55 (l:=l0) hx);have hlm:(Z0o l0 (R.take k)).length≤300000:=by
     have h1:=Z1m l0 (R.take k);have h2:(R.take k).length≤R.length:=by rw [List.length_take]; omega
     have h3:=HM.out;have h4:=HL0.out;omega
    obtain ⟨tx,htx⟩:=zX x.text
    rw [← htx] at x1 HST;have HA:=lh (Z4l _ w.heap.size v _ tx TX2.out HB.out.size (by omega));clear hx hlm htx;go_wp2_with fail
    refine HA.out.mono ?_;rintro e w4 ⟨v4,rfl,ht4,hb4⟩;have T4:=lh ht4;have M4:=lh (NO.out.bel hb4);have B4:=lh (HB.out.trans (hb4.mono HB.out.size));clear ht4 hb4 HA;go_wp2;go_roundw
    case rel=>exact ⟨k + 1,_,rfl,by omega,by go_num,lh (by rw [HST.out]; exact T4.out),M4,B4⟩
    case measure=>simp [intOf]; omega
   ·have hk2 : k = m := by omega
    subst hk2;go_wp2;go_ret;refine ⟨_,rfl,?_,HB.out⟩;have:=TX2.out;rw [Ym (by rw [← HM.out]; exact Y5 _),HR.out,Z6t] at this;exact this
 ·rcases NQ.out.form with ⟨_, h2⟩ | ⟨g, cap3, rfl, hle3, hm3⟩;·exact absurd h2 hq
  have hpos:0 < Q.length:=List.length_pos_iff.2 hq;have NEWS:=lh (show ∀ (j:Nat) (u:Value),(Q.map ATree.ptr)[j]?=some u→w3.cell? ((⟨g,0,none⟩:Addr).add j)=some u from fun j u hu=>by
   have hadd:(⟨g,0,none⟩:Addr).add j=⟨g,j,none⟩:=by unfold Addr.add; split <;> simp_all
   rw [hadd];exact Zl NQ.out (g:=g) rfl hu)
  have hml:P.length + Q.length≤100000 + 100000:=by have:=HPL.out; have:=HQL.out; omega
  have hbs:=B3.out.size;obtain ⟨mq,hmq⟩:=zX Q.length
  rw [← hmq] at hpos hml hle3 ⊢;have HMQ:=lh hmq;clear hmq hq hfar hpl hpl0
  go_wp2_with (at_builtin; go_must (refine wpList_append_lies _ rfl (.tmp 12) (.tmp 14) 44 rfl w.heap.size 22 i0 _ 1 8 Tryz.underlying44 hi hz0 hz1 hz2 rfl (by decide) v2 P.length (P.map ATree.ptr) rfl NP.out ⟨g,0,none⟩ mq cap3 (Q.map ATree.ptr) rfl (by simp [HMQ.out]) NEWS.out (fun u hu=>by obtain ⟨z,_,rfl⟩:=List.mem_map.1 hu; rfl) (by omega) (by unfold maxLen; omega) (by omega) (by omega) w3.heap.size rfl ?_); intro gg cq w4 hown4 hgrow4 hat4 hgl4; have HG:=lh hgrow4; have HW:=lh hown4; have HGL:=lh hgl4; clear hgrow4 hown4 hat4 hgl4)
  obtain ⟨R,hR⟩:=zX (P ++ Q)
  have HR:=lh hR;have hRl:R.length=P.length + mq:=by rw [hR,Yq,HMQ.out]
  obtain ⟨m,hm⟩:=zX (P.length + mq)
  have hml2:m≤200000:=by omega
  have HM:=lh (show m=R.length by omega);have NR:=lh (show Z0x w4 w.heap.size (.slice (some ⟨gg,0,none⟩) m cq) R from by
   have h1:=HW.out;unfold Z0x;rw [hRl,hR,Yu,← hm];rw [← hm] at h1;exact h1)
  have hqe:m≤cq∧cq≤maxLen:=by
   rcases NR.out.form with ⟨h1,_⟩ | ⟨g,cap,h1,h2,h3⟩;·cases h1
   ·simp only [Value.slice.injEq] at h1;rw [h1.2.2,HM.out]; exact ⟨h2,h3⟩
  obtain ⟨hqe,hqm⟩:=hqe;unfold maxLen at hqm;have BW:=lh (B3.out.grown HG.out B3.out.size fun k hk=>(Yh NP.out k hk).1);have TX:=lh (show Zp w4 w.heap.size v0 l0 from Zh TX.out fun k hk=>HG.out.block k (Yh TX.out k hk).2 (fun e=>HP0.out k hk e.symm));have HRK:=lh (show ∀ x∈R,x∈a.kids from fun x hx=>by
   rw [hR] at hx;rcases List.mem_append.1 hx with h | h;·exact HPK.out x h
   ·exact HQK.out x h)
  rw [← hm];have hmi:((P.length:Int) + (mq:Int))=(m:Int):=by omega
  rw [hmi];obtain ⟨q,hq⟩:∃ q:Option Addr,q=some ⟨gg,0,none⟩:=⟨_,rfl⟩
  rw [← hq] at NR ⊢;clear hm hR hRl NP NQ HW HG hq hml NEWS hmi;go_loopw [5,17] (fun v i wr=>∃ (k:Nat) (v':Value),v'=v∧k≤m∧i=.int .i64 k∧Hid (Zp wr w.heap.size v' (Z0o l0 (R.take k)))∧Hid (Z0x wr w.heap.size (.slice q m cq) R)∧Hid (Below w.heap.size w wr)) (fun _ i _=>m - (intOf i).toNat)
  case atStart=>exact ⟨0,_,rfl,Yp _,rfl,lh (by simpa [Z0o] using TX.out),NR,BW⟩
  case round=>
   obtain ⟨k,v,rfl,hk,rfl,TX2,NO,HB⟩:=hrel;clear TX NR BW;by_cases hkn:k < m
   ·obtain ⟨x, hx⟩ : ∃ x, R[k]? = some x := ⟨_, Yd (by rw [← HM.out]; exact hkn)⟩
    obtain ⟨g0,hp⟩:∃ g,q=some ⟨g,0,none⟩:=by
     rcases NO.out.form with ⟨_,h2⟩ | ⟨g,cap,h1,_⟩;·rw [h2] at hx; simp at hx
     ·simp only [Value.slice.injEq] at h1; exact ⟨g,h1.1⟩
    subst hp;have cx:=NO.out.cell rfl hx;have x1:=((HT.out.bel HB.out).kid (HRK.out x (Yl hx))).c1;have HST:=lh (Z55 (l:=l0) hx);have hlm:(Z0o l0 (R.take k)).length≤300000:=by
     have h1:=Z1m l0 (R.take k);have h2:(R.take k).length≤R.length:=by rw [List.length_take]; omega
     have h3:=HM.out;have h4:=HL0.out;omega
    obtain ⟨tx,htx⟩:=zX x.text
    rw [← htx] at x1 HST;have HA:=lh (Z4l _ w.heap.size v _ tx TX2.out HB.out.size (by omega));clear hx hlm htx;go_wp2_with fail
    refine HA.out.mono ?_;rintro e w4 ⟨v4,rfl,ht4,hb4⟩;have T4:=lh ht4;have M4:=lh (NO.out.bel hb4);have B4:=lh (HB.out.trans (hb4.mono HB.out.size));clear ht4 hb4 HA;go_wp2;go_roundw
    case rel=>exact ⟨k + 1,_,rfl,by omega,by go_num,lh (by rw [HST.out]; exact T4.out),M4,B4⟩
    case measure=>simp [intOf]; omega
   ·have hk2 : k = m := by omega
    subst hk2;go_wp2;go_ret;refine ⟨_,rfl,?_,HB.out⟩;have:=TX2.out;rw [Ym (by rw [← HM.out]; exact Y5 _),HR.out,Z6t] at this;exact this
theorem Zc2 (w:World) (B0:Nat) (a:ATree) (hT:TreeAt w B0 a) (hmx:a.many≤100000) :
 Calls Tryz.prog 15 #[a.ptr,.bool false] w fun e w'=>∃ v,e=.returned v∧Zp w' w.heap.size v (Z1k false a)∧Below w.heap.size w w':=by
 obtain ⟨i0,hi,hz0,hz1,hz2⟩:=info_parts Tryz.infoPtr;have hkm:=Z22 a;have HT:=lh hT;have HF:=lh (fun (w1:World) (hb:Below w.heap.size w w1)=>Za2 w1 B0 a (hT.bel hb) hmx);have HL:=lh (fun (w1:World) (hb:Below w.heap.size w w1)=>Zbr w1 B0 a (hT.bel hb) hmx);have hfu:(a.kids.filter Z1n).length≤a.kids.length:=List.length_filter_le _ _;have hle:(a.kids.filter Z31).length≤a.kids.length:=List.length_filter_le _ _;have HPK:=lh (show ∀ x,x∈a.kids.filter Z1n→x∈a.kids from fun x hx=>(List.mem_filter.1 hx).1)
 have HQK:=lh (show ∀ x,x∈a.kids.filter Z31→x∈a.kids from fun x hx=>(List.mem_filter.1 hx).1);unfold Z1k;obtain ⟨P,hP⟩:=zX (a.kids.filter Z1n)
 obtain ⟨Q,hQ⟩:=zX (a.kids.filter Z31)
 rw [← hP] at hfu HPK HF ⊢;rw [← hQ] at hle HQK HL ⊢;have HPL:=lh (show P.length≤100000 by omega);have HQL:=lh (show Q.length≤100000 by omega);simp only [Bool.false_eq_true,if_false];obtain ⟨l0,hl0⟩:∃ l:List ByteArray,l=[]:=⟨_,rfl⟩
 rw [← hl0];have HL0:=lh (show l0.length≤100000 by rw [hl0]; simp);obtain ⟨v0,hv0⟩:=zX (Value.slice none 0 0)
 obtain ⟨w1,hw1⟩:=zX w
 have TX1:=lh (show Zp w1 w.heap.size v0 l0 from by rw [hv0,hl0]; exact Zp.nil _ _);have TX1L:=TX1;have B1:=lh (show Below w.heap.size w w1 from by rw [hw1]; exact Y8 _ _);have HW1:=lh hw1;have HV0:=lh hv0;unfold ATree.ptr at HF HL ⊢;clear hkm hT hfu hle hP hQ hl0 hmx hw1 hv0;go_enter Tryz.func15,Tryz.ntmps15
 go_wp2_with fail
 have HFW:=HF.out w1 B1.out;rw [HW1.out] at HFW;rw [← HV0.out];refine HFW.mono ?_;rintro e w2 ⟨v2,rfl,hn2,hb2⟩;rw [← HW1.out] at hn2 hb2;have N2:=lh hn2;have TX2:=lh (TX1.out.bel hb2);have B2:=lh (B1.out.trans (hb2.mono B1.out.size));clear hn2 hb2 HF TX1;go_wp2_with fail
 refine (HL.out w2 B2.out).mono ?_;rintro e w3 ⟨v3,rfl,hn3,hb3⟩;have NP:=lh (show Z0x w3 w.heap.size v2 P from Z1u B1.out.size (N2.out.bel hb3));have NQ:=lh (show Z0x w3 w.heap.size v3 Q from Z1u B2.out.size hn3);have hfar:∀ g,v3.ownBlock=some g→w2.heap.size≤g:=fun g h=>(Yh hn3 g h).1;have hpl:∀ g,v2.ownBlock=some g→g < w2.heap.size:=fun g h=>(Yh N2.out g h).2;have TX:=lh (TX2.out.bel hb3);have B3:=lh (B2.out.trans (hb3.mono B2.out.size));have hpl0:∀ g,v0.ownBlock=some g→v2.ownBlock≠some g:=fun g h e=>by
  have h1:=(Yh TX1L.out g h).2;have h2:=(Yh N2.out g e).1;omega
 have HP0:=lh hpl0;clear hn3 hb3 HL N2 TX2 TX1L;by_cases hq:Q=[]
 ·obtain ⟨p3,c3,rfl⟩:∃ p c,v3=.slice p 0 c:=by
   rcases NQ.out.form with ⟨h1,_⟩ | ⟨g,cap,h1,_⟩;·exact ⟨none,0,h1⟩
   ·exact ⟨some ⟨g,0,none⟩,cap,by rw [h1,hq]; rfl⟩
  obtain ⟨R,hR⟩:=zX P
  have HR:=lh (show R=P ++ Q by rw [hR,hq,List.append_nil]);have NR:=NP;rw [← hR] at NR;have BW:=B3;obtain ⟨q,cq,rfl,hqe,hqm⟩:∃ p cp,v2=.slice p R.length cp∧R.length≤cp∧cp≤maxLen:=by
   rcases NR.out.form with ⟨h1,h2⟩ | ⟨g,cap,h1,h2,h3⟩;·exact ⟨none,0,by rw [h1,h2]; rfl,by rw [h2]; exact Y5 _,by unfold maxLen; omega⟩
   ·exact ⟨_,_,h1,h2,h3⟩
  unfold maxLen at hqm;have HRK:=lh (show ∀ x∈R,x∈a.kids from fun x hx=>HPK.out x (by rw [← hR]; exact hx));have hml:R.length≤100000:=by rw [hR]; exact HPL.out
  have NRO:=NR.out;unfold Z0x at NRO;obtain ⟨m,hm⟩:=zX R.length
  rw [← hm] at hqe hml NR NRO ⊢;have HM:=lh hm;have NRO:=lh NRO;clear hm hR hq NP hfar hpl hpl0 NQ;go_wp2_with (at_builtin; go_must (refine Z39 rfl (.tmp 12) (.tmp 14) 44 rfl w.heap.size 22 i0 1 Tryz.underlying44 hi (.slice q m cq) m (R.map ATree.ptr) rfl NRO.out p3 c3 rfl ?_))
  go_loopw [5,17] (fun v i wr=>∃ (k:Nat) (v':Value),v'=v∧k≤m∧i=.int .i64 k∧Hid (Zp wr w.heap.size v' (Z0o l0 (R.take k)))∧Hid (Z0x wr w.heap.size (.slice q m cq) R)∧Hid (Below w.heap.size w wr)) (fun _ i _=>m - (intOf i).toNat)
  case atStart=>exact ⟨0,_,rfl,Yp _,rfl,lh (by simpa [Z0o] using TX.out),NR,BW⟩
  case round=>
   obtain ⟨k,v,rfl,hk,rfl,TX2,NO,HB⟩:=hrel;clear TX NR BW;by_cases hkn:k < m
   ·obtain ⟨x, hx⟩ : ∃ x, R[k]? = some x := ⟨_, Yd (by rw [← HM.out]; exact hkn)⟩
    obtain ⟨g0,hp⟩:∃ g,q=some ⟨g,0,none⟩:=by
     rcases NO.out.form with ⟨_,h2⟩ | ⟨g,cap,h1,_⟩;·rw [h2] at hx; simp at hx
     ·simp only [Value.slice.injEq] at h1; exact ⟨g,h1.1⟩
    subst hp;have cx:=NO.out.cell rfl hx;have x1:=((HT.out.bel HB.out).kid (HRK.out x (Yl hx))).c1;have HST:=lh (Z55 (l:=l0) hx);have hlm:(Z0o l0 (R.take k)).length≤300000:=by
     have h1:=Z1m l0 (R.take k);have h2:(R.take k).length≤R.length:=by rw [List.length_take]; omega
     have h3:=HM.out;have h4:=HL0.out;omega
    obtain ⟨tx,htx⟩:=zX x.text
    rw [← htx] at x1 HST;have HA:=lh (Z4l _ w.heap.size v _ tx TX2.out HB.out.size (by omega));clear hx hlm htx;go_wp2_with fail
    refine HA.out.mono ?_;rintro e w4 ⟨v4,rfl,ht4,hb4⟩;have T4:=lh ht4;have M4:=lh (NO.out.bel hb4);have B4:=lh (HB.out.trans (hb4.mono HB.out.size));clear ht4 hb4 HA;go_wp2;go_roundw
    case rel=>exact ⟨k + 1,_,rfl,by omega,by go_num,lh (by rw [HST.out]; exact T4.out),M4,B4⟩
    case measure=>simp [intOf]; omega
   ·have hk2 : k = m := by omega
    subst hk2;go_wp2;go_ret;refine ⟨_,rfl,?_,HB.out⟩;have:=TX2.out;rw [Ym (by rw [← HM.out]; exact Y5 _),HR.out,Z6t] at this;exact this
 ·rcases NQ.out.form with ⟨_, h2⟩ | ⟨g, cap3, rfl, hle3, hm3⟩;·exact absurd h2 hq
  have hpos:0 < Q.length:=List.length_pos_iff.2 hq;have NEWS:=lh (show ∀ (j:Nat) (u:Value),(Q.map ATree.ptr)[j]?=some u→w3.cell? ((⟨g,0,none⟩:Addr).add j)=some u from fun j u hu=>by
   have hadd:(⟨g,0,none⟩:Addr).add j=⟨g,j,none⟩:=by unfold Addr.add; split <;> simp_all
   rw [hadd];exact Zl NQ.out (g:=g) rfl hu)
  have hml:P.length + Q.length≤100000 + 100000:=by have:=HPL.out; have:=HQL.out; omega
  have hbs:=B3.out.size;obtain ⟨mq,hmq⟩:=zX Q.length
  rw [← hmq] at hpos hml hle3 ⊢;have HMQ:=lh hmq;clear hmq hq hfar hpl hpl0
  go_wp2_with (at_builtin; go_must (refine wpList_append_lies _ rfl (.tmp 12) (.tmp 14) 44 rfl w.heap.size 22 i0 _ 1 8 Tryz.underlying44 hi hz0 hz1 hz2 rfl (by decide) v2 P.length (P.map ATree.ptr) rfl NP.out ⟨g,0,none⟩ mq cap3 (Q.map ATree.ptr) rfl (by simp [HMQ.out]) NEWS.out (fun u hu=>by obtain ⟨z,_,rfl⟩:=List.mem_map.1 hu; rfl) (by omega) (by unfold maxLen; omega) (by omega) (by omega) w3.heap.size rfl ?_); intro gg cq w4 hown4 hgrow4 hat4 hgl4; have HG:=lh hgrow4; have HW:=lh hown4; have HGL:=lh hgl4; clear hgrow4 hown4 hat4 hgl4)
  obtain ⟨R,hR⟩:=zX (P ++ Q)
  have HR:=lh hR;have hRl:R.length=P.length + mq:=by rw [hR,Yq,HMQ.out]
  obtain ⟨m,hm⟩:=zX (P.length + mq)
  have hml2:m≤200000:=by omega
  have HM:=lh (show m=R.length by omega);have NR:=lh (show Z0x w4 w.heap.size (.slice (some ⟨gg,0,none⟩) m cq) R from by
   have h1:=HW.out;unfold Z0x;rw [hRl,hR,Yu,← hm];rw [← hm] at h1;exact h1)
  have hqe:m≤cq∧cq≤maxLen:=by
   rcases NR.out.form with ⟨h1,_⟩ | ⟨g,cap,h1,h2,h3⟩;·cases h1
   ·simp only [Value.slice.injEq] at h1;rw [h1.2.2,HM.out]; exact ⟨h2,h3⟩
  obtain ⟨hqe,hqm⟩:=hqe;unfold maxLen at hqm;have BW:=lh (B3.out.grown HG.out B3.out.size fun k hk=>(Yh NP.out k hk).1);have TX:=lh (show Zp w4 w.heap.size v0 l0 from Zh TX.out fun k hk=>HG.out.block k (Yh TX.out k hk).2 (fun e=>HP0.out k hk e.symm));have HRK:=lh (show ∀ x∈R,x∈a.kids from fun x hx=>by
   rw [hR] at hx;rcases List.mem_append.1 hx with h | h;·exact HPK.out x h
   ·exact HQK.out x h)
  rw [← hm];have hmi:((P.length:Int) + (mq:Int))=(m:Int):=by omega
  rw [hmi];obtain ⟨q,hq⟩:∃ q:Option Addr,q=some ⟨gg,0,none⟩:=⟨_,rfl⟩
  rw [← hq] at NR ⊢;clear hm hR hRl NP NQ HW HG hq hml NEWS hmi;go_loopw [5,17] (fun v i wr=>∃ (k:Nat) (v':Value),v'=v∧k≤m∧i=.int .i64 k∧Hid (Zp wr w.heap.size v' (Z0o l0 (R.take k)))∧Hid (Z0x wr w.heap.size (.slice q m cq) R)∧Hid (Below w.heap.size w wr)) (fun _ i _=>m - (intOf i).toNat)
  case atStart=>exact ⟨0,_,rfl,Yp _,rfl,lh (by simpa [Z0o] using TX.out),NR,BW⟩
  case round=>
   obtain ⟨k,v,rfl,hk,rfl,TX2,NO,HB⟩:=hrel;clear TX NR BW;by_cases hkn:k < m
   ·obtain ⟨x, hx⟩ : ∃ x, R[k]? = some x := ⟨_, Yd (by rw [← HM.out]; exact hkn)⟩
    obtain ⟨g0,hp⟩:∃ g,q=some ⟨g,0,none⟩:=by
     rcases NO.out.form with ⟨_,h2⟩ | ⟨g,cap,h1,_⟩;·rw [h2] at hx; simp at hx
     ·simp only [Value.slice.injEq] at h1; exact ⟨g,h1.1⟩
    subst hp;have cx:=NO.out.cell rfl hx;have x1:=((HT.out.bel HB.out).kid (HRK.out x (Yl hx))).c1;have HST:=lh (Z55 (l:=l0) hx);have hlm:(Z0o l0 (R.take k)).length≤300000:=by
     have h1:=Z1m l0 (R.take k);have h2:(R.take k).length≤R.length:=by rw [List.length_take]; omega
     have h3:=HM.out;have h4:=HL0.out;omega
    obtain ⟨tx,htx⟩:=zX x.text
    rw [← htx] at x1 HST;have HA:=lh (Z4l _ w.heap.size v _ tx TX2.out HB.out.size (by omega));clear hx hlm htx;go_wp2_with fail
    refine HA.out.mono ?_;rintro e w4 ⟨v4,rfl,ht4,hb4⟩;have T4:=lh ht4;have M4:=lh (NO.out.bel hb4);have B4:=lh (HB.out.trans (hb4.mono HB.out.size));clear ht4 hb4 HA;go_wp2;go_roundw
    case rel=>exact ⟨k + 1,_,rfl,by omega,by go_num,lh (by rw [HST.out]; exact T4.out),M4,B4⟩
    case measure=>simp [intOf]; omega
   ·have hk2 : k = m := by omega
    subst hk2;go_wp2;go_ret;refine ⟨_,rfl,?_,HB.out⟩;have:=TX2.out;rw [Ym (by rw [← HM.out]; exact Y5 _),HR.out,Z6t] at this;exact this
end Go.Proofs.YtmjfllklcpjddaaGreatDoor
