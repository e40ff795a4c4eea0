/- The document's Names; what is told of no node. -/
import Derived.Test.YtfilfhpfndaniaaGreatDoorJ17
namespace Go.Proofs.YtfilfhpfndaniaaGreatDoor
open Go Go.RowKit
set_option maxRecDepth 100000
set_option maxHeartbeats 20000000
set_option linter.unusedVariables false
theorem Z7l (l:List ByteArray) (P Q:List ATree):Z0l l (P ++ Q)=Z0l (Z0l l P) Q:=by simp [Z0l,List.foldl_append]
theorem Z5p {l:List ByteArray} {R:List ATree} {k:Nat} {x:ATree} (h:R[k]?=some x):Z0l l (R.take (k + 1))=addL (Z0l l (R.take k)) x.text:=by rw [Zk h,Z5x]
theorem Ze2 (w:World) (B0:Nat) (a:ATree) (hT:TreeAt w B0 a) (hmx:a.many≤100000) :
 Calls Tryz.prog 20 #[a.ptr,.bool true] w fun e w'=>∃ v,e=.returned v∧Zr w' w.heap.size v (Z0b true a)∧Below w.heap.size w w':=by
 obtain ⟨i0,hi,hz0,hz1,hz2⟩:=info_parts Tryz.infoPtr;have hkm:=Z4f a;have HT:=lh hT;have HF:=lh (fun (w1:World) (hb:Below w.heap.size w w1)=>Zak w1 B0 a (hT.bel hb) hmx);have HL:=lh (fun (w1:World) (hb:Below w.heap.size w w1)=>Z8z w1 B0 a (hT.bel hb) hmx);have hfu:(a.kids.filter Z20).length≤a.kids.length:=List.length_filter_le _ _;have hle:(a.kids.filter Z2j).length≤a.kids.length:=List.length_filter_le _ _;have HPK:=lh (show ∀ x,x∈a.kids.filter Z20→x∈a.kids from fun x hx=>(List.mem_filter.1 hx).1)
 have HQK:=lh (show ∀ x,x∈a.kids.filter Z2j→x∈a.kids from fun x hx=>(List.mem_filter.1 hx).1);unfold Z0b;obtain ⟨P,hP⟩:=zX (a.kids.filter Z20)
 obtain ⟨Q,hQ⟩:=zX (a.kids.filter Z2j)
 rw [← hP] at hfu HPK HF ⊢;rw [← hQ] at hle HQK HL ⊢;have HPL:=lh (show P.length≤100000 by omega);have HQL:=lh (show Q.length≤100000 by omega);have HV:=lh (Zhu _ a (Y5 _) hmx w B0 hT);have hvl:=Z9t a;simp only [if_true];obtain ⟨l0,hl0⟩:=zX (Z57 a)
 rw [← hl0] at HV hvl ⊢;have HL0:=lh (show l0.length≤100000 by omega);unfold ATree.ptr at HF HL HV ⊢;clear hkm hT hfu hle hP hQ hvl hl0 hmx;go_enter Tryz.func20,Tryz.ntmps20
 go_wp2_with fail
 refine HV.out.mono ?_;rintro e w1 ⟨v0,rfl,ht1,hb1⟩;have TX1:=lh ht1;have TX1L:=TX1;have B1:=lh hb1;clear ht1 hb1 HV;go_wp2_with fail
 refine (HF.out w1 B1.out).mono ?_;rintro e w2 ⟨v2,rfl,hn2,hb2⟩;have N2:=lh hn2;have TX2:=lh (TX1.out.bel hb2);have B2:=lh (B1.out.trans (hb2.mono B1.out.size));clear hn2 hb2 HF TX1;go_wp2_with fail
 refine (HL.out w2 B2.out).mono ?_;rintro e w3 ⟨v3,rfl,hn3,hb3⟩;have NP:=lh (show Z11 w3 w.heap.size v2 P from Z12 B1.out.size (N2.out.bel hb3));have NQ:=lh (show Z11 w3 w.heap.size v3 Q from Z12 B2.out.size hn3);have hfar:∀ g,v3.ownBlock=some g→w2.heap.size≤g:=fun g h=>(Yh hn3 g h).1;have hpl:∀ g,v2.ownBlock=some g→g < w2.heap.size:=fun g h=>(Yh N2.out g h).2;have TX:=lh (TX2.out.bel hb3);have B3:=lh (B2.out.trans (hb3.mono B2.out.size));have hpl0:∀ g,v0.ownBlock=some g→v2.ownBlock≠some g:=fun g h e=>by
  have h1:=(Yh TX1L.out g h).2;have h2:=(Yh N2.out g e).1;omega
 have HP0:=lh hpl0;clear hn3 hb3 HL N2 TX2 TX1L;by_cases hq:Q=[]
 ·obtain ⟨p3,c3,rfl⟩:∃ p c,v3=.slice p 0 c:=by
   rcases NQ.out.form with ⟨h1,_⟩ | ⟨g,cap,h1,_⟩;·exact ⟨none,0,h1⟩
   ·exact ⟨some ⟨g,0,none⟩,cap,by rw [h1,hq]; rfl⟩
  obtain ⟨R,hR⟩:=zX P
  have HR:=lh (show R=P ++ Q by rw [hR,hq,List.append_nil]);have NR:=NP;rw [← hR] at NR;have BW:=B3;obtain ⟨q,cq,rfl,hqe,hqm⟩:∃ p cp,v2=.slice p R.length cp∧R.length≤cp∧cp≤maxLen:=by
   rcases NR.out.form with ⟨h1,h2⟩ | ⟨g,cap,h1,h2,h3⟩;·exact ⟨none,0,by rw [h1,h2]; rfl,by rw [h2]; exact Y5 _,by unfold maxLen; omega⟩
   ·exact ⟨_,_,h1,h2,h3⟩
  unfold maxLen at hqm;have HRK:=lh (show ∀ x∈R,x∈a.kids from fun x hx=>HPK.out x (by rw [← hR]; exact hx));have hml:R.length≤100000:=by rw [hR]; exact HPL.out
  have NRO:=NR.out;unfold Z11 at NRO;obtain ⟨m,hm⟩:=zX R.length
  rw [← hm] at hqe hml NR NRO ⊢;have HM:=lh hm;have NRO:=lh NRO;clear hm hR hq NP hfar hpl hpl0 NQ;go_wp2_with (at_builtin; go_must (refine Z40 rfl (.tmp 12) (.tmp 14) 60 rfl w.heap.size 22 i0 1 Yu hi (.slice q m cq) m (R.map ATree.ptr) rfl NRO.out p3 c3 rfl ?_))
  go_loopw [5,17] (fun v i wr=>∃ (k:Nat) (v':Value),v'=v∧k≤m∧i=.int .i64 k∧Hid (Zr wr w.heap.size v' (Z0l l0 (R.take k)))∧Hid (Z11 wr w.heap.size (.slice q m cq) R)∧Hid (Below w.heap.size w wr)) (fun _ i _=>m - (intOf i).toNat)
  case atStart=>exact ⟨0,_,rfl,Yp _,rfl,lh (by simpa [Z0l] using TX.out),NR,BW⟩
  case round=>
   obtain ⟨k,v,rfl,hk,rfl,TX2,NO,HB⟩:=hrel;clear TX NR BW;by_cases hkn:k < m
   ·obtain ⟨x, hx⟩ : ∃ x, R[k]? = some x := ⟨_, Yd (by rw [← HM.out]; exact hkn)⟩
    obtain ⟨g0,hp⟩:∃ g,q=some ⟨g,0,none⟩:=by
     rcases NO.out.form with ⟨_,h2⟩ | ⟨g,cap,h1,_⟩;·rw [h2] at hx; simp at hx
     ·simp only [Value.slice.injEq] at h1; exact ⟨g,h1.1⟩
    subst hp;have cx:=NO.out.cell rfl hx;have x1:=((HT.out.bel HB.out).kid (HRK.out x (Yl hx))).c1;have HST:=lh (Z5p (l:=l0) hx);have hlm:(Z0l l0 (R.take k)).length≤300000:=by
     have h1:=Z2a l0 (R.take k);have h2:(R.take k).length≤R.length:=by rw [List.length_take]; omega
     have h3:=HM.out;have h4:=HL0.out;omega
    obtain ⟨tx,htx⟩:=zX x.text
    rw [← htx] at x1 HST;have HA:=lh (Z5e _ w.heap.size v _ tx TX2.out HB.out.size (by omega));clear hx hlm htx;go_wp2_with fail
    refine HA.out.mono ?_;rintro e w4 ⟨v4,rfl,ht4,hb4⟩;have T4:=lh ht4;have M4:=lh (NO.out.bel hb4);have B4:=lh (HB.out.trans (hb4.mono HB.out.size));clear ht4 hb4 HA;go_wp2;go_roundw
    case rel=>exact ⟨k + 1,_,rfl,by omega,by go_num,lh (by rw [HST.out]; exact T4.out),M4,B4⟩
    case measure=>simp [intOf]; omega
   ·have hk2 : k = m := by omega
    subst hk2;go_wp2;go_ret;refine ⟨_,rfl,?_,HB.out⟩;have:=TX2.out;rw [Ym (by rw [← HM.out]; exact Y5 _),HR.out,Z7l] at this;exact this
 ·rcases NQ.out.form with ⟨_, h2⟩ | ⟨g, cap3, rfl, hle3, hm3⟩;·exact absurd h2 hq
  have hpos:0 < Q.length:=List.length_pos_iff.2 hq;have NEWS:=lh (show ∀ (j:Nat) (u:Value),(Q.map ATree.ptr)[j]?=some u→w3.cell? ((⟨g,0,none⟩:Addr).add j)=some u from fun j u hu=>by
   have hadd:(⟨g,0,none⟩:Addr).add j=⟨g,j,none⟩:=by unfold Addr.add; split <;> simp_all
   rw [hadd];exact Ze NQ.out (g:=g) rfl hu)
  have hml:P.length + Q.length≤100000 + 100000:=by have:=HPL.out; have:=HQL.out; omega
  have hbs:=B3.out.size;obtain ⟨mq,hmq⟩:=zX Q.length
  rw [← hmq] at hpos hml hle3 ⊢;have HMQ:=lh hmq;clear hmq hq hfar hpl hpl0
  go_wp2_with (at_builtin; go_must (refine wpList_append_lies _ rfl (.tmp 12) (.tmp 14) 60 rfl w.heap.size 22 i0 _ 1 8 Yu hi hz0 hz1 hz2 rfl (by decide) v2 P.length (P.map ATree.ptr) rfl NP.out ⟨g,0,none⟩ mq cap3 (Q.map ATree.ptr) rfl (by simp [HMQ.out]) NEWS.out (fun u hu=>by obtain ⟨z,_,rfl⟩:=List.mem_map.1 hu; rfl) (by omega) (by unfold maxLen; omega) (by omega) (by omega) w3.heap.size rfl ?_); intro gg cq w4 hown4 hgrow4 hat4 hgl4; have HG:=lh hgrow4; have HW:=lh hown4; have HGL:=lh hgl4; clear hgrow4 hown4 hat4 hgl4)
  obtain ⟨R,hR⟩:=zX (P ++ Q)
  have HR:=lh hR;have hRl:R.length=P.length + mq:=by rw [hR,Yq,HMQ.out]
  obtain ⟨m,hm⟩:=zX (P.length + mq)
  have hml2:m≤200000:=by omega
  have HM:=lh (show m=R.length by omega);have NR:=lh (show Z11 w4 w.heap.size (.slice (some ⟨gg,0,none⟩) m cq) R from by
   have h1:=HW.out;unfold Z11;rw [hRl,hR,Yw,← hm];rw [← hm] at h1;exact h1)
  have hqe:m≤cq∧cq≤maxLen:=by
   rcases NR.out.form with ⟨h1,_⟩ | ⟨g,cap,h1,h2,h3⟩;·cases h1
   ·simp only [Value.slice.injEq] at h1;rw [h1.2.2,HM.out]; exact ⟨h2,h3⟩
  obtain ⟨hqe,hqm⟩:=hqe;unfold maxLen at hqm;have BW:=lh (B3.out.grown HG.out B3.out.size fun k hk=>(Yh NP.out k hk).1);have TX:=lh (show Zr w4 w.heap.size v0 l0 from Zb TX.out fun k hk=>HG.out.block k (Yh TX.out k hk).2 (fun e=>HP0.out k hk e.symm));have HRK:=lh (show ∀ x∈R,x∈a.kids from fun x hx=>by
   rw [hR] at hx;rcases List.mem_append.1 hx with h | h;·exact HPK.out x h
   ·exact HQK.out x h)
  rw [← hm];have hmi:((P.length:Int) + (mq:Int))=(m:Int):=by omega
  rw [hmi];obtain ⟨q,hq⟩:∃ q:Option Addr,q=some ⟨gg,0,none⟩:=⟨_,rfl⟩
  rw [← hq] at NR ⊢;clear hm hR hRl NP NQ HW HG hq hml NEWS hmi;go_loopw [5,17] (fun v i wr=>∃ (k:Nat) (v':Value),v'=v∧k≤m∧i=.int .i64 k∧Hid (Zr wr w.heap.size v' (Z0l l0 (R.take k)))∧Hid (Z11 wr w.heap.size (.slice q m cq) R)∧Hid (Below w.heap.size w wr)) (fun _ i _=>m - (intOf i).toNat)
  case atStart=>exact ⟨0,_,rfl,Yp _,rfl,lh (by simpa [Z0l] using TX.out),NR,BW⟩
  case round=>
   obtain ⟨k,v,rfl,hk,rfl,TX2,NO,HB⟩:=hrel;clear TX NR BW;by_cases hkn:k < m
   ·obtain ⟨x, hx⟩ : ∃ x, R[k]? = some x := ⟨_, Yd (by rw [← HM.out]; exact hkn)⟩
    obtain ⟨g0,hp⟩:∃ g,q=some ⟨g,0,none⟩:=by
     rcases NO.out.form with ⟨_,h2⟩ | ⟨g,cap,h1,_⟩;·rw [h2] at hx; simp at hx
     ·simp only [Value.slice.injEq] at h1; exact ⟨g,h1.1⟩
    subst hp;have cx:=NO.out.cell rfl hx;have x1:=((HT.out.bel HB.out).kid (HRK.out x (Yl hx))).c1;have HST:=lh (Z5p (l:=l0) hx);have hlm:(Z0l l0 (R.take k)).length≤300000:=by
     have h1:=Z2a l0 (R.take k);have h2:(R.take k).length≤R.length:=by rw [List.length_take]; omega
     have h3:=HM.out;have h4:=HL0.out;omega
    obtain ⟨tx,htx⟩:=zX x.text
    rw [← htx] at x1 HST;have HA:=lh (Z5e _ w.heap.size v _ tx TX2.out HB.out.size (by omega));clear hx hlm htx;go_wp2_with fail
    refine HA.out.mono ?_;rintro e w4 ⟨v4,rfl,ht4,hb4⟩;have T4:=lh ht4;have M4:=lh (NO.out.bel hb4);have B4:=lh (HB.out.trans (hb4.mono HB.out.size));clear ht4 hb4 HA;go_wp2;go_roundw
    case rel=>exact ⟨k + 1,_,rfl,by omega,by go_num,lh (by rw [HST.out]; exact T4.out),M4,B4⟩
    case measure=>simp [intOf]; omega
   ·have hk2 : k = m := by omega
    subst hk2;go_wp2;go_ret;refine ⟨_,rfl,?_,HB.out⟩;have:=TX2.out;rw [Ym (by rw [← HM.out]; exact Y5 _),HR.out,Z7l] at this;exact this
theorem Zci (w:World) (B0:Nat) (a:ATree) (hT:TreeAt w B0 a) (hmx:a.many≤100000) :
 Calls Tryz.prog 20 #[a.ptr,.bool false] w fun e w'=>∃ v,e=.returned v∧Zr w' w.heap.size v (Z0b false a)∧Below w.heap.size w w':=by
 obtain ⟨i0,hi,hz0,hz1,hz2⟩:=info_parts Tryz.infoPtr;have hkm:=Z4f a;have HT:=lh hT;have HF:=lh (fun (w1:World) (hb:Below w.heap.size w w1)=>Zak w1 B0 a (hT.bel hb) hmx);have HL:=lh (fun (w1:World) (hb:Below w.heap.size w w1)=>Z8z w1 B0 a (hT.bel hb) hmx);have hfu:(a.kids.filter Z20).length≤a.kids.length:=List.length_filter_le _ _;have hle:(a.kids.filter Z2j).length≤a.kids.length:=List.length_filter_le _ _;have HPK:=lh (show ∀ x,x∈a.kids.filter Z20→x∈a.kids from fun x hx=>(List.mem_filter.1 hx).1)
 have HQK:=lh (show ∀ x,x∈a.kids.filter Z2j→x∈a.kids from fun x hx=>(List.mem_filter.1 hx).1);unfold Z0b;obtain ⟨P,hP⟩:=zX (a.kids.filter Z20)
 obtain ⟨Q,hQ⟩:=zX (a.kids.filter Z2j)
 rw [← hP] at hfu HPK HF ⊢;rw [← hQ] at hle HQK HL ⊢;have HPL:=lh (show P.length≤100000 by omega);have HQL:=lh (show Q.length≤100000 by omega);simp only [Bool.false_eq_true,if_false];obtain ⟨l0,hl0⟩:∃ l:List ByteArray,l=[]:=⟨_,rfl⟩
 rw [← hl0];have HL0:=lh (show l0.length≤100000 by rw [hl0]; simp);obtain ⟨v0,hv0⟩:=zX (Value.slice none 0 0)
 obtain ⟨w1,hw1⟩:=zX w
 have TX1:=lh (show Zr w1 w.heap.size v0 l0 from by rw [hv0,hl0]; exact Zr.nil _ _);have TX1L:=TX1;have B1:=lh (show Below w.heap.size w w1 from by rw [hw1]; exact Y8 _ _);have HW1:=lh hw1;have HV0:=lh hv0;unfold ATree.ptr at HF HL ⊢;clear hkm hT hfu hle hP hQ hl0 hmx hw1 hv0;go_enter Tryz.func20,Tryz.ntmps20
 go_wp2_with fail
 have HFW:=HF.out w1 B1.out;rw [HW1.out] at HFW;rw [← HV0.out];refine HFW.mono ?_;rintro e w2 ⟨v2,rfl,hn2,hb2⟩;rw [← HW1.out] at hn2 hb2;have N2:=lh hn2;have TX2:=lh (TX1.out.bel hb2);have B2:=lh (B1.out.trans (hb2.mono B1.out.size));clear hn2 hb2 HF TX1;go_wp2_with fail
 refine (HL.out w2 B2.out).mono ?_;rintro e w3 ⟨v3,rfl,hn3,hb3⟩;have NP:=lh (show Z11 w3 w.heap.size v2 P from Z12 B1.out.size (N2.out.bel hb3));have NQ:=lh (show Z11 w3 w.heap.size v3 Q from Z12 B2.out.size hn3);have hfar:∀ g,v3.ownBlock=some g→w2.heap.size≤g:=fun g h=>(Yh hn3 g h).1;have hpl:∀ g,v2.ownBlock=some g→g < w2.heap.size:=fun g h=>(Yh N2.out g h).2;have TX:=lh (TX2.out.bel hb3);have B3:=lh (B2.out.trans (hb3.mono B2.out.size));have hpl0:∀ g,v0.ownBlock=some g→v2.ownBlock≠some g:=fun g h e=>by
  have h1:=(Yh TX1L.out g h).2;have h2:=(Yh N2.out g e).1;omega
 have HP0:=lh hpl0;clear hn3 hb3 HL N2 TX2 TX1L;by_cases hq:Q=[]
 ·obtain ⟨p3,c3,rfl⟩:∃ p c,v3=.slice p 0 c:=by
   rcases NQ.out.form with ⟨h1,_⟩ | ⟨g,cap,h1,_⟩;·exact ⟨none,0,h1⟩
   ·exact ⟨some ⟨g,0,none⟩,cap,by rw [h1,hq]; rfl⟩
  obtain ⟨R,hR⟩:=zX P
  have HR:=lh (show R=P ++ Q by rw [hR,hq,List.append_nil]);have NR:=NP;rw [← hR] at NR;have BW:=B3;obtain ⟨q,cq,rfl,hqe,hqm⟩:∃ p cp,v2=.slice p R.length cp∧R.length≤cp∧cp≤maxLen:=by
   rcases NR.out.form with ⟨h1,h2⟩ | ⟨g,cap,h1,h2,h3⟩;·exact ⟨none,0,by rw [h1,h2]; rfl,by rw [h2]; exact Y5 _,by unfold maxLen; omega⟩
   ·exact ⟨_,_,h1,h2,h3⟩
  unfold maxLen at hqm;have HRK:=lh (show ∀ x∈R,x∈a.kids from fun x hx=>HPK.out x (by rw [← hR]; exact hx));have hml:R.length≤100000:=by rw [hR]; exact HPL.out
  have NRO:=NR.out;unfold Z11 at NRO;obtain ⟨m,hm⟩:=zX R.length
  rw [← hm] at hqe hml NR NRO ⊢;have HM:=lh hm;have NRO:=lh NRO;clear hm hR hq NP hfar hpl hpl0 NQ;go_wp2_with (at_builtin; go_must (refine Z40 rfl (.tmp 12) (.tmp 14) 60 rfl w.heap.size 22 i0 1 Yu hi (.slice q m cq) m (R.map ATree.ptr) rfl NRO.out p3 c3 rfl ?_))
  go_loopw [5,17] (fun v i wr=>∃ (k:Nat) (v':Value),v'=v∧k≤m∧i=.int .i64 k∧Hid (Zr wr w.heap.size v' (Z0l l0 (R.take k)))∧Hid (Z11 wr w.heap.size (.slice q m cq) R)∧Hid (Below w.heap.size w wr)) (fun _ i _=>m - (intOf i).toNat)
  case atStart=>exact ⟨0,_,rfl,Yp _,rfl,lh (by simpa [Z0l] using TX.out),NR,BW⟩
  case round=>
   obtain ⟨k,v,rfl,hk,rfl,TX2,NO,HB⟩:=hrel;clear TX NR BW;by_cases hkn:k < m
   ·obtain ⟨x, hx⟩ : ∃ x, R[k]? = some x := ⟨_, Yd (by rw [← HM.out]; exact hkn)⟩
    obtain ⟨g0,hp⟩:∃ g,q=some ⟨g,0,none⟩:=by
     rcases NO.out.form with ⟨_,h2⟩ | ⟨g,cap,h1,_⟩;·rw [h2] at hx; simp at hx
     ·simp only [Value.slice.injEq] at h1; exact ⟨g,h1.1⟩
    subst hp;have cx:=NO.out.cell rfl hx;have x1:=((HT.out.bel HB.out).kid (HRK.out x (Yl hx))).c1;have HST:=lh (Z5p (l:=l0) hx);have hlm:(Z0l l0 (R.take k)).length≤300000:=by
     have h1:=Z2a l0 (R.take k);have h2:(R.take k).length≤R.length:=by rw [List.length_take]; omega
     have h3:=HM.out;have h4:=HL0.out;omega
    obtain ⟨tx,htx⟩:=zX x.text
    rw [← htx] at x1 HST;have HA:=lh (Z5e _ w.heap.size v _ tx TX2.out HB.out.size (by omega));clear hx hlm htx;go_wp2_with fail
    refine HA.out.mono ?_;rintro e w4 ⟨v4,rfl,ht4,hb4⟩;have T4:=lh ht4;have M4:=lh (NO.out.bel hb4);have B4:=lh (HB.out.trans (hb4.mono HB.out.size));clear ht4 hb4 HA;go_wp2;go_roundw
    case rel=>exact ⟨k + 1,_,rfl,by omega,by go_num,lh (by rw [HST.out]; exact T4.out),M4,B4⟩
    case measure=>simp [intOf]; omega
   ·have hk2 : k = m := by omega
    subst hk2;go_wp2;go_ret;refine ⟨_,rfl,?_,HB.out⟩;have:=TX2.out;rw [Ym (by rw [← HM.out]; exact Y5 _),HR.out,Z7l] at this;exact this
 ·rcases NQ.out.form with ⟨_, h2⟩ | ⟨g, cap3, rfl, hle3, hm3⟩;·exact absurd h2 hq
  have hpos:0 < Q.length:=List.length_pos_iff.2 hq;have NEWS:=lh (show ∀ (j:Nat) (u:Value),(Q.map ATree.ptr)[j]?=some u→w3.cell? ((⟨g,0,none⟩:Addr).add j)=some u from fun j u hu=>by
   have hadd:(⟨g,0,none⟩:Addr).add j=⟨g,j,none⟩:=by unfold Addr.add; split <;> simp_all
   rw [hadd];exact Ze NQ.out (g:=g) rfl hu)
  have hml:P.length + Q.length≤100000 + 100000:=by have:=HPL.out; have:=HQL.out; omega
  have hbs:=B3.out.size;obtain ⟨mq,hmq⟩:=zX Q.length
  rw [← hmq] at hpos hml hle3 ⊢;have HMQ:=lh hmq;clear hmq hq hfar hpl hpl0
  go_wp2_with (at_builtin; go_must (refine wpList_append_lies _ rfl (.tmp 12) (.tmp 14) 60 rfl w.heap.size 22 i0 _ 1 8 Yu hi hz0 hz1 hz2 rfl (by decide) v2 P.length (P.map ATree.ptr) rfl NP.out ⟨g,0,none⟩ mq cap3 (Q.map ATree.ptr) rfl (by simp [HMQ.out]) NEWS.out (fun u hu=>by obtain ⟨z,_,rfl⟩:=List.mem_map.1 hu; rfl) (by omega) (by unfold maxLen; omega) (by omega) (by omega) w3.heap.size rfl ?_); intro gg cq w4 hown4 hgrow4 hat4 hgl4; have HG:=lh hgrow4; have HW:=lh hown4; have HGL:=lh hgl4; clear hgrow4 hown4 hat4 hgl4)
  obtain ⟨R,hR⟩:=zX (P ++ Q)
  have HR:=lh hR;have hRl:R.length=P.length + mq:=by rw [hR,Yq,HMQ.out]
  obtain ⟨m,hm⟩:=zX (P.length + mq)
  have hml2:m≤200000:=by omega
  have HM:=lh (show m=R.length by omega);have NR:=lh (show Z11 w4 w.heap.size (.slice (some ⟨gg,0,none⟩) m cq) R from by
   have h1:=HW.out;unfold Z11;rw [hRl,hR,Yw,← hm];rw [← hm] at h1;exact h1)
  have hqe:m≤cq∧cq≤maxLen:=by
   rcases NR.out.form with ⟨h1,_⟩ | ⟨g,cap,h1,h2,h3⟩;·cases h1
   ·simp only [Value.slice.injEq] at h1;rw [h1.2.2,HM.out]; exact ⟨h2,h3⟩
  obtain ⟨hqe,hqm⟩:=hqe;unfold maxLen at hqm;have BW:=lh (B3.out.grown HG.out B3.out.size fun k hk=>(Yh NP.out k hk).1);have TX:=lh (show Zr w4 w.heap.size v0 l0 from Zb TX.out fun k hk=>HG.out.block k (Yh TX.out k hk).2 (fun e=>HP0.out k hk e.symm));have HRK:=lh (show ∀ x∈R,x∈a.kids from fun x hx=>by
   rw [hR] at hx;rcases List.mem_append.1 hx with h | h;·exact HPK.out x h
   ·exact HQK.out x h)
  rw [← hm];have hmi:((P.length:Int) + (mq:Int))=(m:Int):=by omega
  rw [hmi];obtain ⟨q,hq⟩:∃ q:Option Addr,q=some ⟨gg,0,none⟩:=⟨_,rfl⟩
  rw [← hq] at NR ⊢;clear hm hR hRl NP NQ HW HG hq hml NEWS hmi;go_loopw [5,17] (fun v i wr=>∃ (k:Nat) (v':Value),v'=v∧k≤m∧i=.int .i64 k∧Hid (Zr wr w.heap.size v' (Z0l l0 (R.take k)))∧Hid (Z11 wr w.heap.size (.slice q m cq) R)∧Hid (Below w.heap.size w wr)) (fun _ i _=>m - (intOf i).toNat)
  case atStart=>exact ⟨0,_,rfl,Yp _,rfl,lh (by simpa [Z0l] using TX.out),NR,BW⟩
  case round=>
   obtain ⟨k,v,rfl,hk,rfl,TX2,NO,HB⟩:=hrel;clear TX NR BW;by_cases hkn:k < m
   ·obtain ⟨x, hx⟩ : ∃ x, R[k]? = some x := ⟨_, Yd (by rw [← HM.out]; exact hkn)⟩
    obtain ⟨g0,hp⟩:∃ g,q=some ⟨g,0,none⟩:=by
     rcases NO.out.form with ⟨_,h2⟩ | ⟨g,cap,h1,_⟩;·rw [h2] at hx; simp at hx
     ·simp only [Value.slice.injEq] at h1; exact ⟨g,h1.1⟩
    subst hp;have cx:=NO.out.cell rfl hx;have x1:=((HT.out.bel HB.out).kid (HRK.out x (Yl hx))).c1;have HST:=lh (Z5p (l:=l0) hx);have hlm:(Z0l l0 (R.take k)).length≤300000:=by
     have h1:=Z2a l0 (R.take k);have h2:(R.take k).length≤R.length:=by rw [List.length_take]; omega
     have h3:=HM.out;have h4:=HL0.out;omega
    obtain ⟨tx,htx⟩:=zX x.text
    rw [← htx] at x1 HST;have HA:=lh (Z5e _ w.heap.size v _ tx TX2.out HB.out.size (by omega));clear hx hlm htx;go_wp2_with fail
    refine HA.out.mono ?_;rintro e w4 ⟨v4,rfl,ht4,hb4⟩;have T4:=lh ht4;have M4:=lh (NO.out.bel hb4);have B4:=lh (HB.out.trans (hb4.mono HB.out.size));clear ht4 hb4 HA;go_wp2;go_roundw
    case rel=>exact ⟨k + 1,_,rfl,by omega,by go_num,lh (by rw [HST.out]; exact T4.out),M4,B4⟩
    case measure=>simp [intOf]; omega
   ·have hk2 : k = m := by omega
    subst hk2;go_wp2;go_ret;refine ⟨_,rfl,?_,HB.out⟩;have:=TX2.out;rw [Ym (by rw [← HM.out]; exact Y5 _),HR.out,Z7l] at this;exact this
theorem Zkr {w0:World} {nb ob kb mb:Nat} {N:Nat→Nat} {L:List (Nat×Nat)}
 (a:ATree) (B:Nat) (w:World) (R:List (Sc×Value)) (S:List Sc) (rv:Value) (st:Bool) (out:List Us) (hT:TreeAt w0 B a) (hnum:(a.b,N a.b)∈L) (hlen:out.length≤100000) (hRl:R.length≤1000000) (hF:WSt w0 nb ob kb mb N L out w) (hR:RingsAt w w0.heap.size rv R) (hE:LkEq (Z3k R) S) (h1:a.kind=23) :
 Calls Tryz.prog 17 #[a.ptr,rv,.bool st,.pointer (some ⟨nb,0,none⟩),.pointer (some ⟨ob,0,none⟩),.pointer (some ⟨kb,0,none⟩)] w fun e w'=>e=.returned (.tuple #[])∧WSt w0 nb ob kb mb N L (out ++ Z0x N a S st) w'∧WFr w w'∧(Z0x N a S st).length≤a.many:=by
 obtain ⟨i0,hi,hz0,hz1,hz2⟩:=info_parts Tryz.infoUseR;have hdef:Z0x N a S st=[⟨N a.b,Z5i a.text (Z3k R) true⟩]:=by
  rw [hE];obtain ⟨b,v,k,t,n,ks⟩:=a;simp only [ATree.kind] at h1;rw [Z0x.eq_def];simp [h1,ATree.b,ATree.text]
 obtain ⟨g,cap,rfl,hg,hle,hmx⟩:=hR.form;have hM:=WMid.start hF hR;obtain ⟨n,hn⟩:=zX R.length
 rw [← hn] at hM hle hRl ⊢;have hmp:1≤a.many:=by cases a; simp [ATree.many]
 have hT1:TreeAt (w.alloc (.cells #[.slice (some ⟨g,0,none⟩) n cap] 56)) B a:=hT.keep fun k _ hk=>hM.st.bel.block k hk;have d0:=hT1.c0;have d1:=hT1.c1;rw [h1] at d0;obtain ⟨f0,f1,f2,f3⟩:=hM.cells;obtain ⟨tx,htx⟩:=zX a.text
 rw [← htx] at d1 hdef;have HM:=lh hM;obtain ⟨ov,hob,hrow⟩:=hM.st.cell;have HOB:=lh hob;have HROW:=lh (show ∀ W,Below (w.alloc (.cells #[.slice (some ⟨g,0,none⟩) n cap] 56)).heap.size (w.alloc (.cells #[.slice (some ⟨g,0,none⟩) n cap] 56)) W→W.ownsRow w0.heap.size 32 3 ov out.length (out.flatMap Us.cells) from fun W hW=>Zb hrow fun k hk=>hW.block k (Yh hrow k hk).2)
 have HTW:=lh (show ∀ W,Below (w.alloc (.cells #[.slice (some ⟨g,0,none⟩) n cap] 56)).heap.size (w.alloc (.cells #[.slice (some ⟨g,0,none⟩) n cap] 56)) W→W.cell? ⟨a.b,1,none⟩=some (.string tx)∧W.cell? ⟨ob,0,none⟩=some ov∧W.frozen? ⟨ob,0,none⟩=false from fun W hW=>by
  have e1:=(hT1.keep fun k _ hk=>hW.block k hk).c1;have e2:W.heap[ob]?=_:=(hW.block ob (Y6.1 hob).1).trans hob;exact ⟨by rw [e1,htx],by simp [World.cell?,e2],by simp [World.frozen?,e2]⟩)
 have HG:=lh (show ∀ W W2,Below (w.alloc (.cells #[.slice (some ⟨g,0,none⟩) n cap] 56)).heap.size (w.alloc (.cells #[.slice (some ⟨g,0,none⟩) n cap] 56)) W→W.grownBy W2 ov.ownBlock→W2.cell? ⟨ob,0,none⟩=some ov∧W2.frozen? ⟨ob,0,none⟩=false from fun W W2 hW hg2=>by
  have hl:=(Y6.1 hob).1;have e2:W2.heap[ob]?=_:=((hg2.block ob (Ye hl hW.size) (fun e=>by
   obtain ⟨c1,f1,h1⟩:=Lib.ownsRow_kind hrow ob e.symm;rw [hob] at h1;simp only [Option.some.injEq,Obj.cells.injEq] at h1;exact absurd h1.2.1 (by decide))).trans (hW.block ob hl)).trans hob
  exact ⟨by simp [World.cell?,e2],by simp [World.frozen?,e2]⟩)
 have hne:ob≠w.heap.size + 1:=by have:=(Y6.1 hob).1; simp at this; omega
 have HIN:=lh hnum;have HN:=lh hn;have HDEF:=lh hdef;unfold ATree.ptr;clear hT hnum hF hR hE h1 hdef hg hM hT1 htx hn hob hrow;go_enter Tryz.func17,Tryz.ntmps17
 go_wp2_with (at_lookup; go_must (refine Z1f _ rfl _ _ rfl mb a.b (N a.b) L rfl rfl HM.out.st.map HM.out.st.number HM.out.st.nodup HIN.out ?_))
 go_loopw [11] (fun i wr=>∃ (j:Nat) (sure:Bool) (x:Int),j≤n∧x=(j:Int) - 1∧i=.int .i64 x∧Hid (Z5i tx (Z3k (R.take j)) sure=Z5i tx (Z3k R) true)∧Hid (Below (w.alloc (.cells #[.slice (some ⟨g,0,none⟩) n cap] 56)).heap.size (w.alloc (.cells #[.slice (some ⟨g,0,none⟩) n cap] 56)) wr)∧wr.heap[w.heap.size + 1]?=some (.cells #[.int .i64 (N a.b),.int .i64 (-1),.bool sure] 32 (0,0))) (fun i _=>(intOf i + 1).toNat)
 case atStart=>
  refine ⟨n,true,(n:Int) - 1,Y5 _,rfl,by go_num,lh (by rw [HN.out,List.take_length]),lh ((Y8 _ _).alloc (Y5 _) _),?_⟩;have h:=heap_alloc_new (w.alloc (.cells #[.slice (some ⟨g,0,none⟩) n cap] 56)) (.cells #[.int .i64 (N a.b),.int .i64 (-1),.bool true] 32);rwa [World.size_alloc] at h
 case round=>
  obtain ⟨j,sure,x,hj,hx,rfl,HL,HB,hub⟩:=hrel;have HUB:=lh hub;have u0:wr.cell? ⟨w.heap.size + 1,0,none⟩=some (.int .i64 (N a.b)):=by simp [World.cell?,hub]
  have u1:wr.cell? ⟨w.heap.size + 1,1,none⟩=some (.int .i64 (-1)):=by simp [World.cell?,hub]
  have u2:wr.cell? ⟨w.heap.size + 1,2,none⟩=some (.bool sure):=by simp [World.cell?,hub]
  have uz:∀ i,wr.frozen? ⟨w.heap.size + 1,i,none⟩=false:=fun i=>by simp [World.frozen?,hub]
  have hMr:=HM.out.on HB.out;have HMR:=lh hMr;obtain ⟨g0,g1,g2,g3⟩:=hMr.cells;obtain ⟨t1,o0,oz⟩:=HTW.out wr HB.out;cases j with
  | zero =>
    obtain rfl:x=-1:=by omega
    clear hub hMr hx hj
    go_wp2_with (at_builtin; go_must (refine wpList_append_lies _ rfl (.tmp 60) (.tmp 62) 27 rfl w0.heap.size 32 i0 _ 3 24 Tryz.underlying27 hi hz0 hz1 hz2 rfl (by decide) ov out.length (out.flatMap Us.cells) rfl (HROW.out _ (HB.out.alloc HB.out.size _)) ⟨_,0,none⟩ 1 1 (Us.cells ⟨N a.b,(-1,sure)⟩) rfl rfl (Yi (cs:=(Us.cells ⟨N a.b,(-1,sure)⟩).toArray) (t:=32) (fr:=(0,0)) (heap_alloc_new _ _)) (by simp [Us.cells,Value.oneCell']) (by decide) (by unfold maxLen; omega) (by omega) (Ya HM.out.st.bel.size (HB.out.alloc HB.out.size _).size) _ rfl ?_); intro gg cap2 w2 hown2 hgrow2 hat2 hlt2; obtain ⟨e1,ez⟩:=HG.out _ _ (HB.out.alloc HB.out.size _) hgrow2; have HT:=lh (HM.out.st.told (u:=⟨N a.b,(-1,sure)⟩) HOB.out (HROW.out _ (Y8 _ _)) (HB.out.alloc HB.out.size _) hgrow2 hown2); clear hown2 hgrow2 hat2 hlt2)
    refine bodyPost_ret (results_none rfl _ _ _) rfl ?_;rw [HDEF.out,← HL.out];rw [List.take_zero];exact ⟨rfl,HT.out.1,(WFr.bel ((Y8 _ _).alloc (Y5 _) _)).trans HT.out.2,hmp⟩
  | succ k =>
    obtain rfl:x=(k:Int):=by omega
    have hkn:k < n:=hj;have hki:(k:Int) < (n:Int):=by omega
    have hk0:(0:Int)≤(k:Int):=Int.natCast_nonneg k;obtain ⟨p,hp⟩:∃ p,R[k]?=some p:=⟨_,Yd (by rw [← HN.out]; omega)⟩
    obtain ⟨r0,r1,r2⟩:=hMr.rings.cells hp;have HLS:=lh (show Z3k (R.take (k + 1))=p.1 :: Z3k (R.take k) from by rw [List.take_add_one,hp]; exact Z51 _ _);have HC:=lh (Zij ((hMr.rings.txt p (Yl hp)).bel ((Y8 _ _).drew)) tx);obtain ⟨pq,pn,pc,hpv⟩:=(hMr.rings.txt p (Yl hp)).slice;rw [hpv] at r1 HC;obtain ⟨cb,hcb⟩:=zX (Lib.containsS p.1.names tx)
    obtain ⟨po,hpo⟩:=zX p.1.op
    obtain ⟨pa,hpa⟩:=zX p.1.at'
    rw [← hcb] at HC;rw [← hpo] at r2;rw [← hpa] at r0;have HL2:=lh (show (if cb=true then (pa,sure) else Z5i tx (Z3k (R.take k)) (sure && !po))=Z5i tx (Z3k R) true from by rw [← HL.out,HLS.out,hcb,hpa,hpo]; rfl);clear hub hMr hx hp hpv hcb hpo hpa HLS HL hj;go_wp2_with fail
    refine Z1 [(true,0),(true,1),(true,2),(true,3),(true,4),(true,5),(true,6),(true,7),(true,8)] [9] (fun W=>W.cell? ⟨w.heap.size,0,none⟩=some (.slice (some ⟨g,0,none⟩) n cap)∧W.cell? ⟨g,k * 3 + 1,none⟩=some (.slice pq pn pc)∧W.cell? ⟨a.b,1,none⟩=some (.string tx)) (by kernel_rfl) (by kernel_rfl) (fun _ _ d _ _ h=>by cases d <;> exact h) ⟨g2,r1,t1⟩ (fun hS0=>?_);simp only [Zh,zD,zE,zF,zG,zH,zI]
    iterate 9
     first
      | (refine Z2 ?_ (by rfl) (fun w' hS'=>?_) ?_; rotate_left; (obtain ⟨s0,s1,s2⟩:=hS'; go_simp; first | done | with_reducible rfl); simp only [Act.put,zA,zB,zC])
      | (refine Z3 (by rfl) ?_; simp only [Act.put,zA,zB,zC])
    refine Z6 ?_;go_wp2_with fail
    refine HC.out.mono ?_;rintro e w2 ⟨rfl,rfl⟩;clear HC;cases cb with
    | true =>
      have HL:=lh (show (pa,sure)=Z5i tx (Z3k R) true from HL2.out);clear HL2
      go_wp2_with (at_builtin; go_must (refine wpList_append_lies _ rfl (.tmp 60) (.tmp 62) 27 rfl w0.heap.size 32 i0 _ 3 24 Tryz.underlying27 hi hz0 hz1 hz2 rfl (by decide) ov out.length (out.flatMap Us.cells) rfl (HROW.out _ (((HB.out.setCell (p:=⟨w.heap.size + 1,1,none⟩) (by simp) _).alloc (by have h:=HB.out.size; simpa using h) _).drew)) ⟨_,0,none⟩ 1 1 (Us.cells ⟨N a.b,(pa,sure)⟩) rfl rfl (Yi (cs:=(Us.cells ⟨N a.b,(pa,sure)⟩).toArray) (t:=32) (fr:=(0,0)) (by have h:=heap_alloc_new (wr.setCell ⟨w.heap.size + 1,1,none⟩ (.int .i64 pa)) (.cells #[.int .i64 (N a.b),.int .i64 pa,.bool sure] 32); rw [Yn] at h; exact h)) (by simp [Us.cells,Value.oneCell']) (by decide) (by unfold maxLen; omega) (by omega) (Ya HM.out.st.bel.size (((HB.out.setCell (p:=⟨w.heap.size + 1,1,none⟩) (by simp) _).alloc (by have h:=HB.out.size; simpa using h) _).drew).size) _ rfl ?_); intro gg cap2 w2 hown2 hgrow2 hat2 hlt2; obtain ⟨e1,ez⟩:=HG.out _ _ (((HB.out.setCell (p:=⟨w.heap.size + 1,1,none⟩) (by simp) _).alloc (by have h:=HB.out.size; simpa using h) _).drew) hgrow2; have HT:=lh (HM.out.st.told (u:=⟨N a.b,(pa,sure)⟩) HOB.out (HROW.out _ (Y8 _ _)) (((HB.out.setCell (p:=⟨w.heap.size + 1,1,none⟩) (by simp) _).alloc (by have h:=HB.out.size; simpa using h) _).drew) hgrow2 hown2); clear hown2 hgrow2 hat2 hlt2)
      refine bodyPost_ret (results_none rfl _ _ _) rfl ?_;rw [HDEF.out,← HL.out];exact ⟨rfl,HT.out.1,(WFr.bel ((Y8 _ _).alloc (Y5 _) _)).trans HT.out.2,hmp⟩
    | false =>
      have HL:=lh (show Z5i tx (Z3k (R.take k)) (sure && !po)=Z5i tx (Z3k R) true from HL2.out);clear HL2;cases po with
      | true =>
        go_wp2;go_roundw
        case rel=>
         refine ⟨k,false,(k:Int) - 1,Nat.le_of_lt hkn,rfl,by go_num,lh (by have h:=HL.out; rwa [Bool.not_true,Bool.and_false] at h),lh ((HB.out.drew).setCell (p:=⟨w.heap.size + 1,2,none⟩) (by simp) _),Zm (o:=2) _ HUB.out⟩
        case measure=>simp [intOf]
      | false =>
        go_wp2;go_roundw
        case rel=>
         refine ⟨k,sure,(k:Int) - 1,Nat.le_of_lt hkn,rfl,by go_num,lh (by have h:=HL.out; rwa [Bool.not_false,Bool.and_true] at h),lh HB.out.drew,HUB.out⟩
        case measure=>simp [intOf]
theorem TreeAt.two {w:World} {B:Nat} {x p b:ATree} (h:TreeAt w B x) (hk:x.kids=[p,b]):∃ g cp,w.cell? ⟨x.b,3,none⟩=some (.slice (some ⟨g,0,none⟩) 2 cp)∧w.cell? ⟨g,0,none⟩=some (.pointer (some ⟨p.b,0,none⟩))∧w.cell? ⟨g,1,none⟩=some (.pointer (some ⟨b.b,0,none⟩))∧2≤cp∧TreeAt w B p∧TreeAt w B b:=by
 have h3:=h.c3;have hr:Z11 w B x.v x.kids:=h.rowOf;rw [hk] at hr;rcases hr.form with ⟨_,h2⟩ | ⟨g,cap,h1,h2,_⟩;·cases h2
 ·rw [h1] at h3;exact ⟨g,cap,h3,hr.cell (b:=g) (by rw [h1]; rfl) (j:=0) rfl,hr.cell (b:=g) (by rw [h1]; rfl) (j:=1) rfl,h2,h.kid (by rw [hk]; simp),h.kid (by rw [hk]; simp)⟩
theorem Z8p {x p b:ATree} (hk:x.kids=[p,b]):p.many + b.many < x.many:=by
 obtain ⟨bb,v,k,t,n,ks⟩:=x;simp only [ATree.kids] at hk;subst hk;simp only [ATree.many,Z07];omega
theorem Ze5 (w:World) (B0:Nat) (x p b:ATree) (hT:TreeAt w B0 x) (hk:x.kids=[p,b]) (hmx:x.many≤100000) :
 Calls Tryz.prog 23 #[x.ptr] w fun e w'=>∃ v,e=.returned v∧Zr w' w.heap.size v (Z0l [] p.kids)∧Below w.heap.size w w':=by
 obtain ⟨g,cp,c3,c4,c5,hcp,hP,hB⟩:=hT.two hk;have hmp:p.kids.length≤100000:=by have h1:=Z8p hk; have h2:=Z4f p; omega
 have p3:=hP.c3;have hR:Z11 w B0 p.v p.kids:=hP.rowOf;obtain ⟨q,cq,hv,hqe,hqm⟩:=hP.vOf;rw [hv] at p3 hR;have HR:=lh hR;have HP:=lh hP;obtain ⟨m,hm⟩:=zX p.kids.length
 rw [← hm] at p3 HR hqe hmp;have HM:=lh hm;unfold maxLen at hqm;unfold ATree.ptr;clear hP hB hR hv hm hT hk hmx c5;go_enter Tryz.func23,Tryz.ntmps23
 go_wp2_with fail
 go_loopw [3,16] (fun v i wr=>∃ (k:Nat) (v':Value),v'=v∧k≤m∧i=.int .i64 k∧Hid (Zr wr w.heap.size v' (Z0l [] (p.kids.take k)))∧Hid (Below w.heap.size w wr)) (fun _ i _=>m - (intOf i).toNat)
 case atStart=>exact ⟨0,_,rfl,Yp _,rfl,lh (Zr.nil _ _),lh (Y8 _ _)⟩
 case round=>
  obtain ⟨k,v,rfl,hk,rfl,TX,HB⟩:=hrel;by_cases hkn:k < m
  ·obtain ⟨x, hx⟩ : ∃ x, p.kids[k]? = some x := ⟨_, Yd (by rw [← HM.out]; exact hkn)⟩
   have NO:=HR.out.bel HB.out;obtain ⟨g0,hp⟩:∃ g,q=some ⟨g,0,none⟩:=by
    rcases NO.form with ⟨_,h2⟩ | ⟨g,cap,h1,_⟩;·rw [h2] at hx; simp at hx
    ·simp only [Value.slice.injEq] at h1; exact ⟨g,h1.1⟩
   subst hp;have cx:=NO.cell rfl hx;have x1:=((HP.out.bel HB.out).kid (Yl hx)).c1;have HST:=lh (Z5p (l:=[]) hx);have hlm:(Z0l [] (p.kids.take k)).length < 1099511627776:=by
    have h1:=Z2a [] (p.kids.take k);have h2:(p.kids.take k).length≤p.kids.length:=by rw [List.length_take]; omega
    have h3:=HM.out;simp only [List.length_nil] at h1;omega
   have HA:=lh (Z5e wr w.heap.size v _ x.text TX.out HB.out.size hlm);clear NO hx hlm c3 c4 p3;go_wp2_with fail
   refine HA.out.mono ?_;rintro e w1 ⟨v1,rfl,ht,hb⟩;rw [← HST.out] at ht;have TX1:=lh ht;have HB1:=lh (HB.out.trans (hb.mono HB.out.size));clear ht hb HA;go_wp2;go_roundw
   case rel=>exact ⟨k + 1,_,rfl,by omega,by go_num,TX1,HB1⟩
   case measure=>simp [intOf]; omega
  ·have hk2 : k = m := by omega
   subst hk2;have hend:=TX.out;rw [Ym (by rw [← HM.out]; exact Y5 _)] at hend;have TE:=lh hend;clear hend TX c3 c4 p3;go_wp2;go_ret;exact ⟨_,rfl,TE.out,HB.out⟩
theorem Za1 {text:ByteArray} {t:Tree} (h:Z0o text=.ok t):WT t:=by
 unfold Z0o at h;split at h;·cases h
 ·split at h;·cases h
  ·rename_i ts _;split at h;·cases h
   ·cases h
   ·rename_i t' ts' hp;split at h;·cases h
    ·have e : t' = t := by simpa using h
     subst e;exact Zda _ _ _ _ (show Job.good (.stmts 1 []) from ⟨.inl rfl,trivial⟩) _ _ hp
theorem Zbo:∀ l:List ATree,(Z0t l).length=l.length
 | []=>rfl
 | a :: l=>by simp only [Z0t,List.length_cons,Zbo l]
theorem Zb2 {α:Type} {l:List α} (h:l.length=2):∃ p q,l=[p,q]:=by
 match l,h with
 | [p,q],_=>exact ⟨p,q,rfl⟩
theorem WT.two {x:ATree} (h:WT x.tree) (hk:x.kind=5∨x.kind=37):∃ p q,x.kids=[p,q]:=by
 obtain ⟨b,v,k,t,n,ks⟩:=x;simp only [ATree.tree] at h;have h1:=h.1.two (by simp only [ATree.kind] at hk; omega);exact Zb2 (by rw [← h1,Zbo]; rfl)
mutual
theorem Zk5:∀ (a:ATree),WT a.tree→∀ x∈a.subs,WT x.tree
 | .mk b v k t n ks, h, x, hx => by
   simp only [ATree.subs,List.mem_cons] at hx;rcases hx with rfl | hx;·exact h
   ·exact Zgt ks (by simp only [ATree.tree] at h; exact h.2) x hx
theorem Zgt:∀ (l:List ATree),WTL (Z0t l)→∀ x∈Z0y l,WT x.tree
 | [],_,x,hx=>by simp [Z0y] at hx
 | c :: l, h, x, hx => by
   simp only [Z0t] at h;simp only [Z0y,List.mem_append] at hx;rcases hx with hx | hx;·exact Zk5 c h.1 x hx
   ·exact Zgt l h.2 x hx
end
mutual
def rEv:ATree→Bool
 | .mk b v k t n ks=>Z1z (.mk b v k t n ks) || (!Z1a (.mk b v k t n ks) && rEvL ks)
def rEvL:List ATree→Bool
 | []=>false
 | a :: l=>rEv a || rEvL l
end
theorem Zc7 (a:ATree):rEv a=(Z1z a || (!Z1a a && rEvL a.kids)):=by cases a; rfl
theorem Z8q (l m:List ATree):rEvL (l ++ m)=(rEvL l || rEvL m):=by
 induction l with
 | nil=>simp [rEvL]
 | cons a l ih=>simp only [List.cons_append,rEvL,ih,Bool.or_assoc]
theorem Zbg {l:List ATree} {y:ATree} (hy:y∈l) (h:rEv y=true):rEvL l=true:=by
 induction l with
 | nil=>cases hy
 | cons a l ih =>
   simp only [rEvL];rcases List.mem_cons.1 hy with rfl | hy;·rw [h,Bool.true_or]
   ·rw [ih hy,Bool.or_true]
mutual
theorem Zgf:∀ (a:ATree) (s:Bool),Z2g Z6v a s=(s || rEv a)
 | .mk b v k t n ks, s => by
   have h1:(Z6v s (.mk b v k t n ks)).1=!Z1a (.mk b v k t n ks):=rfl;have h2:(Z6v s (.mk b v k t n ks)).2=(s || Z1z (.mk b v k t n ks)):=rfl;rw [Z60,Zc7];by_cases hin:Z1a (.mk b v k t n ks)=true;·rw [Y9 (by rw [h1,hin]; decide),h2,hin]; simp
   ·have hin:=Bool.eq_false_iff.2 hin;rw [Yb (by rw [h1,hin]; rfl),h2,hin];simp only [ATree.kids,Bool.not_false,Bool.true_and];rw [Zep ks,Bool.or_assoc]
theorem Zep:∀ (l:List ATree) (s:Bool),Z16 Z6v l s=(s || rEvL l)
 | [],s=>by simp [Z16,rEvL]
 | a :: l,s=>by simp only [Z16,rEvL]; rw [Zep l,Zgf a,Bool.or_assoc]
end
theorem Z7k (a:ATree):Z5w a=rEv a:=by unfold Z5w; rw [Zgf,Bool.false_or]
theorem Z8l {x y:ATree} (h:WT x.tree) (hy:y∈x.kids):WT y.tree:=Zk5 x h y (by
 rw [Z6i];refine List.mem_cons_of_mem _ ?_;obtain ⟨i,hi⟩:=List.getElem?_of_mem hy;rw [Zbp hi,Z6i y];simp)
theorem Zb3 (n0:Nat):∀ (x:ATree),x.many≤n0→WT x.tree→∀ (w:World) (B0:Nat),TreeAt w B0 x →
 Calls Tryz.prog 8 #[x.ptr] w fun e w'=>e=.returned (.bool (rEv x))∧Below w.heap.size w w':=by
 induction n0 with
 | zero=>intro a h; exfalso; cases a; simp [ATree.many] at h
 | succ n0 ih=>
 intro x hn hWT w B0 hT;have HIH:=lh ih;obtain ⟨p,cp,hv,hge,hgm⟩:=hT.vOf;have c0:=hT.c0;have c3:=hT.c3;rw [hv] at c3;have hro:Z11 w B0 x.v x.kids:=hT.rowOf;rw [hv] at hro;have HKM:=lh (show ∀ y∈x.kids,y.many≤n0 from fun y hy=>by have:=Z36 hy; omega);have HW:=lh hWT;have HX:=lh hT;have HEQ:=Zc7 x;obtain ⟨m,hm⟩:=zX x.kids.length
 rw [← hm] at hge c3 hro;have HM:=lh hm;have NO:=lh hro;unfold maxLen at hgm;unfold ATree.ptr;by_cases h35:x.kind=35
 ·obtain ⟨k,ks,hks⟩:∃ k ks,x.kids=k :: ks:=by
   cases h:x.kids with
   | nil =>
     exfalso;obtain ⟨b,v,kd,t,n,l⟩:=x;simp only [ATree.kids] at h;subst h;simp only [ATree.tree,Z0t] at hWT;exact hWT.1.call h35 rfl
   | cons k ks=>exact ⟨k,ks,rfl⟩
  have hpos:0 < m:=by rw [hm,hks]; simp
  obtain ⟨g,hp⟩:∃ g,p=some ⟨g,0,none⟩:=by
   rcases hro.form with ⟨_,h2⟩ | ⟨g,cap,h1,_⟩;·rw [h2] at hks; cases hks
   ·simp only [Value.slice.injEq] at h1; exact ⟨g,h1.1⟩
  subst hp;have ck:=hro.cell (b:=g) rfl (j:=0) (x:=k) (by rw [hks]; rfl);have hk:=hT.kid (k:=k) (by rw [hks]; simp);have k0:=hk.c0;have k1:=hk.c1;rw [h35] at c0;have hie:Z1z x=(k.kind == 23 && Zt k.text Z39):=by unfold Z1z; rw [h35,hks]; rfl
  rw [hie] at HEQ;obtain ⟨kk,hkk⟩:=zX k.kind
  obtain ⟨kt,hkt⟩:=zX k.text
  rw [← hkk] at k0 HEQ;rw [← hkt] at k1 HEQ;clear ih hn hWT hT hro hm hv hks hk hkk hkt h35 hie;by_cases h23:kk=23
  ·subst h23;by_cases he : kt = Z39
   ·subst he;rw [show Zt Z39 Z39 = true by simp [Zt]] at HEQ;simp only [beq_self_eq_true, Bool.true_and, Bool.true_or] at HEQ;unfold Z39 at k1;go_enter Tryz.func8, Tryz.ntmps8
    go_wp2;go_ret;exact ⟨by rw [HEQ]; rfl,Y8 _ _⟩
   ·have hne1 : Zt kt Z39 = false := by simp [Zt, he]
    rw [hne1] at HEQ;simp only [Bool.and_false,Bool.false_or] at HEQ;have hne2:(kt.toList == Z39.toList)=false:=by rw [Z26]; exact hne1
    have hne3:(kt.toList == [101,118,97,108])=false:=by
     have:Z39.toList=[101,118,97,108]:=by kernel_rfl
     rwa [this] at hne2
    clear hne1 hne2 he;have HFN:=lh (Z3m w _ x HX.out);unfold ATree.ptr at HFN;cases hin:Z1a x with
    | true =>
      rw [hin] at HFN HEQ;clear hin;simp only [Bool.not_true,Bool.false_and] at HEQ;go_enter Tryz.func8,Tryz.ntmps8
      go_wp2_with fail
      refine HFN.out.mono ?_;rintro e w1 ⟨rfl,hw1⟩;have hw2:=hw1.symm;subst hw2;clear hw1 HFN;go_wp2;go_ret;exact ⟨by rw [HEQ]; rfl,Y8 _ _⟩
    | false =>
      rw [hin] at HFN HEQ;clear hin;simp only [Bool.not_false,Bool.true_and] at HEQ;have HEQ:=lh HEQ;go_enter Tryz.func8,Tryz.ntmps8
      go_wp2_with fail
      refine HFN.out.mono ?_;rintro e w1 ⟨rfl,hw1⟩;have hw2:=hw1.symm;subst hw2;clear hw1 HFN;go_wp2_with fail
      go_loopw [43] (fun i wr=>∃ j:Nat,j≤m∧i=.int .i64 j∧Hid (rEvL (x.kids.take j)=false)∧Hid (Below w.heap.size w wr)) (fun i _=>m - (intOf i).toNat)
      case atStart=>exact ⟨0,Yp _,rfl,lh rfl,lh (Y8 _ _)⟩
      case round=>
       obtain ⟨j,hj,rfl,HNO,HB⟩:=hrel;clear c3 c0 ck k0 k1;by_cases hjm:j < m
       ·obtain ⟨y, hy⟩ : ∃ y, x.kids[j]? = some y := ⟨_, Yd (by rw [← HM.out]; exact hjm)⟩
        have NOW:=NO.out.bel HB.out;have cy:=NOW.cell rfl hy;have hym:=Yl hy;have HC:=lh (HIH.out y (HKM.out y hym) (Z8l HW.out hym) wr B0 ((HX.out.bel HB.out).kid hym));have HTK:=lh (show rEvL (x.kids.take (j + 1))=rEv y from by rw [Zk hy,Z8q,HNO.out]; simp [rEvL]);have HYL:=lh (show rEv y=true→rEvL x.kids=true from fun h=>Zbg hym h);unfold ATree.ptr at HC;clear NOW hy hym;cases hr:rEv y with
        | true =>
          have hall:=HYL.out hr;rw [hr] at HC;clear hr;go_wp2_with fail
          refine HC.out.mono ?_;rintro e w3 ⟨rfl,hb3⟩;have B3:=lh (HB.out.trans (hb3.mono HB.out.size));have HAL:=lh hall;clear hb3 HC hall;go_wp2;go_ret;exact ⟨by rw [HEQ.out,HAL.out]; rfl,B3.out⟩
        | false =>
          rw [hr] at HC HTK;clear hr;go_wp2_with fail
          refine HC.out.mono ?_;rintro e w3 ⟨rfl,hb3⟩;have B3:=lh (HB.out.trans (hb3.mono HB.out.size));clear hb3 HC;go_wp2;go_roundw
          case rel=>exact ⟨j + 1,by omega,by go_num,HTK,B3⟩
          case measure=>simp [intOf]; omega
       ·have hk2 : j = m := by omega
        subst hk2;have hend:=HNO.out;rw [Ym (by rw [← HM.out]; exact Y5 _)] at hend;have HE:=lh hend;clear hend HNO;go_wp2;go_ret;exact ⟨by rw [HEQ.out,HE.out]; rfl,HB.out⟩
  ·have n23 : (kk == 23) = false := by simpa using h23
   rw [n23] at HEQ;simp only [Bool.false_and,Bool.false_or] at HEQ;clear h23;have HFN:=lh (Z3m w _ x HX.out);unfold ATree.ptr at HFN;cases hin:Z1a x with
   | true =>
     rw [hin] at HFN HEQ;clear hin;simp only [Bool.not_true,Bool.false_and] at HEQ;go_enter Tryz.func8,Tryz.ntmps8
     go_wp2_with fail
     refine HFN.out.mono ?_;rintro e w1 ⟨rfl,hw1⟩;have hw2:=hw1.symm;subst hw2;clear hw1 HFN;go_wp2;go_ret;exact ⟨by rw [HEQ]; rfl,Y8 _ _⟩
   | false =>
     rw [hin] at HFN HEQ;clear hin;simp only [Bool.not_false,Bool.true_and] at HEQ;have HEQ:=lh HEQ;go_enter Tryz.func8,Tryz.ntmps8
     go_wp2_with fail
     refine HFN.out.mono ?_;rintro e w1 ⟨rfl,hw1⟩;have hw2:=hw1.symm;subst hw2;clear hw1 HFN;go_wp2_with fail
     go_loopw [43] (fun i wr=>∃ j:Nat,j≤m∧i=.int .i64 j∧Hid (rEvL (x.kids.take j)=false)∧Hid (Below w.heap.size w wr)) (fun i _=>m - (intOf i).toNat)
     case atStart=>exact ⟨0,Yp _,rfl,lh rfl,lh (Y8 _ _)⟩
     case round=>
      obtain ⟨j,hj,rfl,HNO,HB⟩:=hrel;clear c3 c0 ck k0 k1;by_cases hjm:j < m
      ·obtain ⟨y, hy⟩ : ∃ y, x.kids[j]? = some y := ⟨_, Yd (by rw [← HM.out]; exact hjm)⟩
       have NOW:=NO.out.bel HB.out;have cy:=NOW.cell rfl hy;have hym:=Yl hy;have HC:=lh (HIH.out y (HKM.out y hym) (Z8l HW.out hym) wr B0 ((HX.out.bel HB.out).kid hym));have HTK:=lh (show rEvL (x.kids.take (j + 1))=rEv y from by rw [Zk hy,Z8q,HNO.out]; simp [rEvL]);have HYL:=lh (show rEv y=true→rEvL x.kids=true from fun h=>Zbg hym h);unfold ATree.ptr at HC;clear NOW hy hym;cases hr:rEv y with
       | true =>
         have hall:=HYL.out hr;rw [hr] at HC;clear hr;go_wp2_with fail
         refine HC.out.mono ?_;rintro e w3 ⟨rfl,hb3⟩;have B3:=lh (HB.out.trans (hb3.mono HB.out.size));have HAL:=lh hall;clear hb3 HC hall;go_wp2;go_ret;exact ⟨by rw [HEQ.out,HAL.out]; rfl,B3.out⟩
       | false =>
         rw [hr] at HC HTK;clear hr;go_wp2_with fail
         refine HC.out.mono ?_;rintro e w3 ⟨rfl,hb3⟩;have B3:=lh (HB.out.trans (hb3.mono HB.out.size));clear hb3 HC;go_wp2;go_roundw
         case rel=>exact ⟨j + 1,by omega,by go_num,HTK,B3⟩
         case measure=>simp [intOf]; omega
      ·have hk2 : j = m := by omega
       subst hk2;have hend:=HNO.out;rw [Ym (by rw [← HM.out]; exact Y5 _)] at hend;have HE:=lh hend;clear hend HNO;go_wp2;go_ret;exact ⟨by rw [HEQ.out,HE.out]; rfl,HB.out⟩
 ·have n35 : (x.kind == 35) = false := by simpa using h35
  have hie:Z1z x=false:=by unfold Z1z; rw [n35]; rfl
  rw [hie] at HEQ;simp only [Bool.false_or] at HEQ;obtain ⟨kd,hkd⟩:=zX x.kind
  rw [← hkd] at c0 n35;clear ih hn hWT hT hro hm hv hkd h35 hie;have HFN:=lh (Z3m w _ x HX.out);unfold ATree.ptr at HFN;cases hin:Z1a x with
  | true =>
    rw [hin] at HFN HEQ;clear hin;simp only [Bool.not_true,Bool.false_and] at HEQ;go_enter Tryz.func8,Tryz.ntmps8
    go_wp2_with fail
    refine HFN.out.mono ?_;rintro e w1 ⟨rfl,hw1⟩;have hw2:=hw1.symm;subst hw2;clear hw1 HFN;go_wp2;go_ret;exact ⟨by rw [HEQ]; rfl,Y8 _ _⟩
  | false =>
    rw [hin] at HFN HEQ;clear hin;simp only [Bool.not_false,Bool.true_and] at HEQ;have HEQ:=lh HEQ;go_enter Tryz.func8,Tryz.ntmps8
    go_wp2_with fail
    refine HFN.out.mono ?_;rintro e w1 ⟨rfl,hw1⟩;have hw2:=hw1.symm;subst hw2;clear hw1 HFN;go_wp2_with fail
    go_loopw [43] (fun i wr=>∃ j:Nat,j≤m∧i=.int .i64 j∧Hid (rEvL (x.kids.take j)=false)∧Hid (Below w.heap.size w wr)) (fun i _=>m - (intOf i).toNat)
    case atStart=>exact ⟨0,Yp _,rfl,lh rfl,lh (Y8 _ _)⟩
    case round=>
     obtain ⟨j,hj,rfl,HNO,HB⟩:=hrel;clear c3 c0;by_cases hjm:j < m
     ·obtain ⟨y, hy⟩ : ∃ y, x.kids[j]? = some y := ⟨_, Yd (by rw [← HM.out]; exact hjm)⟩
      have NOW:=NO.out.bel HB.out;obtain ⟨g1,hp⟩:∃ g,p=some ⟨g,0,none⟩:=by
       rcases NOW.form with ⟨_,h2⟩ | ⟨g,cap,h1,_⟩;·rw [h2] at hy; simp at hy
       ·simp only [Value.slice.injEq] at h1; exact ⟨g,h1.1⟩
      cases hp;have cy:=NOW.cell rfl hy;have hym:=Yl hy;have HC:=lh (HIH.out y (HKM.out y hym) (Z8l HW.out hym) wr B0 ((HX.out.bel HB.out).kid hym));have HTK:=lh (show rEvL (x.kids.take (j + 1))=rEv y from by rw [Zk hy,Z8q,HNO.out]; simp [rEvL]);have HYL:=lh (show rEv y=true→rEvL x.kids=true from fun h=>Zbg hym h);unfold ATree.ptr at HC;clear NOW hy hym;cases hr:rEv y with
      | true =>
        have hall:=HYL.out hr;rw [hr] at HC;clear hr;go_wp2_with fail
        refine HC.out.mono ?_;rintro e w3 ⟨rfl,hb3⟩;have B3:=lh (HB.out.trans (hb3.mono HB.out.size));have HAL:=lh hall;clear hb3 HC hall;go_wp2;go_ret;exact ⟨by rw [HEQ.out,HAL.out]; rfl,B3.out⟩
      | false =>
        rw [hr] at HC HTK;clear hr;go_wp2_with fail
        refine HC.out.mono ?_;rintro e w3 ⟨rfl,hb3⟩;have B3:=lh (HB.out.trans (hb3.mono HB.out.size));clear hb3 HC;go_wp2;go_roundw
        case rel=>exact ⟨j + 1,by omega,by go_num,HTK,B3⟩
        case measure=>simp [intOf]; omega
     ·have hk2 : j = m := by omega
      subst hk2;have hend:=HNO.out;rw [Ym (by rw [← HM.out]; exact Y5 _)] at hend;have HE:=lh hend;clear hend HNO;go_wp2;go_ret;exact ⟨by rw [HEQ.out,HE.out]; rfl,HB.out⟩
end Go.Proofs.YtfilfhpfndaniaaGreatDoor
