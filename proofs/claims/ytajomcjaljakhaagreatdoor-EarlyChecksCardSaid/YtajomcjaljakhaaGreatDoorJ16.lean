/- Package early: kids. -/
import Derived.Test.YtajomcjaljakhaaGreatDoorJ15
namespace Go.Proofs.YtajomcjaljakhaaGreatDoor
open Go Go.RowKit
set_option maxRecDepth 100000
set_option maxHeartbeats 20000000
set_option linter.unusedVariables false
def Zlw (B m:Nat):Prop:=
 ∀ (a : ATree) (w : World) (st ins : Bool), a.many ≤ m → WA a → a.many < 274877906944 → TreeAt w B a →
   Calls Tryz.prog 44 #[.agg #[.bool st,.bool ins],a.ptr] w fun e w'=>e=.returned (.int .i64 (Z0p a st ins))∧Below w.heap.size w w'
def Z8b (B m:Nat):Prop:=
 ∀ (a : ATree) (w : World) (st ins : Bool), a.many ≤ m + 1 → (∀ k ∈ a.kids, WA k) → a.many < 274877906944 → TreeAt w B a →
   Calls Tryz.prog 15 #[.agg #[.bool st,.bool ins],a.ptr] w fun e w'=>e=.returned (.int .i64 (Z1c a.kids st ins))∧Below w.heap.size w w'
theorem Zao {l:List ATree} {k:Nat} {x:ATree} {st ins:Bool} (h:l[k]?=some x):Z1c (l.drop k) st ins=if Z0p x st ins≠0 then Z0p x st ins else Z1c (l.drop (k + 1)) st ins:=by
 obtain ⟨hk,he⟩:=List.getElem?_eq_some_iff.1 h;rw [List.drop_eq_getElem_cons hk,he];rfl
theorem Zeb {B m:Nat} (hN:Zlw B m):Z8b B m:=by
 intro a w st ins hm hA hbig hT;obtain ⟨p,cp,hv,hge,hmx⟩:=hT.vOf;have c3:w.cell? ⟨a.b,3,none⟩=some (.slice p a.kids.length cp):=by rw [← hv]; exact hT.c3
 have hlen:a.kids.length≤9223372036854775807:=by unfold maxLen at hmx; omega
 have hba:Below w.heap.size w (w.alloc (.cells #[.bool st,.bool ins] 43)):=(Y8 _ _).alloc (Y5 _) _;have c3':(w.alloc (.cells #[.bool st,.bool ins] 43)).cell? ⟨a.b,3,none⟩=some (.slice p a.kids.length cp):=(Z5 hT.lt).trans c3;have d0:(w.alloc (.cells #[.bool st,.bool ins] 43)).cell? ⟨w.heap.size,0,none⟩=some (.bool st):=by simp
 have d1:(w.alloc (.cells #[.bool st,.bool ins] 43)).cell? ⟨w.heap.size,1,none⟩=some (.bool ins):=by simp
 have hsz:(w.alloc (.cells #[.bool st,.bool ins] 43)).heap.size=w.heap.size + 1:=by simp
 have HN:=lh (fun (x:ATree) (hx:x∈a.kids) (W:World) (h:TreeAt W B x)=>hN x W st ins (by have:=Z2l hx; omega) (hA x hx) (by have:=Z2l hx; omega) h);have HT:=lh hT;have HBA:=lh hba;have HV:=lh hv;obtain ⟨n,hnn⟩:=zX a.kids.length
 rw [← hnn] at c3 c3' hlen hge;have HNN:=lh hnn;obtain ⟨R,hR⟩:=zX (Z1c a.kids st ins)
 rw [← hR];have HR:=lh hR;obtain ⟨w1,hw1⟩:=zX (w.alloc (.cells #[.bool st,.bool ins] 43))
 have HW1:=lh hw1;rw [← hw1] at hsz d0 d1;have HSZ:=lh hsz;have D0:=lh d0;have D1:=lh d1;clear hN hA hT hm hbig hba hv hnn hR hw1 hsz d0 d1;unfold ATree.ptr;go_enter Tryz.func15,Tryz.ntmps15
 go_wp2_with fail
 go_loopw [15] (fun i wr=>∃ (k:Nat),k≤n∧i=.int .i64 k∧Hid (Below w1.heap.size w1 wr)∧Hid (Z1c (a.kids.drop k) st ins=R)) (fun i _=>n - (intOf i).toNat)
 case atStart=>exact ⟨0,Yp _,rfl,lh (by rw [HW1.out]; exact Y8 _ _),lh HR.out.symm⟩
 case round=>
  obtain ⟨k,hk,rfl,HB,HRR⟩:=hrel;have e0:wr.cell? ⟨w.heap.size,0,none⟩=some (.bool st):=(Yj (HB.out.block w.heap.size (by rw [HSZ.out]; omega))).trans D0.out;have e1:wr.cell? ⟨w.heap.size,1,none⟩=some (.bool ins):=(Yj (HB.out.block w.heap.size (by rw [HSZ.out]; omega))).trans D1.out;have HBW:Hid (Below w.heap.size w wr):=lh (by
   have h1:=HBA.out;rw [← HW1.out] at h1;exact h1.trans (HB.out.mono h1.size))
  by_cases hkn:k < n
  ·obtain ⟨x, hx⟩ : ∃ x, a.kids[k]? = some x := ⟨_, Yd (by rw [← HNN.out]; exact hkn)⟩
   have hT2:TreeAt wr B a:=HT.out.bel HBW.out;have hrow:=hT2.rowOf;rcases Zb hrow with ⟨_,h2⟩ | ⟨g0,cap0,hv0,_⟩;·rw [← HNN.out] at h2; omega
   have hp:p=some ⟨g0,0,none⟩:=by
    have:=HV.out.symm.trans hv0;simp only [Value.slice.injEq] at this;exact this.1
   subst hp;have cx:=Zi hrow (g:=g0) (by rw [hv0]; rfl) (i:=k) (x:=x.ptr) (by rw [Yo,hx]; rfl);have hmem:x∈a.kids:=Yl hx;have hcall:=HN.out x hmem wr (hT2.kid hmem);have hstep:=Zao (st:=st) (ins:=ins) hx;rw [HRR.out] at hstep;obtain ⟨r,hr⟩:=zX (Z0p x st ins)
   rw [← hr] at hcall hstep;unfold ATree.ptr at cx hcall;have HCALL:=lh hcall;have STEP:=lh hstep;clear hT2 hrow hv0 hx hcall hmem hstep hr;go_wp2_with fail
   refine HCALL.out.mono ?_;rintro e w2 ⟨rfl,hb2⟩;have hsw:w1.heap.size≤wr.heap.size:=HB.out.size;have HB2:=lh (HB.out.trans (hb2.mono hsw));have HBW2:=lh (HBW.out.trans (hb2.mono HBW.out.size));clear hb2 HCALL;by_cases hz:r=0
   ·subst hz;go_wp2;go_roundw
    case rel=>
     have h1:=STEP.out;simp only [ne_eq,not_true_eq_false,if_false] at h1;exact ⟨k + 1,by omega,by go_num,HB2,lh h1.symm⟩
    case measure=>simp [intOf]; omega
   ·have n0 : (r != 0) = true := by simpa using hz
    have HZ:=lh hz;clear hz;go_wp2;go_ret;refine ⟨?_,HBW2.out⟩;have h1:=STEP.out;rw [Yb HZ.out] at h1;rw [h1];rfl
  ·have hk2 : k = n := by omega
   subst hk2;go_wp2;go_ret;refine ⟨?_,HBW.out⟩;have h1:=HRR.out;rw [List.drop_of_length_le (by rw [← HNN.out]; exact Y5 _)] at h1;rw [← h1];rfl
theorem Zbi (l:List ByteArray) (P Q:List ATree):Z19 l (P ++ Q)=Z19 (Z19 l P) Q:=by simp [Z19,List.foldl_append]
theorem Z7f {l:List ByteArray} {R:List ATree} {k:Nat} {x:ATree} (h:R[k]?=some x):Z19 l (R.take (k + 1))=addL (Z19 l (R.take k)) x.text:=by rw [Z0w h,Z5g]
theorem Zc4 (w:World) (B0:Nat) (a:ATree) (hT:TreeAt w B0 a) (hmx:a.many≤100000) :
 Calls Tryz.prog 24 #[a.ptr,.bool false] w fun e w'=>∃ v,e=.returned v∧Z04 w' w.heap.size v (Z3y false a)∧Below w.heap.size w w':=by
 obtain ⟨i0,hi,hz0,hz1,hz2⟩:=info_parts Tryz.infoPtr;have hkm:=Z35 a;have HT:=lh hT;have HF:=lh (fun (w1:World) (hb:Below w.heap.size w w1)=>Zaq w1 B0 a (hT.bel hb) hmx);have HL:=lh (fun (w1:World) (hb:Below w.heap.size w w1)=>Z9t w1 B0 a (hT.bel hb) hmx);have hfu:(a.kids.filter Z1i).length≤a.kids.length:=List.length_filter_le _ _;have hle:(a.kids.filter Z2g).length≤a.kids.length:=List.length_filter_le _ _;have HPK:=lh (show ∀ x,x∈a.kids.filter Z1i→x∈a.kids from fun x hx=>(List.mem_filter.1 hx).1)
 have HQK:=lh (show ∀ x,x∈a.kids.filter Z2g→x∈a.kids from fun x hx=>(List.mem_filter.1 hx).1);unfold Z3y;obtain ⟨P,hP⟩:=zX (a.kids.filter Z1i)
 obtain ⟨Q,hQ⟩:=zX (a.kids.filter Z2g)
 rw [← hP] at hfu HPK HF ⊢;rw [← hQ] at hle HQK HL ⊢;have HPL:=lh (show P.length≤100000 by omega);have HQL:=lh (show Q.length≤100000 by omega);simp only [Bool.false_eq_true,if_false];obtain ⟨l0,hl0⟩:∃ l:List ByteArray,l=[]:=⟨_,rfl⟩
 rw [← hl0];have HL0:=lh (show l0.length≤100000 by rw [hl0]; simp);obtain ⟨v0,hv0⟩:=zX (Value.slice none 0 0)
 obtain ⟨w1,hw1⟩:=zX w
 have TX1:=lh (show Z04 w1 w.heap.size v0 l0 from by rw [hv0,hl0]; exact Z04.nil _ _);have TX1L:=TX1;have B1:=lh (show Below w.heap.size w w1 from by rw [hw1]; exact Y8 _ _);have HW1:=lh hw1;have HV0:=lh hv0;unfold ATree.ptr at HF HL ⊢;clear hkm hT hfu hle hP hQ hl0 hmx hw1 hv0;go_enter Tryz.func24,Tryz.ntmps24
 go_wp2_with fail
 have HFW:=HF.out w1 B1.out;rw [HW1.out] at HFW;rw [← HV0.out];refine HFW.mono ?_;rintro e w2 ⟨v2,rfl,hn2,hb2⟩;rw [← HW1.out] at hn2 hb2;have N2:=lh hn2;have TX2:=lh (TX1.out.bel hb2);have B2:=lh (B1.out.trans (hb2.mono B1.out.size));clear hn2 hb2 HF TX1;go_wp2_with fail
 refine (HL.out w2 B2.out).mono ?_;rintro e w3 ⟨v3,rfl,hn3,hb3⟩;have NP:=lh (show Z0q w3 w.heap.size v2 P from Z28 B1.out.size (N2.out.bel hb3));have NQ:=lh (show Z0q w3 w.heap.size v3 Q from Z28 B2.out.size hn3);have hfar:∀ g,v3.ownBlock=some g→w2.heap.size≤g:=fun g h=>(Yh hn3 g h).1;have hpl:∀ g,v2.ownBlock=some g→g < w2.heap.size:=fun g h=>(Yh N2.out g h).2;have TX:=lh (TX2.out.bel hb3);have B3:=lh (B2.out.trans (hb3.mono B2.out.size));have hpl0:∀ g,v0.ownBlock=some g→v2.ownBlock≠some g:=fun g h e=>by
  have h1:=(Yh TX1L.out g h).2;have h2:=(Yh N2.out g e).1;omega
 have HP0:=lh hpl0;clear hn3 hb3 HL N2 TX2 TX1L;by_cases hq:Q=[]
 ·obtain ⟨p3,c3,rfl⟩:∃ p c,v3=.slice p 0 c:=by
   rcases NQ.out.form with ⟨h1,_⟩ | ⟨g,cap,h1,_⟩;·exact ⟨none,0,h1⟩
   ·exact ⟨some ⟨g,0,none⟩,cap,by rw [h1,hq]; rfl⟩
  obtain ⟨R,hR⟩:=zX P
  have HR:=lh (show R=P ++ Q by rw [hR,hq,List.append_nil]);have NR:=NP;rw [← hR] at NR;have BW:=B3;obtain ⟨q,cq,rfl,hqe,hqm⟩:∃ p cp,v2=.slice p R.length cp∧R.length≤cp∧cp≤maxLen:=by
   rcases NR.out.form with ⟨h1,h2⟩ | ⟨g,cap,h1,h2,h3⟩;·exact ⟨none,0,by rw [h1,h2]; rfl,by rw [h2]; exact Y5 _,by unfold maxLen; omega⟩
   ·exact ⟨_,_,h1,h2,h3⟩
  unfold maxLen at hqm;have HRK:=lh (show ∀ x∈R,x∈a.kids from fun x hx=>HPK.out x (by rw [← hR]; exact hx));have hml:R.length≤100000:=by rw [hR]; exact HPL.out
  have NRO:=NR.out;unfold Z0q at NRO;obtain ⟨m,hm⟩:=zX R.length
  rw [← hm] at hqe hml NR NRO ⊢;have HM:=lh hm;have NRO:=lh NRO;clear hm hR hq NP hfar hpl hpl0 NQ;go_wp2_with (at_builtin; go_must (refine Z4u rfl (.tmp 12) (.tmp 14) 47 rfl w.heap.size 22 i0 1 Tryz.underlying47 hi (.slice q m cq) m (R.map ATree.ptr) rfl NRO.out p3 c3 rfl ?_))
  go_loopw [5,17] (fun v i wr=>∃ (k:Nat) (v':Value),v'=v∧k≤m∧i=.int .i64 k∧Hid (Z04 wr w.heap.size v' (Z19 l0 (R.take k)))∧Hid (Z0q wr w.heap.size (.slice q m cq) R)∧Hid (Below w.heap.size w wr)) (fun _ i _=>m - (intOf i).toNat)
  case atStart=>exact ⟨0,_,rfl,Yp _,rfl,lh (by simpa [Z19] using TX.out),NR,BW⟩
  case round=>
   obtain ⟨k,v,rfl,hk,rfl,TX2,NO,HB⟩:=hrel;clear TX NR BW;by_cases hkn:k < m
   ·obtain ⟨x, hx⟩ : ∃ x, R[k]? = some x := ⟨_, Yd (by rw [← HM.out]; exact hkn)⟩
    obtain ⟨g0,hp⟩:∃ g,q=some ⟨g,0,none⟩:=by
     rcases NO.out.form with ⟨_,h2⟩ | ⟨g,cap,h1,_⟩;·rw [h2] at hx; simp at hx
     ·simp only [Value.slice.injEq] at h1; exact ⟨g,h1.1⟩
    subst hp;have cx:=NO.out.cell rfl hx;have x1:=((HT.out.bel HB.out).kid (HRK.out x (Yl hx))).c1;have HST:=lh (Z7f (l:=l0) hx);have hlm:(Z19 l0 (R.take k)).length≤300000:=by
     have h1:=Z3h l0 (R.take k);have h2:(R.take k).length≤R.length:=by rw [List.length_take]; omega
     have h3:=HM.out;have h4:=HL0.out;omega
    obtain ⟨tx,htx⟩:=zX x.text
    rw [← htx] at x1 HST;have HA:=lh (Z68 _ w.heap.size v _ tx TX2.out HB.out.size (by omega));clear hx hlm htx;go_wp2_with fail
    refine HA.out.mono ?_;rintro e w4 ⟨v4,rfl,ht4,hb4⟩;have T4:=lh ht4;have M4:=lh (NO.out.bel hb4);have B4:=lh (HB.out.trans (hb4.mono HB.out.size));clear ht4 hb4 HA;go_wp2;go_roundw
    case rel=>exact ⟨k + 1,_,rfl,by omega,by go_num,lh (by rw [HST.out]; exact T4.out),M4,B4⟩
    case measure=>simp [intOf]; omega
   ·have hk2 : k = m := by omega
    subst hk2;go_wp2;go_ret;refine ⟨_,rfl,?_,HB.out⟩;have:=TX2.out;rw [Ym (by rw [← HM.out]; exact Y5 _),HR.out,Zbi] at this;exact this
 ·rcases NQ.out.form with ⟨_, h2⟩ | ⟨g, cap3, rfl, hle3, hm3⟩;·exact absurd h2 hq
  have hpos:0 < Q.length:=List.length_pos_iff.2 hq;have NEWS:=lh (show ∀ (j:Nat) (u:Value),(Q.map ATree.ptr)[j]?=some u→w3.cell? ((⟨g,0,none⟩:Addr).add j)=some u from fun j u hu=>by
   have hadd:(⟨g,0,none⟩:Addr).add j=⟨g,j,none⟩:=by unfold Addr.add; split <;> simp_all
   rw [hadd];exact Zi NQ.out (g:=g) rfl hu)
  have hml:P.length + Q.length≤100000 + 100000:=by have:=HPL.out; have:=HQL.out; omega
  have hbs:=B3.out.size;obtain ⟨mq,hmq⟩:=zX Q.length
  rw [← hmq] at hpos hml hle3 ⊢;have HMQ:=lh hmq;clear hmq hq hfar hpl hpl0
  go_wp2_with (at_builtin; go_must (refine wpList_append_lies _ rfl (.tmp 12) (.tmp 14) 47 rfl w.heap.size 22 i0 _ 1 8 Tryz.underlying47 hi hz0 hz1 hz2 rfl (by decide) v2 P.length (P.map ATree.ptr) rfl NP.out ⟨g,0,none⟩ mq cap3 (Q.map ATree.ptr) rfl (by simp [HMQ.out]) NEWS.out (fun u hu=>by obtain ⟨z,_,rfl⟩:=List.mem_map.1 hu; rfl) (by omega) (by unfold maxLen; omega) (by omega) (by omega) w3.heap.size rfl ?_); intro gg cq w4 hown4 hgrow4 hat4 hgl4; have HG:=lh hgrow4; have HW:=lh hown4; have HGL:=lh hgl4; clear hgrow4 hown4 hat4 hgl4)
  obtain ⟨R,hR⟩:=zX (P ++ Q)
  have HR:=lh hR;have hRl:R.length=P.length + mq:=by rw [hR,Yq,HMQ.out]
  obtain ⟨m,hm⟩:=zX (P.length + mq)
  have hml2:m≤200000:=by omega
  have HM:=lh (show m=R.length by omega);have NR:=lh (show Z0q w4 w.heap.size (.slice (some ⟨gg,0,none⟩) m cq) R from by
   have h1:=HW.out;unfold Z0q;rw [hRl,hR,Yu,← hm];rw [← hm] at h1;exact h1)
  have hqe:m≤cq∧cq≤maxLen:=by
   rcases NR.out.form with ⟨h1,_⟩ | ⟨g,cap,h1,h2,h3⟩;·cases h1
   ·simp only [Value.slice.injEq] at h1;rw [h1.2.2,HM.out]; exact ⟨h2,h3⟩
  obtain ⟨hqe,hqm⟩:=hqe;unfold maxLen at hqm;have BW:=lh (B3.out.grown HG.out B3.out.size fun k hk=>(Yh NP.out k hk).1);have TX:=lh (show Z04 w4 w.heap.size v0 l0 from Zg TX.out fun k hk=>HG.out.block k (Yh TX.out k hk).2 (fun e=>HP0.out k hk e.symm));have HRK:=lh (show ∀ x∈R,x∈a.kids from fun x hx=>by
   rw [hR] at hx;rcases List.mem_append.1 hx with h | h;·exact HPK.out x h
   ·exact HQK.out x h)
  rw [← hm];have hmi:((P.length:Int) + (mq:Int))=(m:Int):=by omega
  rw [hmi];obtain ⟨q,hq⟩:∃ q:Option Addr,q=some ⟨gg,0,none⟩:=⟨_,rfl⟩
  rw [← hq] at NR ⊢;clear hm hR hRl NP NQ HW HG hq hml NEWS hmi;go_loopw [5,17] (fun v i wr=>∃ (k:Nat) (v':Value),v'=v∧k≤m∧i=.int .i64 k∧Hid (Z04 wr w.heap.size v' (Z19 l0 (R.take k)))∧Hid (Z0q wr w.heap.size (.slice q m cq) R)∧Hid (Below w.heap.size w wr)) (fun _ i _=>m - (intOf i).toNat)
  case atStart=>exact ⟨0,_,rfl,Yp _,rfl,lh (by simpa [Z19] using TX.out),NR,BW⟩
  case round=>
   obtain ⟨k,v,rfl,hk,rfl,TX2,NO,HB⟩:=hrel;clear TX NR BW;by_cases hkn:k < m
   ·obtain ⟨x, hx⟩ : ∃ x, R[k]? = some x := ⟨_, Yd (by rw [← HM.out]; exact hkn)⟩
    obtain ⟨g0,hp⟩:∃ g,q=some ⟨g,0,none⟩:=by
     rcases NO.out.form with ⟨_,h2⟩ | ⟨g,cap,h1,_⟩;·rw [h2] at hx; simp at hx
     ·simp only [Value.slice.injEq] at h1; exact ⟨g,h1.1⟩
    subst hp;have cx:=NO.out.cell rfl hx;have x1:=((HT.out.bel HB.out).kid (HRK.out x (Yl hx))).c1;have HST:=lh (Z7f (l:=l0) hx);have hlm:(Z19 l0 (R.take k)).length≤300000:=by
     have h1:=Z3h l0 (R.take k);have h2:(R.take k).length≤R.length:=by rw [List.length_take]; omega
     have h3:=HM.out;have h4:=HL0.out;omega
    obtain ⟨tx,htx⟩:=zX x.text
    rw [← htx] at x1 HST;have HA:=lh (Z68 _ w.heap.size v _ tx TX2.out HB.out.size (by omega));clear hx hlm htx;go_wp2_with fail
    refine HA.out.mono ?_;rintro e w4 ⟨v4,rfl,ht4,hb4⟩;have T4:=lh ht4;have M4:=lh (NO.out.bel hb4);have B4:=lh (HB.out.trans (hb4.mono HB.out.size));clear ht4 hb4 HA;go_wp2;go_roundw
    case rel=>exact ⟨k + 1,_,rfl,by omega,by go_num,lh (by rw [HST.out]; exact T4.out),M4,B4⟩
    case measure=>simp [intOf]; omega
   ·have hk2 : k = m := by omega
    subst hk2;go_wp2;go_ret;refine ⟨_,rfl,?_,HB.out⟩;have:=TX2.out;rw [Ym (by rw [← HM.out]; exact Y5 _),HR.out,Zbi] at this;exact this
theorem TreeAt.two {w:World} {B:Nat} {x p b:ATree} (h:TreeAt w B x) (hk:x.kids=[p,b]):∃ g cp,w.cell? ⟨x.b,3,none⟩=some (.slice (some ⟨g,0,none⟩) 2 cp)∧w.cell? ⟨g,0,none⟩=some (.pointer (some ⟨p.b,0,none⟩))∧w.cell? ⟨g,1,none⟩=some (.pointer (some ⟨b.b,0,none⟩))∧2≤cp∧TreeAt w B p∧TreeAt w B b:=by
 have h3:=h.c3;have hr:Z0q w B x.v x.kids:=h.rowOf;rw [hk] at hr;rcases hr.form with ⟨_,h2⟩ | ⟨g,cap,h1,h2,_⟩;·cases h2
 ·rw [h1] at h3;exact ⟨g,cap,h3,hr.cell (b:=g) (by rw [h1]; rfl) (j:=0) rfl,hr.cell (b:=g) (by rw [h1]; rfl) (j:=1) rfl,h2,h.kid (by rw [hk]; simp),h.kid (by rw [hk]; simp)⟩
theorem Zil {x p b:ATree} (hk:x.kids=[p,b]):p.many + b.many < x.many:=by
 obtain ⟨bb,v,k,t,n,ks⟩:=x;simp only [ATree.kids] at hk;subst hk;simp only [ATree.many,Z1q];omega
theorem Zd0 (w:World) (B0:Nat) (x p b:ATree) (hT:TreeAt w B0 x) (hk:x.kids=[p,b]) (hmx:x.many≤100000) :
 Calls Tryz.prog 22 #[x.ptr] w fun e w'=>∃ v,e=.returned v∧Z04 w' w.heap.size v (Z19 [] p.kids)∧Below w.heap.size w w':=by
 obtain ⟨g,cp,c3,c4,c5,hcp,hP,hB⟩:=hT.two hk;have hmp:p.kids.length≤100000:=by have h1:=Zil hk; have h2:=Z35 p; omega
 have p3:=hP.c3;have hR:Z0q w B0 p.v p.kids:=hP.rowOf;obtain ⟨q,cq,hv,hqe,hqm⟩:=hP.vOf;rw [hv] at p3 hR;have HR:=lh hR;have HP:=lh hP;obtain ⟨m,hm⟩:=zX p.kids.length
 rw [← hm] at p3 HR hqe hmp;have HM:=lh hm;unfold maxLen at hqm;unfold ATree.ptr;clear hP hB hR hv hm hT hk hmx c5;go_enter Tryz.func22,Tryz.ntmps22
 go_wp2_with fail
 go_loopw [3,16] (fun v i wr=>∃ (k:Nat) (v':Value),v'=v∧k≤m∧i=.int .i64 k∧Hid (Z04 wr w.heap.size v' (Z19 [] (p.kids.take k)))∧Hid (Below w.heap.size w wr)) (fun _ i _=>m - (intOf i).toNat)
 case atStart=>exact ⟨0,_,rfl,Yp _,rfl,lh (Z04.nil _ _),lh (Y8 _ _)⟩
 case round=>
  obtain ⟨k,v,rfl,hk,rfl,TX,HB⟩:=hrel;by_cases hkn:k < m
  ·obtain ⟨x, hx⟩ : ∃ x, p.kids[k]? = some x := ⟨_, Yd (by rw [← HM.out]; exact hkn)⟩
   have NO:=HR.out.bel HB.out;obtain ⟨g0,hp⟩:∃ g,q=some ⟨g,0,none⟩:=by
    rcases NO.form with ⟨_,h2⟩ | ⟨g,cap,h1,_⟩;·rw [h2] at hx; simp at hx
    ·simp only [Value.slice.injEq] at h1; exact ⟨g,h1.1⟩
   subst hp;have cx:=NO.cell rfl hx;have x1:=((HP.out.bel HB.out).kid (Yl hx)).c1;have HST:=lh (Z7f (l:=[]) hx);have hlm:(Z19 [] (p.kids.take k)).length < 1099511627776:=by
    have h1:=Z3h [] (p.kids.take k);have h2:(p.kids.take k).length≤p.kids.length:=by rw [List.length_take]; omega
    have h3:=HM.out;simp only [List.length_nil] at h1;omega
   have HA:=lh (Z68 wr w.heap.size v _ x.text TX.out HB.out.size hlm);clear NO hx hlm c3 c4 p3;go_wp2_with fail
   refine HA.out.mono ?_;rintro e w1 ⟨v1,rfl,ht,hb⟩;rw [← HST.out] at ht;have TX1:=lh ht;have HB1:=lh (HB.out.trans (hb.mono HB.out.size));clear ht hb HA;go_wp2;go_roundw
   case rel=>exact ⟨k + 1,_,rfl,by omega,by go_num,TX1,HB1⟩
   case measure=>simp [intOf]; omega
  ·have hk2 : k = m := by omega
   subst hk2;have hend:=TX.out;rw [Ym (by rw [← HM.out]; exact Y5 _)] at hend;have TE:=lh hend;clear hend TX c3 c4 p3;go_wp2;go_ret;exact ⟨_,rfl,TE.out,HB.out⟩
theorem Za3 {text:ByteArray} {t:Tree} (h:Z0g text=.ok t):WT t:=by
 unfold Z0g at h;split at h;·cases h
 ·split at h;·cases h
  ·rename_i ts _;split at h;·cases h
   ·cases h
   ·rename_i t' ts' hp;split at h;·cases h
    ·have e : t' = t := by simpa using h
     subst e;exact Zdc _ _ _ _ (show Job.good (.stmts 1 []) from ⟨.inl rfl,trivial⟩) _ _ hp
theorem Ze4:∀ l:List ATree,(Z0o l).length=l.length
 | []=>rfl
 | a :: l=>by simp only [Z0o,List.length_cons,Ze4 l]
theorem Zez {α:Type} {l:List α} (h:l.length=2):∃ p q,l=[p,q]:=by
 match l,h with
 | [p,q],_=>exact ⟨p,q,rfl⟩
theorem WT.two {x:ATree} (h:WT x.tree) (hk:x.kind=5∨x.kind=37):∃ p q,x.kids=[p,q]:=by
 obtain ⟨b,v,k,t,n,ks⟩:=x;simp only [ATree.tree] at h;have h1:=h.1.two (by simp only [ATree.kind] at hk; omega);exact Zez (by rw [← h1,Ze4]; rfl)
mutual
theorem Zk5:∀ (a:ATree),WT a.tree→∀ x∈a.subs,WT x.tree
 | .mk b v k t n ks, h, x, hx => by
   simp only [ATree.subs,List.mem_cons] at hx;rcases hx with rfl | hx;·exact h
   ·exact Zgi ks (by simp only [ATree.tree] at h; exact h.2) x hx
theorem Zgi:∀ (l:List ATree),WTL (Z0o l)→∀ x∈Z1r l,WT x.tree
 | [],_,x,hx=>by simp [Z1r] at hx
 | c :: l, h, x, hx => by
   simp only [Z0o] at h;simp only [Z1r,List.mem_append] at hx;rcases hx with hx | hx;·exact Zk5 c h.1 x hx
   ·exact Zgi l h.2 x hx
end
theorem Ze6 {x y:ATree} (h:WT x.tree) (hy:y∈x.kids):WT y.tree:=Zk5 x h y (by
 rw [Z9h];refine List.mem_cons_of_mem _ ?_;obtain ⟨i,hi⟩:=List.getElem?_of_mem hy;rw [Zk2 hi,Z9h y];simp)
end Go.Proofs.YtajomcjaljakhaaGreatDoor
namespace Go.Proofs.YtajomcjaljakhaaGreatDoor
open Go Go.RowKit Go.ChangeMaps Go.MapKept
set_option maxRecDepth 100000
set_option maxHeartbeats 20000000
set_option linter.unusedVariables false
end Go.Proofs.YtajomcjaljakhaaGreatDoor
namespace Go.Proofs.YtajomcjaljakhaaGreatDoor
open Go Go.RowKit
set_option maxRecDepth 100000
set_option maxHeartbeats 20000000
set_option linter.unusedVariables false
theorem Z9a (w:World) (B:Nat) (a:ATree) (hT:TreeAt w B a) :
 Calls Tryz.prog 19 #[a.ptr] w fun e w'=>e=.returned (.bool (Zp a.text Z03))∧w'=w:=by
 have c1:=hT.c1;unfold ATree.ptr;obtain ⟨tx,htx⟩:=zX a.text
 rw [← htx] at c1 ⊢;clear htx hT;by_cases hs:tx=Z03
 ·subst hs;have hss : Zp Z03 Z03 = true := by simp [Zp]
  rw [hss];unfold Z03 at c1;go_enter Tryz.func19,Tryz.ntmps19
  go_wp2;go_ret;exact ⟨rfl,rfl⟩
 ·have hne1 : Zp tx Z03 = false := by simp [Zp, hs]
  rw [hne1];have hne2:(tx.toList == Z03.toList)=false:=by rw [Z1w]; exact hne1
  have hne3:(tx.toList == [115,116,114,105,99,116])=false:=by
   have:Z03.toList=[115,116,114,105,99,116]:=by kernel_rfl
   rwa [this] at hne2
  clear hne1 hne2 hs;go_enter Tryz.func19,Tryz.ntmps19
  go_wp2;go_ret;exact ⟨rfl,rfl⟩
def FAr (k:Int) (l:List Tree):Prop:=k=5∨k=37→∃ p b,l=[p,b]∧b.kind=6
theorem FAr.any {k:Int} {l:List Tree} (h:k≠5∧k≠37):FAr k l:=fun h'=>by omega
mutual
def FT:Tree→Prop
 | .mk k _ _ l=>FAr k l∧FTL l
def FTL:List Tree→Prop
 | []=>True
 | t :: l=>FT t∧FTL l
end
theorem Z9q {l m:List Tree} (h:FTL l) (g:FTL m):FTL (l ++ m):=by
 induction l with
 | nil=>exact g
 | cons x l ih=>exact ⟨h.1,ih h.2⟩
theorem FT.kids {t:Tree} (h:FT t):FTL t.kids:=by cases t; exact h.2
theorem FT.leaf {k:Int} {s:ByteArray} {n:Int} (h:k≠5∧k≠37):FT (.mk k s n []):=⟨FAr.any h,trivial⟩
def Fh (P:Tree→Prop) (p:PR):Prop:=∀ t ts,p=some (.ok (t,ts))→P t
theorem Fh.fail {P:Tree→Prop} {e:Int} {ts:List Tok}:Fh P (Z2j e ts):=by intro t ts' h; cases h
theorem Fh.none {P:Tree→Prop}:Fh P none:=by intro t ts' h; cases h
theorem Fh.err {P:Tree→Prop} {e:Int×Nat}:Fh P (some (.error e)):=by intro t ts' h; cases h
theorem Fh.ok {P:Tree→Prop} {t:Tree} {ts:List Tok} (h:P t):Fh P (okT t ts):=by
 intro t' ts' h';simp only [okT,Option.some.injEq,Except.ok.injEq,Prod.mk.injEq] at h';rw [← h'.1]; exact h
theorem Fh.bind {P Q:Tree→Prop} {p:PR} {k:Tree→List Tok→PR} (hp:Fh P p) (hk:∀ t ts,P t→Fh Q (k t ts)):Fh Q (Zw p k):=by
 cases p with
 | none=>exact Fh.none
 | some r =>
   cases r with
   | error e=>exact Fh.err
   | ok x=>obtain ⟨t,ts⟩:=x; exact hk t ts (hp t ts rfl)
theorem Fh.want {P:Tree→Prop} {s:ByteArray} {ts:List Tok} {k:List Tok→PR} (hk:Fh P (k ts.tail)):Fh P (Z0s s ts k):=by
 unfold Z0s;by_cases h:isT s ts=true;·rw [Yb h]; exact hk
 ·rw [Y9 h]; exact Fh.fail
theorem Fh.name {P:Tree→Prop} {ts:List Tok} {k:ByteArray→List Tok→PR} (hk:∀ s,Fh P (k s ts.tail)):Fh P (Z3a ts k):=by
 unfold Z3a;by_cases h:(hdT ts).kind=1;·rw [Yb h]; exact hk _
 ·rw [Y9 h]; exact Fh.fail
theorem Fh.within {P:Tree→Prop} {d:Nat} {ts:List Tok} {p:PR} (h:Fh P p):Fh P (Z0l d ts p):=by
 unfold Z0l;by_cases h':30 < d + 1;·rw [Yb h']; exact Fh.fail
 ·rw [Y9 h']; exact h
theorem Fh.ite {P:Tree→Prop} {c:Prop} [Decidable c] {p q:PR} (hp:c→Fh P p) (hq:¬ c→Fh P q):Fh P (if c then p else q):=by
 by_cases h:c;·rw [Yb h]; exact hp h
 ·rw [Y9 h]; exact hq h
theorem Fh.comma {P:Tree→Prop} {c:Prop} [Decidable c] {ts:List Tok} {k:List Tok→PR} (hk:∀ ts',Fh P (k ts')):Fh P ((if c then Z0s Z0n ts else fun k=>k ts) k):=by
 by_cases h:c;·rw [Yb h]; exact Fh.want (hk _)
 ·rw [Y9 h]; exact hk _
theorem Fh.end' {P:Tree→Prop} {t:Tree} {ts:List Tok} (h:P t):Fh P (endT t ts):=Fh.want (Fh.ok h)
theorem Fh.weak {P Q:Tree→Prop} {p:PR} (h:Fh P p) (g:∀ t,P t→Q t):Fh Q p:=fun t ts e=>g t (h t ts e)
def Job.res:Job→Tree→Prop
 | .stmts kind _=>fun t=>FT t∧t.kind=kind
 | .block _=>fun t=>FT t∧t.kind=6
 | _=>FT
def Job.goodX:Job→Prop
 | .stmts kind acc=>(kind=1∨kind=6)∧FTL acc
 | .func kind _=>kind=5∨kind=37
 | .params acc=>FTL acc
 | .decl kind _=>kind=2∨kind=3∨kind=4
 | .binLoop _ x=>FT x
 | .postLoop x=>FT x
 | .args acc=>FTL acc∧acc≠[]
 | .object acc=>FTL acc
 | _=>True
theorem Zhz (lv:Nat) (ts:List Tok):Z1j lv ts=0∨(25≤Z1j lv ts∧Z1j lv ts≤31):=by
 unfold Z1j;split <;> (try split) <;> (try split) <;> omega
theorem Zho (ts:List Tok):Z2m ts=0∨(32≤Z2m ts∧Z2m ts≤34):=by
 unfold Z2m;split <;> (try split) <;> (try split) <;> omega
theorem Zgr (ts:List Tok):Z2z ts=0∨(19≤Z2z ts∧Z2z ts≤22):=by
 unfold Z2z;split <;> (try split) <;> (try split) <;> (try split) <;> omega
theorem Zbk {k:Int} {s:ByteArray} {n:Int} {x y:Tree} (hx:FT x) (hy:FT y) (h:k≠5∧k≠37):FT (.mk k s n [x,y]):=⟨FAr.any h,hx,hy,trivial⟩
theorem Z78 {k:Int} {s:ByteArray} {n:Int} {x:Tree} (hx:FT x) (h:k≠5∧k≠37):FT (.mk k s n [x]):=⟨FAr.any h,hx,trivial⟩
theorem Z7o {k:Int} {s:ByteArray} {n:Int} {l:List Tree} (hx:FTL l) (h:k≠5∧k≠37):FT (.mk k s n l):=⟨FAr.any h,hx⟩
theorem Zcs:∀ (f:Nat) (job:Job) (d:Nat) (ts:List Tok),job.goodX→Fh job.res (Z3 f job d ts):=by
 intro f;induction f with
 | zero=>intro job d ts _; unfold Z3; exact Fh.none
 | succ f ih =>
   intro job d ts hg;cases job with
   | stmts kind acc =>
     unfold Z3;show Fh (fun t=>FT t∧t.kind=kind) _;refine Fh.ite (fun _=>Fh.ok ⟨Z7o hg.2 (by have:=hg.1; omega),rfl⟩) fun _=>?_;exact Fh.bind (Fh.within (ih .stmt _ _ trivial)) fun t ts' h=>ih _ _ _ ⟨hg.1,Z9q hg.2 ⟨h,trivial⟩⟩
   | block body =>
     unfold Z3;refine Fh.want (Fh.bind (ih (.stmts 6 []) _ _ ⟨.inr rfl,trivial⟩) fun t ts' h'=>Fh.want (Fh.ok ?_));show FT _∧_;by_cases hb:body=true;·rw [Yb hb]; exact h'
     ·rw [Y9 hb]; exact ⟨Z7o h'.1.kids (by omega),rfl⟩
   | func kind text =>
     unfold Z3;show Fh FT _;exact Fh.want (Fh.bind (ih (.params []) _ _ trivial) fun t ts' h'=>Fh.want (Fh.bind (ih (.block true) _ _ trivial) fun t ts' h3=>Fh.ok ⟨fun _=>⟨_,_,rfl,h3.2⟩,h',h3.1,trivial⟩))
   | params acc =>
     unfold Z3;show Fh FT _;refine Fh.ite (fun _=>Fh.ok (Z7o hg (by omega))) fun _=>?_;exact Fh.comma fun ts'=>Fh.ite (fun _=>Fh.fail) fun _=>Fh.name fun s=>ih _ _ _ (Z9q hg ⟨FT.leaf (by omega),trivial⟩)
   | around =>
     unfold Z3;show Fh FT _;exact Fh.want (Fh.bind (ih .value _ _ trivial) fun t ts' h'=>Fh.want (Fh.ok h'))
   | stmt =>
     unfold Z3;show Fh FT _;refine Fh.ite (fun h=>(ih (.block false) _ _ trivial).weak fun _ h=>h.1) fun _=>?_;refine Fh.ite (fun h=>Fh.ok (FT.leaf (by omega))) fun _=>?_;refine Fh.ite (fun h=>Fh.bind (ih (.decl 2 false) _ _ (.inl rfl)) fun t us h2=>Fh.end' h2) fun _=>?_;refine Fh.ite (fun h=>Fh.bind (ih (.decl 3 false) _ _ (.inr (.inl rfl))) fun t us h2=>Fh.end' h2) fun _=>?_;refine Fh.ite (fun h=>Fh.bind (ih (.decl 4 true) _ _ (.inr (.inr rfl))) fun t us h2=>Fh.end' h2) fun _=>?_;refine Fh.ite (fun h=>Fh.name fun s=>ih _ _ _ (.inl rfl)) fun _=>?_
     refine Fh.ite (fun h=>Fh.bind (ih .around _ _ trivial) fun x us h2=>Fh.bind (Fh.within (ih .stmt _ _ trivial)) fun y vs h3=>Fh.ite (fun h4=>Fh.bind (Fh.within (ih .stmt _ _ trivial)) fun z xs h5=>Fh.ok ⟨FAr.any (by omega),h2,h3,h5,trivial⟩) fun _=>Fh.ok (Zbk h2 h3 (by omega))) fun _=>?_;refine Fh.ite (fun h=>Fh.bind (ih .around _ _ trivial) fun t us h2=>Fh.bind (Fh.within (ih .stmt _ _ trivial)) fun t vs h3=>Fh.ok (Zbk h2 h3 (by omega))) fun _=>?_
     refine Fh.ite (fun h=>Fh.bind (ih .around _ _ trivial) fun t us h2=>Fh.bind (Fh.within (ih .stmt _ _ trivial)) fun t vs h3=>Fh.ok (Zbk h2 h3 (by omega))) fun _=>?_;refine Fh.ite (fun h=>Fh.ite (fun h1=>Fh.end' (FT.leaf (by omega))) (fun _=>Fh.bind (ih .value _ _ trivial) fun t us h2=>Fh.end' (Z78 h2 (by omega)))) fun _=>?_;refine Fh.ite (fun h=>Fh.bind (ih .value _ _ trivial) fun t us h2=>Fh.end' (Z78 h2 (by omega))) fun _=>?_;refine Fh.ite (fun h=>ih _ _ _ trivial) fun _=>?_;exact Fh.bind (ih .value _ _ trivial) fun t us h2=>Fh.end' (Z78 h2 (by omega))
   | decl kind must =>
     have hk:kind=2∨kind=3∨kind=4:=hg;unfold Z3;show Fh FT _;exact Fh.name fun s=>Fh.ite (fun _=>Fh.fail) fun _=>Fh.ite (fun h2=>Fh.bind (ih .value _ _ trivial) fun t us h3=>Fh.ok (Z78 h3 (by omega))) fun _=>Fh.ok (FT.leaf (by omega))
   | try_ =>
     unfold Z3;show Fh FT _;refine Fh.bind (ih (.block false) _ _ trivial) fun b us h=>?_;have hk:∀ (l:List Tree) (vs:List Tok),FTL l→Fh FT (if isT Zx vs then Zw (Z3 f (.block false) d vs.tail) fun c ts=>okT (.mk 12 ByteArray.empty 0 (l ++ [.mk 14 ByteArray.empty 0 [c]])) ts else if l.length=1 then Z2j 3 vs else okT (.mk 12 ByteArray.empty 0 l) vs):=by
      intro l vs h2;exact Fh.ite (fun _=>Fh.bind (ih (.block false) _ _ trivial) fun t xs h3=>Fh.ok (Z7o (Z9q h2 ⟨Z78 h3.1 (by omega),trivial⟩) (by omega))) fun _=>Fh.ite (fun _=>Fh.fail) fun _=>Fh.ok (Z7o h2 (by omega))
     refine Fh.ite (fun h1=>?_) fun _=>hk _ _ ⟨h.1,trivial⟩;exact Fh.want (Fh.name fun s=>Fh.want (Fh.bind (ih (.block false) _ _ trivial) fun c vs h5=>hk _ _ ⟨h.1,Z78 h5.1 (by omega),trivial⟩))
   | value=>unfold Z3; exact Fh.within (ih _ _ _ trivial)
   | assign =>
     unfold Z3;show Fh FT _;exact Fh.bind (ih (.bin 0) _ _ trivial) fun x us h=>Fh.ite (fun h1=>Fh.ite (fun _=>Fh.bind (ih .value _ _ trivial) fun y vs h2=>Fh.ok (Zbk h h2 (by omega))) fun _=>Fh.err) fun _=>Fh.ok h
   | bin level =>
     unfold Z3;show Fh FT _;exact Fh.ite (fun _=>ih _ _ _ trivial) fun _=>Fh.bind (ih (.bin (level + 1)) _ _ trivial) fun x us h=>ih _ _ _ h
   | binLoop level x =>
     unfold Z3;show Fh FT _;exact Fh.ite (fun _=>Fh.ok hg) fun h0=>Fh.bind (ih (.bin (level + 1)) _ _ trivial) fun y us h=>ih _ _ _ (show Job.goodX (.binLoop level (.mk (Z1j level ts) ByteArray.empty 0 [x,y])) from Zbk (s:=ByteArray.empty) (n:=0) hg h (by have:=Zhz level ts; omega))
   | unary =>
     unfold Z3;show Fh FT _;exact Fh.ite (fun _=>ih _ _ _ trivial) fun h0=>Fh.bind (Fh.within (ih .unary _ _ trivial)) fun x us h=>Fh.ok (Z78 h (by have:=Zho ts; omega))
   | postfix_ =>
     unfold Z3;show Fh FT _;exact Fh.bind (ih .primary _ _ trivial) fun x us h=>ih _ _ _ h
   | postLoop x =>
     unfold Z3;show Fh FT _;exact Fh.ite (fun _=>Fh.name fun s=>ih _ _ _ (show Job.goodX (.postLoop (.mk 36 s 0 [x])) from Z78 (s:=s) (n:=0) hg (by omega))) fun _=>Fh.ite (fun _=>Fh.bind (ih (.args [x]) _ _ ⟨⟨hg,trivial⟩,by simp⟩) fun n us h=>ih _ _ _ h) fun _=>Fh.ok hg
   | args acc =>
     unfold Z3;show Fh FT _;refine Fh.ite (fun _=>Fh.ok ⟨FAr.any (by omega),hg.1⟩) fun _=>?_;exact Fh.comma fun ts'=>Fh.ite (fun _=>Fh.fail) fun _=>Fh.bind (ih .value _ _ trivial) fun v us h=>ih _ _ _ ⟨Z9q hg.1 ⟨h,trivial⟩,by simp⟩
   | primary =>
     unfold Z3;show Fh FT _;refine Fh.ite (fun h=>Fh.ok (FT.leaf (by omega))) fun _=>?_;refine Fh.ite (fun h=>Fh.ok (FT.leaf (by omega))) fun _=>?_;refine Fh.ite (fun h=>Fh.ok (FT.leaf (by omega))) fun _=>?_;refine Fh.ite (fun h=>Fh.ok (FT.leaf (by have:=Zgr ts; omega))) fun _=>?_;refine Fh.ite (fun h=>ih _ _ _ trivial) fun _=>?_;refine Fh.ite (fun h=>Fh.ite (fun _=>ih _ _ _ (.inr rfl)) fun _=>ih _ _ _ (.inr rfl)) fun _=>?_;exact Fh.ite (fun h=>ih _ _ _ trivial) fun _=>Fh.fail
   | object acc =>
     unfold Z3;show Fh FT _;refine Fh.ite (fun _=>Fh.ok (Z7o hg (by omega))) fun _=>?_;exact Fh.comma fun ts'=>Fh.ite (fun _=>Fh.fail) fun _=>Fh.name fun s=>Fh.want (Fh.bind (ih .value _ _ trivial) fun v us h=>ih _ _ _ (Z9q hg ⟨Z78 h (by omega),trivial⟩))
theorem Z9z {text:ByteArray} {t:Tree} (h:Z0g text=.ok t):FT t∧t.kind=1:=by
 unfold Z0g at h;split at h;·cases h
 ·split at h;·cases h
  ·rename_i ts _;split at h;·cases h
   ·cases h
   ·rename_i t' ts' hp;split at h;·cases h
    ·have e : t' = t := by simpa using h
     subst e;exact Zcs _ _ _ _ (show Job.goodX (.stmts 1 []) from ⟨.inl rfl,trivial⟩) _ _ hp
theorem Z5h (w:World) (st:Bool) (s:ByteArray) :
 Calls Tryz.prog 16 #[.string s,.bool st] w fun e w'=>e=.returned (.bool (Z0x st s))∧w'=w:=by
 unfold Z0x;cases st
 ·go_enter Tryz.func16, Tryz.ntmps16
  go_wp2;go_ret;exact ⟨rfl,rfl⟩
 ·by_cases h1 : s = Z45
  ·subst h1;rw [show Zp Z45 Z45 = true by simp [Zp]];unfold Z45;go_enter Tryz.func16, Tryz.ntmps16
   go_wp2;go_ret;exact ⟨rfl,rfl⟩
  ·have n1 := Ze0 Zci h1;rw [show Zp s Z45 = false by simp [Zp, h1]];clear h1;by_cases h2 : s = Z1f
   ·subst h2;rw [show Zp Z1f Z1f = true by simp [Zp]];unfold Z1f;clear n1;go_enter Tryz.func16, Tryz.ntmps16
    go_wp2;go_ret;exact ⟨rfl,rfl⟩
   ·have n2 := Ze0 Z6f h2;rw [show Zp s Z1f = false by simp [Zp, h2]];clear h2;go_enter Tryz.func16, Tryz.ntmps16
    go_wp2;go_ret;exact ⟨rfl,rfl⟩
structure EAt (w:World) (sb kb ab:Nat):Prop where
 s:w.heap[sb]?=some (.cells #[.func (.func 16) #[] #[]] 46 (0,0))
 k:w.heap[kb]?=some (.cells #[.func (.func 18) #[] #[.pointer (some ⟨sb,0,none⟩),.pointer (some ⟨ab,0,none⟩)]] 30 (0,0))
 a:w.heap[ab]?=some (.cells #[.func (.func 17) #[] #[.pointer (some ⟨kb,0,none⟩)]] 48 (0,0))
theorem EAt.bel {w w':World} {sb kb ab:Nat} (h:EAt w sb kb ab) (g:Below w.heap.size w w'):EAt w' sb kb ab:=
 ⟨(g.block sb (Y6.1 h.s).1).trans h.s,(g.block kb (Y6.1 h.k).1).trans h.k,(g.block ab (Y6.1 h.a).1).trans h.a⟩
theorem EAt.cells {w:World} {sb kb ab:Nat} (h:EAt w sb kb ab):w.cell? ⟨sb,0,none⟩=some (.func (.func 16) #[] #[]) ∧
 w.cell? ⟨kb,0,none⟩=some (.func (.func 18) #[] #[.pointer (some ⟨sb,0,none⟩),.pointer (some ⟨ab,0,none⟩)]) ∧
 w.cell? ⟨ab,0,none⟩=some (.func (.func 17) #[] #[.pointer (some ⟨kb,0,none⟩)]):=by
 have h1:=h.s;have h2:=h.k;have h3:=h.a;simp [World.cell?,h1,h2,h3]
def Zll (sb kb ab B m:Nat):Prop:=
 ∀ (a : ATree) (w : World) (st ins : Bool), a.many ≤ m → a.many ≤ 100000 → WT a.tree → FT a.tree → TreeAt w B a → EAt w sb kb ab →
   Calls Tryz.prog 18 #[a.ptr,.bool st,.bool ins,.pointer (some ⟨sb,0,none⟩),.pointer (some ⟨ab,0,none⟩)] w fun e w'=>e=.returned (.int .i64 (Z0p a st ins))∧Below w.heap.size w w'
def Z8c (sb kb ab B m:Nat):Prop:=
 ∀ (a : ATree) (w : World) (st ins : Bool) (p : Option Addr) (cp : Nat), a.many ≤ m + 1 → a.many ≤ 100000 → (∀ k ∈ a.kids, WT k.tree ∧ FT k.tree) → TreeAt w B a → a.v = .slice p a.kids.length cp → EAt w sb kb ab →
   Calls Tryz.prog 17 #[.slice p a.kids.length cp,.bool st,.bool ins,.pointer (some ⟨kb,0,none⟩)] w fun e w'=>e=.returned (.int .i64 (Z1c a.kids st ins))∧Below w.heap.size w w'
theorem Zei {sb kb ab B m:Nat} (hN:Zll sb kb ab B m):Z8c sb kb ab B m:=by
 intro a w st ins p cp hm hmx hA hT hv hE;have hlen:a.kids.length≤9223372036854775807:=by have:=Z35 a; omega
 have HN:=lh (fun (x:ATree) (hx:x∈a.kids) (W:World) (h:TreeAt W B x) (g:EAt W sb kb ab)=>hN x W st ins (by have:=Z2l hx; omega) (by have:=Z2l hx; omega) (hA x hx).1 (hA x hx).2 h g);have HT:=lh hT;have HV:=lh hv;have HE:=lh hE;have hge:a.kids.length≤cp:=by
  rcases hT.vOf with ⟨p',cp',h1,h2,h3⟩;rw [hv] at h1;simp only [Value.slice.injEq] at h1;omega
 obtain ⟨n,hnn⟩:=zX a.kids.length
 rw [← hnn] at hlen hge ⊢;have HNN:=lh hnn;obtain ⟨R,hR⟩:=zX (Z1c a.kids st ins)
 rw [← hR];have HR:=lh hR;clear hN hA hT hm hmx hv hnn hR hE;go_enter Tryz.func17,Tryz.ntmps17
 go_wp2_with fail
 go_loopw [13] (fun i wr=>∃ (k:Nat),k≤n∧i=.int .i64 k∧Hid (Below w.heap.size w wr)∧Hid (Z1c (a.kids.drop k) st ins=R)) (fun i _=>n - (intOf i).toNat)
 case atStart=>exact ⟨0,Yp _,rfl,lh (Y8 _ _),lh HR.out.symm⟩
 case round=>
  obtain ⟨k,hk,rfl,HB,HRR⟩:=hrel;obtain ⟨_,e1,_⟩:=(HE.out.bel HB.out).cells;by_cases hkn:k < n
  ·obtain ⟨x, hx⟩ : ∃ x, a.kids[k]? = some x := ⟨_, Yd (by rw [← HNN.out]; exact hkn)⟩
   have hT2:TreeAt wr B a:=HT.out.bel HB.out;have hrow:=hT2.rowOf;rcases Zb hrow with ⟨_,h2⟩ | ⟨g0,cap0,hv0,_⟩;·rw [← HNN.out] at h2; omega
   have hp:p=some ⟨g0,0,none⟩:=by
    have:=HV.out.symm.trans hv0;simp only [Value.slice.injEq] at this;exact this.1
   subst hp;have cx:=Zi hrow (g:=g0) (by rw [hv0]; rfl) (i:=k) (x:=x.ptr) (by rw [Yo,hx]; rfl);have hmem:x∈a.kids:=Yl hx;have hcall:=HN.out x hmem wr (hT2.kid hmem) (HE.out.bel HB.out);have hstep:=Zao (st:=st) (ins:=ins) hx;rw [HRR.out] at hstep;obtain ⟨r,hr⟩:=zX (Z0p x st ins)
   rw [← hr] at hcall hstep;unfold ATree.ptr at cx hcall;have HCALL:=lh hcall;have STEP:=lh hstep;clear hT2 hrow hv0 hx hcall hmem hstep hr;go_wp2_with fail
   refine HCALL.out.mono ?_;rintro e w2 ⟨rfl,hb2⟩;have HB2:=lh (HB.out.trans (hb2.mono HB.out.size));clear hb2 HCALL;by_cases hz:r=0
   ·subst hz;go_wp2;go_roundw
    case rel=>
     have h1:=STEP.out;simp only [ne_eq,not_true_eq_false,if_false] at h1;exact ⟨k + 1,by omega,by go_num,HB2,lh h1.symm⟩
    case measure=>simp [intOf]; omega
   ·have n0 : (r != 0) = true := by simpa using hz
    have HZ:=lh hz;clear hz;go_wp2;go_ret;refine ⟨?_,HB2.out⟩;have h1:=STEP.out;rw [Yb HZ.out] at h1;rw [h1];rfl
  ·have hk2 : k = n := by omega
   subst hk2;have hr:R=0:=by
    have h1:=HRR.out;rw [List.drop_of_length_le (by rw [← HNN.out]; exact Y5 _)] at h1;rw [← h1]; rfl
   subst hr;go_wp2;go_ret;exact ⟨rfl,HB.out⟩
theorem Ze9 {a k:ATree} (h:FT a.tree) (hk:k∈a.kids):FT k.tree:=by
 obtain ⟨b,v,kd,t,n,ks⟩:=a;simp only [ATree.tree] at h;have h2:=h.2;simp only [ATree.kids] at hk;clear h;induction ks with
 | nil=>cases hk
 | cons x l ih =>
   simp only [Z0o,FTL] at h2;rcases List.mem_cons.1 hk with rfl | hk;·exact h2.1
   ·exact ih hk h2.2
structure YIn (sb kb ab B m:Nat) (a:ATree) (w:World):Prop where
 m:a.many≤m + 1
 mx:a.many≤100000
 wt:WT a.tree
 ft:FT a.tree
 t:TreeAt w B a
 e:EAt w sb kb ab
theorem YIn.bel {sb kb ab B m:Nat} {a:ATree} {w w':World} (h:YIn sb kb ab B m a w) (g:Below w.heap.size w w'):YIn sb kb ab B m a w':=⟨h.m,h.mx,h.wt,h.ft,h.t.bel g,h.e.bel g⟩
def YC (kb sb ab b:Nat) (kd:Int) (tx:ByteArray) (p:Option Addr) (n cp:Nat) (w:World):Prop:=
 w.cell? ⟨b,0,none⟩=some (.int .i64 kd)∧w.cell? ⟨b,1,none⟩=some (.string tx)∧w.cell? ⟨b,3,none⟩=some (.slice p n cp)∧w.cell? ⟨sb,0,none⟩=some (.func (.func 16) #[] #[])∧w.cell? ⟨ab,0,none⟩=some (.func (.func 17) #[] #[.pointer (some ⟨kb,0,none⟩)])
theorem YIn.all {sb kb ab B m:Nat} {a:ATree} {w:World} (h:YIn sb kb ab B m a w):∃ p cp,a.v=.slice p a.kids.length cp∧a.kids.length≤cp∧cp≤maxLen∧YC kb sb ab a.b a.kind a.text p a.kids.length cp w:=by
 obtain ⟨p,cp,hv,h1,h2⟩:=h.t.vOf;refine ⟨p,cp,hv,h1,h2,h.t.c0,h.t.c1,by rw [← hv]; exact h.t.c3,h.e.cells.1,h.e.cells.2.2⟩
theorem YC.bel {sb kb ab B m:Nat} {a:ATree} {w w':World} {kd:Int} {tx:ByteArray} {p:Option Addr} {n cp:Nat} (h:YIn sb kb ab B m a w) (c:YC kb sb ab a.b kd tx p n cp w) (g:Below w.heap.size w w'):YC kb sb ab a.b kd tx p n cp w':=by
 have hl:=h.t.lt;have hs:=(Y6.1 h.e.s).1;have ha:=(Y6.1 h.e.a).1;obtain ⟨h0,h1,h3,h4,h5⟩:=c;exact ⟨(Yj (g.block a.b hl)).trans h0,(Yj (g.block a.b hl)).trans h1,(Yj (g.block a.b hl)).trans h3,(Yj (g.block sb hs)).trans h4,(Yj (g.block ab ha)).trans h5⟩
theorem YIn.kids {sb kb ab B m:Nat} {a:ATree} {w:World} (hK:Z8c sb kb ab B m) (h:YIn sb kb ab B m a w) {p:Option Addr} {cp:Nat} (hv:a.v=.slice p a.kids.length cp) (st ins:Bool) :
 Calls Tryz.prog 17 #[.slice p a.kids.length cp,.bool st,.bool ins,.pointer (some ⟨kb,0,none⟩)] w fun e w'=>e=.returned (.int .i64 (Z1c a.kids st ins))∧Below w.heap.size w w':=
 hK a w st ins p cp h.m h.mx (fun k hk=>⟨Ze6 h.wt hk,Ze9 h.ft hk⟩) h.t hv h.e
theorem YIn.first {sb kb ab B m:Nat} {a x:ATree} {r:List ATree} {w:World} (h:YIn sb kb ab B m a w) (hk:a.kids=x :: r) {p:Option Addr} {cp:Nat} (hv:a.v=.slice p a.kids.length cp) :
 ∃ g, p = some ⟨g, 0, none⟩ ∧ w.cell? ⟨g, 0, none⟩ = some (.pointer (some ⟨x.b, 0, none⟩)) ∧ w.cell? ⟨x.b, 0, none⟩ = some (.int .i64 x.kind) ∧ w.cell? ⟨x.b, 1, none⟩ = some (.string x.text) ∧ TreeAt w B x ∧
   ∀ j y,r[j]?=some y→w.cell? ⟨g,j + 1,none⟩=some (.pointer (some ⟨y.b,0,none⟩))∧w.cell? ⟨y.b,0,none⟩=some (.int .i64 y.kind):=by
 have hrow:=h.t.rowOf;obtain ⟨g,hp⟩:∃ g,p=some ⟨g,0,none⟩:=by
  rcases Zb hrow with ⟨_,h2⟩ | ⟨g,cap,h1,_⟩;·rw [hk] at h2; simp at h2
  ·rw [hv] at h1; simp only [Value.slice.injEq] at h1; exact ⟨g,h1.1⟩
 subst hp;have hT:=h.t.kid (k:=x) (by rw [hk]; simp);refine ⟨g,rfl,Zi hrow (g:=g) (by rw [hv]; rfl) (i:=0) (x:=x.ptr) (by rw [hk]; rfl),hT.c0,hT.c1,hT,fun j y hy=>⟨Zi hrow (g:=g) (by rw [hv]; rfl) (i:=j + 1) (x:=y.ptr) (by rw [hk,List.map_cons,List.getElem?_cons_succ,Yo,hy]; rfl),(h.t.kid (by rw [hk]; exact List.mem_cons_of_mem _ (Yl hy))).c0⟩⟩
def Z5n (sb ab:Nat) (a:ATree) (w:World) (st ins:Bool):Prop:=
 Calls Tryz.prog 18 #[a.ptr,.bool st,.bool ins,.pointer (some ⟨sb,0,none⟩),.pointer (some ⟨ab,0,none⟩)] w fun e w'=>e=.returned (.int .i64 (Z0p a st ins))∧Below w.heap.size w w'
theorem Zjn {sb kb ab B m:Nat} (hK:Z8c sb kb ab B m) (a:ATree) (w:World) (st ins:Bool) (h:YIn sb kb ab B m a w) (h2:a.kind≠2) (h3:a.kind≠3) (h4:a.kind≠4) (h13:a.kind≠13) (h5:a.kind≠5) (h37:a.kind≠37) (h6:a.kind≠6) (h7:a.kind≠7) (h8:a.kind≠8) (h9:a.kind≠9) (h10:a.kind≠10) (h24:a.kind≠24) (h34:a.kind≠34):Z5n sb ab a w st ins:=by
 have hdef:Z0p a st ins=Z1c a.kids st ins:=by
  obtain ⟨b,v,k,t,n,ks⟩:=a;simp only [ATree.kind] at h2 h3 h4 h13 h5 h37 h6 h7 h8 h9 h10 h24 h34;rw [Z0p.eq_def];simp only [h2,h3,h4,h13,h5,h37,h6,h7,h8,h9,h10,h24,h34,if_false,or_self,ATree.kids]
 unfold Z5n;obtain ⟨p,cp,hv,hge,hmx,hc⟩:=h.all;have HKI:=lh (fun W (g:Below w.heap.size w W)=>(h.bel g).kids hK hv st ins);have HC:=lh (fun W (g:Below w.heap.size w W)=>hc.bel h g);have HH:=lh h;have HV:=lh hv;obtain ⟨code,hcode⟩:=zX (Z0p a st ins)
 rw [← hcode];rw [hdef] at hcode;obtain ⟨RK,hRK⟩:=zX (Z1c a.kids st ins)
 rw [← hRK] at HKI hcode;have HCODE:=lh hcode;obtain ⟨n,hn⟩:=zX a.kids.length
 rw [← hn] at HKI HC hge HV;have HN:=lh hn;unfold maxLen at hmx;obtain ⟨tx,htx⟩:=zX a.text
 rw [← htx] at HC;try rw [← htx] at HCODE
 obtain ⟨c0,c1,c3,s0,a0⟩:=HC.out w (Y8 _ _);clear h hK hv hc hn htx hdef hcode hRK;unfold ATree.ptr;obtain ⟨kd,hkd⟩:=zX a.kind
 rw [← hkd] at c0 h2 h3 h4 h13 h5 h37 h6 h7 h8 h9 h10 h24 h34;have n2:(kd == 2)=false:=by simpa using h2
 have n3:(kd == 3)=false:=by simpa using h3
 have n4:(kd == 4)=false:=by simpa using h4
 have n13:(kd == 13)=false:=by simpa using h13
 have n5:(kd == 5)=false:=by simpa using h5
 have n37:(kd == 37)=false:=by simpa using h37
 have n6:(kd == 6)=false:=by simpa using h6
 have n7:(kd == 7)=false:=by simpa using h7
 have n8:(kd == 8)=false:=by simpa using h8
 have n9:(kd == 9)=false:=by simpa using h9
 have n10:(kd == 10)=false:=by simpa using h10
 have n24:(kd == 24)=false:=by simpa using h24
 have n34:(kd == 34)=false:=by simpa using h34
 clear hkd h2 h3 h4 h13 h5 h37 h6 h7 h8 h9 h10 h24 h34;go_enter Tryz.func18,Tryz.ntmps18
 go_wp2_with fail
 refine Z0 [(true,0),(true,1),(true,2),(true,3),(true,4),(true,5),(true,6)] [7,8] (fun W=>W.cell? ⟨ab,0,none⟩=some (.func (.func 17) #[] #[.pointer (some ⟨kb,0,none⟩)])∧W.cell? ⟨a.b,3,none⟩=some (.slice p n cp)) (by kernel_rfl) (by kernel_rfl) (fun _ _ d _ _ h=>by cases d <;> exact h) ⟨a0,c3⟩ (fun hS0=>?_);simp only [Za,zD,zE,zF,zG,zH,zI]
 iterate 7
  first
   | (refine Z1 ?_ (by rfl) (fun w' hS'=>?_) ?_; rotate_left; (obtain ⟨s0,s1⟩:=hS'; go_simp; first | done | with_reducible rfl); simp only [Act.put,zA,zB,zC])
   | (refine Z2 (by rfl) ?_; simp only [Act.put,zA,zB,zC])
 refine Z4 ?_;go_wp2_with fail
 refine (HKI.out w.drew (Y8 w.heap.size w).drew).mono ?_;rintro e w9 ⟨rfl,hb9⟩;have HB9:=lh ((Y8 w.heap.size w).drew.trans (hb9.mono (Y8 w.heap.size w).drew.size));clear hb9;go_wp2;go_ret;exact ⟨by rw [HCODE.out]; rfl,HB9.out⟩
theorem Zlp {sb kb ab B m:Nat} (hK:Z8c sb kb ab B m) (a:ATree) (w:World) (st ins:Bool) (h:YIn sb kb ab B m a w) (h1:a.kind=2∨a.kind=3∨a.kind=4):Z5n sb ab a w st ins:=by
 have hdef:Z0p a st ins=if Z0x st a.text then 5 else Z1c a.kids st ins:=by
  obtain ⟨b,v,k,t,n,ks⟩:=a;simp only [ATree.kind] at h1;rw [Z0p.eq_def];have e:k≠13:=by omega
  have e2:k=2∨k=3∨k=4∨k=13:=by omega
  simp only [];rw [Yb e2];simp only [e,false_and,if_false];rfl
 unfold Z5n;obtain ⟨p,cp,hv,hge,hmx,hc⟩:=h.all;have HKI:=lh (fun W (g:Below w.heap.size w W)=>(h.bel g).kids hK hv st ins);have HC:=lh (fun W (g:Below w.heap.size w W)=>hc.bel h g);have HH:=lh h;have HV:=lh hv;obtain ⟨code,hcode⟩:=zX (Z0p a st ins)
 rw [← hcode];rw [hdef] at hcode;obtain ⟨RK,hRK⟩:=zX (Z1c a.kids st ins)
 rw [← hRK] at HKI hcode;have HCODE:=lh hcode;obtain ⟨n,hn⟩:=zX a.kids.length
 rw [← hn] at HKI HC hge HV;have HN:=lh hn;unfold maxLen at hmx;obtain ⟨tx,htx⟩:=zX a.text
 rw [← htx] at HC;try rw [← htx] at HCODE
 obtain ⟨c0,c1,c3,s0,a0⟩:=HC.out w (Y8 _ _);clear h hK hv hc hn htx hdef hcode hRK;unfold ATree.ptr;rcases h1 with h1 | h1 | h1
 all_goals
  rw [h1] at c0;clear h1;go_enter Tryz.func18,Tryz.ntmps18
  go_wp2_with fail
  refine Z0 [(true,0),(true,1),(true,2),(true,3),(true,4),(true,5)] [6] (fun W=>W.cell? ⟨sb,0,none⟩=some (.func (.func 16) #[] #[])∧W.cell? ⟨a.b,1,none⟩=some (.string tx)) (by kernel_rfl) (by kernel_rfl) (fun _ _ d _ _ h=>by cases d <;> exact h) ⟨s0,c1⟩ (fun hS0=>?_);simp only [Za,zD,zE,zF,zG,zH,zI]
  iterate 6
   first
    | (refine Z1 ?_ (by rfl) (fun w' hS'=>?_) ?_; rotate_left; (obtain ⟨s0,s1⟩:=hS'; go_simp; first | done | with_reducible rfl); simp only [Act.put,zA,zB,zC])
    | (refine Z2 (by rfl) ?_; simp only [Act.put,zA,zB,zC])
  refine Z4 ?_;go_wp2_with fail
  refine (Z5h _ st tx).mono ?_;rintro e w2 ⟨rfl,hw2⟩;rw [hw2];clear hw2 w2;obtain ⟨bf,hbf⟩:=zX (Z0x st tx)
  rw [← hbf] at HCODE ⊢;clear hbf;cases bf;rotate_left
  ·go_wp2;go_ret;exact ⟨by rw [HCODE.out]; rfl,(Y8 w.heap.size w).drew⟩
  go_wp2_with fail
  have c1d:w.drew.cell? ⟨a.b,1,none⟩=some (.string tx):=c1;have c3d:w.drew.cell? ⟨a.b,3,none⟩=some (.slice p n cp):=c3;have a0d:w.drew.cell? ⟨ab,0,none⟩=some (.func (.func 17) #[] #[.pointer (some ⟨kb,0,none⟩)]):=a0;refine Z0 [(true,0),(true,1),(true,2),(true,3),(true,4),(true,5),(true,6)] [7,8] (fun W=>W.cell? ⟨ab,0,none⟩=some (.func (.func 17) #[] #[.pointer (some ⟨kb,0,none⟩)])∧W.cell? ⟨a.b,3,none⟩=some (.slice p n cp)) (by kernel_rfl) (by kernel_rfl) (fun _ _ d _ _ h=>by cases d <;> exact h) ⟨a0d,c3d⟩ (fun hS0=>?_)
  simp only [Za,zD,zE,zF,zG,zH,zI]
  iterate 7
   first
    | (refine Z1 ?_ (by rfl) (fun w' hS'=>?_) ?_; rotate_left; (obtain ⟨s0,s1⟩:=hS'; go_simp; first | done | with_reducible rfl); simp only [Act.put,zA,zB,zC])
    | (refine Z2 (by rfl) ?_; simp only [Act.put,zA,zB,zC])
  refine Z4 ?_;go_wp2_with fail
  refine (HKI.out w.drew.drew ((Y8 w.heap.size w).drew).drew).mono ?_;rintro e w9 ⟨rfl,hb9⟩;have HB9:=lh (((Y8 w.heap.size w).drew).drew.trans (hb9.mono ((Y8 w.heap.size w).drew).drew.size));clear hb9;go_wp2;go_ret;exact ⟨by rw [HCODE.out]; rfl,HB9.out⟩
end Go.Proofs.YtajomcjaljakhaaGreatDoor
