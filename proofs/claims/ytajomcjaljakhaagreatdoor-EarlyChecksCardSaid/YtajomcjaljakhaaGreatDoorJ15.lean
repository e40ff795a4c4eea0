/- The document's twice, walked. -/
import Derived.Test.YtajomcjaljakhaaGreatDoorJ09
import Derived.Test.YtajomcjaljakhaaGreatDoorJ14
namespace Go.Proofs.YtajomcjaljakhaaGreatDoor
open Go Go.RowKit Go.ChangeMaps Go.MapKept
set_option maxRecDepth 100000
set_option maxHeartbeats 20000000
set_option linter.unusedVariables false
theorem Zat (l:List ByteArray) (s:ByteArray):cntS l s≤l.length:=List.countP_le_length
theorem Zbq (l:List ByteArray) (s x:ByteArray):cntS (l ++ [s]) x=cntS l x + if s=x then 1 else 0:=by
 rw [Zec,Z5b];by_cases h:s=x
 ·rw [Yb (Z0z.2 h),Yb h];simp [cntS]
 ·rw [Y9 (fun e=>h (Z0z.1 e)),Y9 h];simp [cntS]
theorem Zku (A:List ByteArray) (s:ByteArray):(fun x=>Z2c A [] x + if s=x then 2 else 0)=Z2c (A ++ [s]) []:=by
 funext x
 unfold Z2c;rw [Zbq];split <;> omega
theorem Zl6 (T A:List ByteArray) (s:ByteArray):(fun x=>Z2c T A x + if s=x then 1 else 0)=Z2c T (A ++ [s]):=by
 funext x
 unfold Z2c;rw [Zbq];split <;> omega
theorem Zjk:cntV (Z2c [] [])=fun _=>none:=by
 funext x
 simp [cntV,Z2c,cntS]
theorem Zjl:hasV []=fun _=>none:=by
 funext x
 rw [hasV,Y9];rw [Lib.containsS_iff];simp
theorem Zl1 {L V F:List ByteArray} {body:Bool} {seen:List ByteArray} {k:Nat} {s:ByteArray} (h:F[k]?=some s) :
 Z4j L V body seen (F.drop k)=if Lib.containsS seen s then (if body then Z4j L V body seen (F.drop (k + 1)) else true) else if 2≤Z2c L V s∨body=false∧0 < Z2c L V s then true else Z4j L V body (seen ++ [s]) (F.drop (k + 1)):=by
 obtain ⟨hl,he⟩:=List.getElem?_eq_some_iff.1 h;rw [List.drop_eq_getElem_cons hl,he];rfl
theorem Zbr {L:List ByteArray} {k:Nat} {s:ByteArray} (h:L[k]?=some s):L.take k ++ [s]=L.take (k + 1):=by
 obtain ⟨hkl,hke⟩:=List.getElem?_eq_some_iff.1 h;rw [List.take_succ_eq_append_getElem hkl,hke]
theorem Z0q.map {w w':World} {B b:Nat} {v:Value} {L:List ATree} (h:Z0q w B v L) (hg:w.grownBy w' (some b)) (hb:b < B):Z0q w' B v L:=
 Zg h fun k hk=>hg.block k (Yh h k hk).2 fun e=>by have:=(Yh h k hk).1; cases e; omega
theorem Z04.map {w w':World} {B b:Nat} {v:Value} {L:List ByteArray} (h:Z04 w B v L) (hg:w.grownBy w' (some b)) (hb:b < B):Z04 w' B v L:=
 Zg h fun k hk=>hg.block k (Yh h k hk).2 fun e=>by have:=(Yh h k hk).1; cases e; omega
theorem Z6c {w:World} {b i:Nat} (h:i≠b) (o:Obj):(setBlock w b o).heap[i]?=w.heap[i]?:=by
 simp only [setBlock];rw [Array.getElem?_setIfInBounds_ne (Ne.symm h)]
theorem Z98 (w:World) (B:Nat) (a:ATree) (body:Bool) (hT:TreeAt w B a) (hmx:a.many≤100000) :
 Calls Tryz.prog 23 #[a.ptr,.bool body] w fun e w'=>e=.returned (.bool (Z2n a body))∧Below w.heap.size w w':=by
 rw [← Zds a body];have hkm:=Z35 a;have hvl:=Z90 a;have HT:=lh hT;have HL:=lh (fun W (h:TreeAt W B a)=>Z9t W B a h hmx);have HFU:=lh (fun W (h:TreeAt W B a)=>Zaq W B a h hmx);have HV:=lh (fun W (h:TreeAt W B a)=>Zii a.many a (Y5 _) hmx W B h);have hle:(a.kids.filter Z2g).length≤a.kids.length:=List.length_filter_le _ _;have hfu:(a.kids.filter Z1i).length≤a.kids.length:=List.length_filter_le _ _;have HLK:=lh (show ∀ x,x∈a.kids.filter Z2g→x∈a.kids from fun x hx=>(List.mem_filter.1 hx).1)
 have HFK:=lh (show ∀ x,x∈a.kids.filter Z1i→x∈a.kids from fun x hx=>(List.mem_filter.1 hx).1);obtain ⟨P,hP⟩:=zX (a.kids.filter Z2g)
 obtain ⟨Q,hQ⟩:=zX (a.kids.filter Z1i)
 obtain ⟨V,hVd⟩:=zX (Z3w a)
 obtain ⟨T,hTT⟩:=zX (P.map ATree.text)
 obtain ⟨F,hFF⟩:=zX (Q.map ATree.text)
 obtain ⟨R,hR⟩:=zX (Ze1 (Z51 a) (Z3w a) (Z87 a) body)
 rw [← hR];rw [show Z51 a=T by rw [hTT,hP]; rfl,show Z87 a=F by rw [hFF,hQ]; rfl,← hVd] at hR;rw [← hP] at hle HLK;rw [← hQ] at hfu HFK;rw [← hVd] at hvl;simp only [← hP] at HL;simp only [← hQ] at HFU;simp only [← hVd] at HV;have HR:=lh hR;have HTT:=lh hTT;have HFF:=lh hFF;have hPl:P.length≤100000:=by omega
 have hQl:Q.length≤100000:=by omega
 have hVl:V.length≤100000:=by omega
 have hTl:T.length=P.length:=by rw [hTT,Yv]
 have hmany:∀ (A:List ByteArray) (x:ByteArray),A.length≤100000→Z2c T A x≤300000:=fun A x hA=>by
  unfold Z2c;have h1:=Zat T x;have h2:=Zat A x;omega
 have hmany0:∀ (A:List ByteArray) (x:ByteArray),A.length≤100000→Z2c A [] x≤300000:=fun A x hA=>by
  unfold Z2c;have h1:=Zat A x;have h2:=Zat [] x;simp only [List.length_nil] at h2;omega
 have HMA:=lh hmany;have HMA0:=lh hmany0;have hmm:=@run_makeMap Tryz.prog;have hb0:Below w.heap.size w (w.alloc (.map #[] 0)):=(Y8 _ _).alloc (Y5 _) _;have hs0:=SMap.made w;rw [← Zjk] at hs0;obtain ⟨mb,hmb⟩:=zX w.heap.size
 rw [← hmb] at hs0 ⊢;have HMB:=lh hmb;obtain ⟨w1,hw1⟩:=zX (w.alloc (.map #[] 0))
 have hz1:w1.heap.size=mb + 1:=by rw [hw1,hmb]; simp
 have HW1:=lh hw1;rw [← hw1] at hs0 hb0;have HS0:=lh hs0;have HB0:=lh hb0;have HZ1:=lh hz1;clear hT hkm hvl hle hfu hP hQ hVd hTT hFF hR hTl hmany hmany0 hs0 hb0 hmb hw1 hz1;unfold ATree.ptr at HL HFU HV ⊢;go_enter Tryz.func23,Tryz.ntmps23
 go_wp2_with fail
 rw [← HW1.out,← HMB.out];refine (HL.out _ (HT.out.bel HB0.out)).mono ?_;rintro e w2 ⟨v2,rfl,hn2,hb2⟩;obtain ⟨p2,cp2,rfl,hge2,hmx2,hpp2⟩:=hn2.slice;have B2:=lh (HB0.out.trans (hb2.mono HB0.out.size));have S2:=lh (HS0.out.bel hb2);have N2:=lh hn2;have HPP2:=lh hpp2;obtain ⟨q,hq1⟩:=zX P.length
 have hqq:q≤9223372036854775807:=by unfold maxLen at hmx2; omega
 rw [← hq1] at hge2 hPl N2 ⊢;have HQ1:=lh hq1;rw [HZ1.out] at N2;clear hn2 hb2 hq1 hpp2 HS0 HB0 HL;go_wp2_with fail
 go_loopw [19] (fun i wr=>∃ (k:Nat),k≤q∧i=.int .i64 k∧Hid (Below w.heap.size w wr)∧Hid (SMap wr mb (cntV (Z2c (T.take k) [])))∧Hid (Z0q wr (mb + 1) (.slice p2 q cp2) P)) (fun i _=>q - (intOf i).toNat)
 case atStart=>exact ⟨0,Yp _,rfl,B2,S2,N2⟩
 case round=>
  obtain ⟨k,hk,rfl,HB,HS,NO⟩:=hrel;clear B2 S2 N2;by_cases hkn:k < q
  ·obtain ⟨x, hx⟩ : ∃ x, P[k]? = some x := ⟨_, Yd (by rw [← HQ1.out]; exact hkn)⟩
   obtain ⟨g0,hp⟩:=HPP2.out k x hx;subst hp;have cx:=NO.out.cell rfl hx;have hTx:=(HT.out.bel HB.out).kid (HLK.out x (Yl hx));have c1:=hTx.c1;have hTk:T[k]?=some x.text:=by rw [HTT.out,Yo,hx]; rfl
   obtain ⟨tx,htx⟩:=zX x.text
   rw [← htx] at c1 hTk;have HTK:=lh (Zbr hTk);have hlk:=HS.out.lookup Tryz.underlying86 (Tryz.zeroI wr) tx;rw [Zb8] at hlk;obtain ⟨n,hn⟩:=zX (Z2c (T.take k) [] tx)
   have hnn:n≤300000:=by rw [hn]; exact HMA0.out _ _ (by rw [List.length_take]; omega)
   rw [← hn] at hlk;have HN:=lh hn;clear hTx hTk hn htx hx;go_wp2_with (at_mapUpdate; go_must (refine Z10 _ rfl _ _ _ _ 3 rfl Tryz.underlying86 mb tx _ _ rfl rfl rfl HS.out ?_); intro w5 hs5 hg5; have HS5:=lh hs5; have HG5:=lh hg5; clear hs5 hg5)
   go_roundw
   case rel=>
    refine ⟨k + 1,by omega,by go_num,lh (HB.out.grown HG5.out HB.out.size fun j hj=>by cases hj; rw [HMB.out]; exact Y5 _),lh ?_,lh (NO.out.map HG5.out (Nat.lt_succ_self _))⟩;have h5:=HS5.out;rw [HN.out] at h5;have e:=Zhc (Z2c (T.take k) []) tx 2 (by omega);rw [Zku,HTK.out] at e;rw [← e];exact h5
   case measure=>simp [intOf]; omega
  ·have hk2 : k = q := by omega
   subst hk2;have hs1:SMap wr mb (cntV (Z2c T [])):=by
    have:=HS.out;rwa [Ym (by rw [HTT.out,Yv,← HQ1.out]; exact Y5 _)] at this
   have HS1:=lh hs1;clear hs1 HS NO;go_wp2_with fail
   refine (HV.out _ (HT.out.bel HB.out)).mono ?_;rintro e w4 ⟨vv,rfl,ht4,hb4⟩;obtain ⟨pv,cpv,rfl,hgv,hmv,hpv⟩:=ht4.form2;have hz4:mb + 1≤wr.heap.size:=HS1.out.lt;have B4:=lh (HB.out.trans (hb4.mono HB.out.size));have S4:=lh (HS1.out.bel hb4);have T4:=lh (Z28 hz4 ht4);have HPV:=lh hpv;obtain ⟨nV,hnV⟩:=zX V.length
   have hqv:nV≤9223372036854775807:=by unfold maxLen at hmv; omega
   rw [← hnV] at hgv hVl ⊢;have HNV:=lh hnV;clear ht4 hb4 hpv hnV HS1 HB HV hz4;go_wp2_with fail
   go_loopw [34] (fun i wr=>∃ (k:Nat),k≤nV∧i=.int .i64 k∧Hid (Below w.heap.size w wr)∧Hid (SMap wr mb (cntV (Z2c T (V.take k))))∧Hid (Z04 wr (mb + 1) (.slice pv V.length cpv) V)) (fun i _=>nV - (intOf i).toNat)
   case atStart=>exact ⟨0,Yp _,rfl,B4,S4,T4⟩
   case round=>
    obtain ⟨k,hk,rfl,HB,HS,NO⟩:=hrel;clear B4 S4 T4;by_cases hkn:k < nV
    ·obtain ⟨tx, hx⟩ : ∃ x, V[k]? = some x := ⟨_, Yd (by rw [← HNV.out]; exact hkn)⟩
     obtain ⟨g0,hp⟩:=HPV.out k tx hx;subst hp;have cx:=NO.out.cells rfl hx;have HTK:=lh (Zbr hx);have hlk:=HS.out.lookup Tryz.underlying86 (Tryz.zeroI wr) tx;rw [Zb8] at hlk;obtain ⟨n,hn⟩:=zX (Z2c T (V.take k) tx)
     have hnn:n≤300000:=by rw [hn]; exact HMA.out _ _ (by rw [List.length_take]; omega)
     rw [← hn] at hlk;have HN:=lh hn;clear hn hx;go_wp2_with (at_mapUpdate; go_must (refine Z10 _ rfl _ _ _ _ 3 rfl Tryz.underlying86 mb tx _ _ rfl rfl rfl HS.out ?_); intro w5 hs5 hg5; have HS5:=lh hs5; have HG5:=lh hg5; clear hs5 hg5)
     go_roundw
     case rel=>
      refine ⟨k + 1,by omega,by go_num,lh (HB.out.grown HG5.out HB.out.size fun j hj=>by cases hj; rw [HMB.out]; exact Y5 _),lh ?_,lh (NO.out.map HG5.out (Nat.lt_succ_self _))⟩;have h5:=HS5.out;rw [HN.out] at h5;have e:=Zhc (Z2c T (V.take k)) tx 1 (by omega);rw [Zl6,HTK.out] at e;rw [← e];exact h5
     case measure=>simp [intOf]; omega
    ·have hk2 : k = nV := by omega
     subst hk2;have hs1:SMap wr mb (cntV (Z2c T V)):=by
      have:=HS.out;rwa [Ym (by rw [← HNV.out]; exact Y5 _)] at this
     have hz6:mb + 1≤wr.heap.size:=hs1.lt;obtain ⟨sb,hsb⟩:=zX wr.heap.size
     have hb6:Below wr.heap.size wr (wr.alloc (.map #[] 0)):=(Y8 _ _).alloc (Y5 _) _;have hs6:=SMap.made wr;rw [← Zjl,← hsb] at hs6;obtain ⟨w6,hw6⟩:=zX (wr.alloc (.map #[] 0))
     have hzz:w6.heap.size=sb + 1:=by rw [hw6,hsb]; simp
     rw [← hw6] at hb6 hs6;have B6:=lh (HB.out.trans (hb6.mono HB.out.size));have S6:=lh (hs1.bel hb6);have E6:=lh hs6;have HW6:=lh hw6;have HZ6:=lh hzz;have hms:mb < sb:=by rw [hsb]; exact hs1.lt
     have HSB:=lh hsb;clear hs1 HS NO hb6 hs6 hw6 hzz HB hz6 hsb;go_wp2_with fail
     rw [← HW6.out,← HSB.out];refine (HFU.out _ (HT.out.bel B6.out)).mono ?_;rintro e w7 ⟨v7,rfl,hn7,hb7⟩;obtain ⟨p7,cp7,rfl,hge7,hmx7,hpp7⟩:=hn7.slice;have B7:=lh (B6.out.trans (hb7.mono B6.out.size));have S7:=lh (S6.out.bel hb7);have E7:=lh (E6.out.bel hb7);rw [HZ6.out] at hn7;have N7:=lh hn7;have HPP7:=lh hpp7;obtain ⟨m,hm1⟩:=zX Q.length
     have hmq:m≤9223372036854775807:=by unfold maxLen at hmx7; omega
     rw [← hm1] at hge7 N7 hQl ⊢;have HM1:=lh hm1;obtain ⟨R1,hR1⟩:=zX (Z4j T V body [] F)
     have HRE:=lh (show R=(R1 || (T ++ V).any fun s=>decide (2 < Z2c T V s)) by rw [HR.out,hR1]; rfl);have HR1:=lh hR1;clear hn7 hb7 hpp7 hm1 hR1 B6 S6 E6 HFU HR;go_wp2_with fail
     go_loopw [47] (fun i wr=>∃ (k:Nat) (seen:List ByteArray),k≤m∧i=.int .i64 k∧Hid (Below w.heap.size w wr)∧Hid (SMap wr mb (cntV (Z2c T V)))∧Hid (SMap wr sb (hasV seen))∧Hid (Z0q wr (sb + 1) (.slice p7 m cp7) Q)∧Hid (Z4j T V body seen (F.drop k)=R1)) (fun i _=>m - (intOf i).toNat)
     case atStart=>exact ⟨0,[],Yp _,rfl,B7,S7,E7,N7,lh HR1.out.symm⟩
     case round=>
      obtain ⟨k,seen,hk,rfl,HB,HS,HE,NO,HRR⟩:=hrel;clear B7 S7 E7 N7;by_cases hkn:k < m
      ·obtain ⟨x, hx⟩ : ∃ x, Q[k]? = some x := ⟨_, Yd (by rw [← HM1.out]; exact hkn)⟩
       obtain ⟨g0,hp⟩:=HPP7.out k x hx;subst hp;have cx:=NO.out.cell rfl hx;have hTx:=(HT.out.bel HB.out).kid (HFK.out x (Yl hx));have c1:=hTx.c1;have hxl:=hTx.lt;have hFk:F[k]?=some x.text:=by rw [HFF.out,Yo,hx]; rfl
       obtain ⟨tx,htx⟩:=zX x.text
       rw [← htx] at c1 hFk;have hstep:=Zl1 (L:=T) (V:=V) (body:=body) (seen:=seen) hFk;rw [HRR.out] at hstep;have hlk:=HE.out.lookup Tryz.underlying87 (z:=.bool false) (show _=_ by kernel_rfl) tx;rw [Zjr] at hlk;obtain ⟨cb,hcb⟩:=zX (Lib.containsS seen tx)
       rw [← hcb] at hlk hstep;obtain ⟨n,hn⟩:=zX (Z2c T V tx)
       have hnn:n≤300000:=by rw [hn]; exact HMA.out _ _ (by rw [← HNV.out]; exact hVl)
       rw [← hn] at hstep;have hxs:x.b≠sb:=fun e=>by
        obtain ⟨c,t,h1⟩:=hTx.cellsOf;obtain ⟨es,cl,h2,_⟩:=HE.out;rw [e,h2] at h1;cases h1
       have HN:=lh hn;have STEP:=lh hstep;have HC1:=lh (show ∀ W:World,wr.grownBy W (some sb)→W.cell? ⟨x.b,1,none⟩=some (.string tx)∧(Instr.lookup 86 (.map (some mb)) (.string tx) false).run Tryz.prog W=.ok (.int .i64 (n:Int)) W from fun W hg=>by
        have hsm:SMap W mb (cntV (Z2c T V)):=HS.out.kept (hg.block mb HS.out.lt fun e=>by cases e; omega);have h1:=hsm.lookup Tryz.underlying86 (Tryz.zeroI W) tx;rw [Zb8,← hn] at h1;exact ⟨(Yj (hg.block x.b hxl fun e=>hxs (Yk e))).trans c1,h1⟩)
       have hnew:=Zkl seen tx;have HNEW:=lh hnew;clear hTx hFk hstep hcb hn htx hx hnew;cases cb
       ·by_cases h2 : 2 ≤ n
        ·have g1 : decide ((2 : Int) ≤ (n : Int)) = true := by simp; omega
         have HRT:=lh (show R1=true by have h1:=STEP.out; rw [Y9 (by decide),Yb (.inl h2)] at h1; exact h1);clear h2;go_wp2_with (first | (at_mapUpdate; go_must (refine Z10 _ rfl _ _ _ _ 4 rfl Tryz.underlying87 sb tx _ _ rfl rfl rfl HE.out ?_); intro w5 hs5 hg5; obtain ⟨f1,f2⟩:=HC1.out w5 hg5; have HS5:=lh hs5; have HG5:=lh hg5; clear hs5 hg5) | fail)
         go_ret;exact ⟨by rw [HRE.out,HRT.out]; rfl,by rw [HMB.out]; exact HB.out.grown HG5.out HB.out.size fun j hj=>by cases hj; have:=HMB.out; omega⟩
        ·have g1 : decide ((2 : Int) ≤ (n : Int)) = false := by simp; omega
         cases body
         ·by_cases h0 : 0 < n
          ·have g2 : decide (0 < n) = true := by simpa using h0
           have HRT:=lh (show R1=true by have h1:=STEP.out; rw [Y9 (by decide),Yb (.inr ⟨rfl,h0⟩)] at h1; exact h1);clear h2 h0;go_wp2_with (first | (at_mapUpdate; go_must (refine Z10 _ rfl _ _ _ _ 4 rfl Tryz.underlying87 sb tx _ _ rfl rfl rfl HE.out ?_); intro w5 hs5 hg5; obtain ⟨f1,f2⟩:=HC1.out w5 hg5; have HS5:=lh hs5; have HG5:=lh hg5; clear hs5 hg5) | fail)
           go_ret;exact ⟨by rw [HRE.out,HRT.out]; rfl,by rw [HMB.out]; exact HB.out.grown HG5.out HB.out.size fun j hj=>by cases hj; have:=HMB.out; omega⟩
          ·have g2 : decide (0 < n) = false := by simpa using h0
           have HNO:=lh (show ¬ (2≤n∨false=false∧0 < n) by omega);clear h2 h0;go_wp2_with (first | (at_mapUpdate; go_must (refine Z10 _ rfl _ _ _ _ 4 rfl Tryz.underlying87 sb tx _ _ rfl rfl rfl HE.out ?_); intro w5 hs5 hg5; obtain ⟨f1,f2⟩:=HC1.out w5 hg5; have HS5:=lh hs5; have HG5:=lh hg5; clear hs5 hg5) | fail)
           go_roundw
           case rel=>
            refine ⟨k + 1,seen ++ [tx],by omega,by go_num,lh (HB.out.grown HG5.out HB.out.size fun j hj=>by cases hj; have:=HMB.out; omega),lh (HS.out.kept (HG5.out.block mb HS.out.lt fun e=>by cases e; omega)),lh (by rw [← HNEW.out]; exact HS5.out),lh (NO.out.map HG5.out (Nat.lt_succ_self _)),lh ?_⟩;have h1:=STEP.out;rw [Y9 (by decide),Y9 HNO.out] at h1;exact h1.symm
           case measure=>simp [intOf]; omega
         ·have HNO := lh (show ¬ (2 ≤ n ∨ true = false ∧ 0 < n) from fun h => h.elim h2 fun h => absurd h.1 (by decide));clear h2;go_wp2_with (first | (at_mapUpdate; go_must (refine Z10 _ rfl _ _ _ _ 4 rfl Tryz.underlying87 sb tx _ _ rfl rfl rfl HE.out ?_); intro w5 hs5 hg5; obtain ⟨f1, f2⟩ := HC1.out w5 hg5; have HS5 := lh hs5; have HG5 := lh hg5; clear hs5 hg5) | fail)
          go_roundw
          case rel=>
           refine ⟨k + 1,seen ++ [tx],by omega,by go_num,lh (HB.out.grown HG5.out HB.out.size fun j hj=>by cases hj; have:=HMB.out; omega),lh (HS.out.kept (HG5.out.block mb HS.out.lt fun e=>by cases e; omega)),lh (by rw [← HNEW.out]; exact HS5.out),lh (NO.out.map HG5.out (Nat.lt_succ_self _)),lh ?_⟩;have h1:=STEP.out;rw [Y9 (by decide),Y9 HNO.out] at h1;exact h1.symm
          case measure=>simp [intOf]; omega
       ·cases body
        ·have HRT:=lh (show R1=true by have h1:=STEP.out; rw [Yb rfl] at h1; exact h1);go_wp2;go_ret;exact ⟨by rw [HRE.out,HRT.out]; rfl,by rw [HMB.out]; exact HB.out⟩
        ·go_wp2;go_roundw
         case rel=>
          refine ⟨k + 1,seen,by omega,by go_num,HB,HS,HE,NO,lh ?_⟩;have h1:=STEP.out;rw [Yb rfl,Yb rfl] at h1;exact h1.symm
         case measure=>simp [intOf]; omega
      ·have hk2 : k = m := by omega
       subst hk2;have hr:R1=false:=by
        have:=HRR.out;rw [List.drop_of_length_le (by rw [HFF.out,Yv,← HM1.out]; exact Y5 _)] at this;rw [← this];rfl
       have HRF:=lh (show R=(T ++ V).any fun s=>decide (2 < Z2c T V s) by rw [HRE.out,hr]; rfl);obtain ⟨wq,hwq⟩:=zX wr
       subst hwq;obtain ⟨es,clock,hes,hst,hks,hg⟩:=HS.out;have hml:mb < wq.heap.size:=HS.out.lt;have hrg:=run_range_map (P:=Tryz.prog) wq 86 9 3 mb es clock Tryz.underlying86 hes;have HES:=lh hes;have HST:=lh hst;have HKS:=lh hks;have HGG:=lh hg;have HBW:=lh HB.out;clear hes hst hks hg hr HS HE NO HRR HB;go_wp2_with fail
       go_loopw [] (fun wr=>∃ seen c0,Hid (Below wq.heap.size wq wr)∧Hid (wr.heap[wq.heap.size]?=some (.mapIter (some mb) clock seen c0))∧clock≤c0∧Hid (∀ x∈es.toList,seen.contains x.born=true→∀ z:Int,x.val=.int .i64 z→z≤2)) (fun wr=>(Go.leftOf es (wr.iterSeen wq.heap.size)).size)
       case atStart=>exact ⟨#[],clock,lh ((Y8 _ _).alloc (Y5 _) _),lh (heap_alloc_new _ _),Y5 _,lh (fun x _ h=>by simp at h)⟩
       case round=>
        obtain ⟨seen,c0,HB,HRI,hc,HNO⟩:=hrel;have law:=run_next_at (P:=Tryz.prog) wr 0 wq.heap.size mb clock c0 seen es clock HRI.out ((HB.out.block mb hml).trans HES.out) HST.out.1 hc;rcases law with ⟨h0,hrun⟩ | ⟨e,he,w3,hw3,hrun⟩
        ·have hnx:∀ ty,(Instr.next (.pointer (some ⟨wq.heap.size,0,none⟩)) false ty).run Tryz.prog wr=_:=fun _=>hrun;have HAS:=lh (all_seen es seen h0);clear hrun h0;go_wp2;go_ret;have hn:R=false:=by
          rw [HRF.out,Bool.eq_false_iff];intro h1;obtain ⟨s,_,h2⟩:=List.any_eq_true.1 h1;rw [decide_eq_true_eq] at h2;obtain ⟨x,hx,_,h3⟩:=(HGG.out s (.int .i64 (Z2c T V s:Int))).1 (by unfold cntV; rw [Y9 (by omega)]);have:=HNO.out x hx (HAS.out x hx) _ h3;omega
         rw [hn];exact ⟨rfl,by rw [HMB.out]; exact HBW.out.trans (HB.out.mono HBW.out.size)⟩
        ·have hm:=(mem_left he).1;obtain ⟨s,hs⟩:∃ s,e.key=.string s:=by
          have h1:=HKS.out e hm;revert h1;cases e.key <;> intro h1 <;> first | exact ⟨_,rfl⟩ | exact absurd h1 (by simp [IsKey])
         have hv:=(HGG.out s e.val).2 ⟨e,hm,hs,rfl⟩;unfold cntV at hv;by_cases hz:Z2c T V s=0
         ·rw [Yb hz] at hv;cases hv
         rw [Y9 hz] at hv;obtain ⟨n,hn⟩:=zX (Z2c T V s)
         rw [← hn] at hv hz;have hval:e.val=.int .i64 (n:Int):=(Yk hv).symm;have hin:2 < n→R=true:=fun h2=>by
          rw [HRF.out,List.any_eq_true];refine ⟨s,List.mem_append.2 ?_,by rw [← hn]; exact decide_eq_true h2⟩;by_cases h3:0 < cntS T s;·exact .inl (Z2w.1 h3)
          ·refine .inr (Z2w.1 ?_);rw [hn] at h2;unfold Z2c at h2;omega
         obtain ⟨w4,hw4⟩:=zX (setBlock w3 wq.heap.size (.mapIter (some mb) clock (seen.push e.born) clock))
         have hr3:w3.heap[wq.heap.size]?=some (.mapIter (some mb) clock seen c0):=by rcases hw3 with rfl | rfl <;> exact HRI.out
         have hb3:Below wq.heap.size wq w3:=by rcases hw3 with rfl | rfl <;> first | exact HB.out | exact HB.out.drew
         have hr4:w4.heap[wq.heap.size]?=some (.mapIter (some mb) clock (seen.push e.born) clock):=by rw [hw4]; simp [setBlock,(Array.getElem?_eq_some_iff.1 hr3).1]
         have hb4:Below wq.heap.size wq w4:=by
          rw [hw4];exact ⟨hb3.os,hb3.tape,hb3.output,by have:=hb3.size; simpa [setBlock] using this,fun k hk=>(Z6c (by omega) _).trans (hb3.block k hk)⟩
         have hen:=run_entry_at (P:=Tryz.prog) w4 wq.heap.size mb clock seen es clock e hr4 ((hb4.block mb hml).trans HES.out) hm HST.out.2.1;rw [← hw4] at hrun;rw [hs,hval] at hrun hen;have hnx:∀ ty,(Instr.next (.pointer (some ⟨wq.heap.size,0,none⟩)) false ty).run Tryz.prog wr=_:=fun _=>hrun;have HE:=lh he;have HVAL:=lh hval;have HR4:=lh hr4;have HB4:=lh hb4;have HIN:=lh hin;clear hr3 hb3 hr4 hb4 hw4 hs hval hv hrun he hw3 hn hz hin;by_cases hq:2 < n
         ·have hqb : decide ((2 : Int) < (n : Int)) = true := by simp; omega
          have HQ:=lh (HIN.out hq);clear hq;go_wp2;go_ret;rw [HQ.out];exact ⟨rfl,by rw [HMB.out]; exact HBW.out.trans (HB4.out.mono HBW.out.size)⟩
         ·have hqb : decide ((2 : Int) < (n : Int)) = false := by simp; omega
          have HQ:=lh hq;clear hq;go_wp2;go_roundw
          case rel=>
           refine ⟨seen.push e.born,clock,HB4,HR4,Y5 _,lh (fun z hz hc=>?_)⟩;rw [contains_push] at hc;rcases Bool.or_eq_true _ _ ▸ hc with h1 | h1;·exact HNO.out z hz h1
           ·have:z=e:=born_inj HST.out.2.1 hz hm (beq_iff_eq.1 h1);subst this;rw [HVAL.out];intro y e2;simp only [Value.int.injEq,true_and] at e2;have:=HQ.out;omega
          case measure=>
           have e1:w4.iterSeen wq.heap.size=seen.push e.born:=by unfold World.iterSeen; rw [HR4.out]
           have e2:wr.iterSeen wq.heap.size=seen:=by unfold World.iterSeen; rw [HRI.out]
           rw [e1,e2];exact left_shrinks es seen e HE.out
end Go.Proofs.YtajomcjaljakhaaGreatDoor
namespace Go.Proofs.YtajomcjaljakhaaGreatDoor
open Go Go.RowKit
set_option maxRecDepth 100000
set_option maxHeartbeats 20000000
set_option linter.unusedVariables false
def Bnd (n:Nat) (p:PR):Prop:=∀ t ts,p=some (.ok (t,ts))→t.many + 2 * ts.length≤n
theorem Bnd.fail {n:Nat} {e:Int} {ts:List Tok}:Bnd n (Z2j e ts):=by intro t ts' h; cases h
theorem Bnd.none {n:Nat}:Bnd n none:=by intro t ts' h; cases h
theorem Bnd.err {n:Nat} {e:Int×Nat}:Bnd n (some (.error e)):=by intro t ts' h; cases h
theorem Bnd.ok {n:Nat} {t:Tree} {ts:List Tok} (h:t.many + 2 * ts.length≤n):Bnd n (okT t ts):=by
 intro t' ts' h';simp only [okT,Option.some.injEq,Except.ok.injEq,Prod.mk.injEq] at h';rw [← h'.1,← h'.2]; exact h
theorem Bnd.bind {n m:Nat} {p:PR} {k:Tree→List Tok→PR} (hp:Bnd m p) (hk:∀ t ts,t.many + 2 * ts.length≤m→Bnd n (k t ts)):Bnd n (Zw p k):=by
 cases p with
 | none=>exact Bnd.none
 | some r =>
   cases r with
   | error e=>exact Bnd.err
   | ok x=>obtain ⟨t,ts⟩:=x; exact hk t ts (hp t ts rfl)
theorem Bnd.want {n:Nat} {s:ByteArray} {ts:List Tok} {k:List Tok→PR} (hk:ts.tail.length < ts.length→Bnd n (k ts.tail)):Bnd n (Z0s s ts k):=by
 unfold Z0s;by_cases h:isT s ts=true;·rw [Yb h]; exact hk (Z00 h)
 ·rw [Y9 h]; exact Bnd.fail
theorem Bnd.name {n:Nat} {ts:List Tok} {k:ByteArray→List Tok→PR} (hk:∀ s,ts.tail.length < ts.length→Bnd n (k s ts.tail)):Bnd n (Z3a ts k):=by
 unfold Z3a;by_cases h:(hdT ts).kind=1;·rw [Yb h]; exact hk _ (Z3f (by omega))
 ·rw [Y9 h]; exact Bnd.fail
theorem Bnd.within {n d:Nat} {ts:List Tok} {p:PR} (h:Bnd n p):Bnd n (Z0l d ts p):=by
 unfold Z0l;by_cases h':30 < d + 1;·rw [Yb h']; exact Bnd.fail
 ·rw [Y9 h']; exact h
theorem Bnd.ite {n:Nat} {c:Prop} [Decidable c] {p q:PR} (hp:c→Bnd n p) (hq:¬ c→Bnd n q):Bnd n (if c then p else q):=by
 by_cases h:c;·rw [Yb h]; exact hp h
 ·rw [Y9 h]; exact hq h
theorem Bnd.comma {n:Nat} {c:Prop} [Decidable c] {ts:List Tok} {k:List Tok→PR} (hk:∀ ts',ts'.length≤ts.length→Bnd n (k ts')):Bnd n ((if c then Z0s Z0n ts else fun k=>k ts) k):=by
 by_cases h:c;·rw [Yb h]; exact Bnd.want fun h'=>hk _ (by omega)
 ·rw [Y9 h]; exact hk _ (Y5 _)
theorem Bnd.end' {n:Nat} {t:Tree} {ts:List Tok} (h:t.many + 2 * ts.length≤n + 2):Bnd n (endT t ts):=Bnd.want fun h'=>Bnd.ok (by omega)
def Job.base:Job→Nat
 | .stmts _ acc=>Z42 acc + 1
 | .params acc=>Z42 acc + 1
 | .try_=>1
 | .binLoop _ x=>x.many
 | .postLoop x=>x.many
 | .args acc=>Z42 acc + 1
 | .object acc=>Z42 acc + 1
 | _=>0
theorem Z5o (l m:List Tree):Z42 (l ++ m)=Z42 l + Z42 m:=by
 induction l with
 | nil=>simp [Z42]
 | cons x l ih=>simp only [List.cons_append,Z42,ih]; omega
theorem Z11 (k:Int) (s:ByteArray) (n:Int) (l:List Tree):(Tree.mk k s n l).many=Z42 l + 1:=by simp [Tree.many]
theorem Z1z (x:Tree):Z42 [x]=x.many:=by simp [Z42]
theorem Z4l (x y:Tree):Z42 [x,y]=x.many + y.many:=by simp [Z42]
theorem Zd1 (x y z:Tree):Z42 [x,y,z]=x.many + y.many + z.many:=by simp [Z42]; omega
theorem Z2p:Z42 []=0:=by simp [Z42]
theorem Zhp (x:Tree):x.many=Z42 x.kids + 1:=by cases x; simp [Tree.many,Tree.kids]
theorem Zap:∀ (f:Nat) (job:Job) (d:Nat) (ts:List Tok),Bnd (job.base + 2 * ts.length) (Z3 f job d ts):=by
 intro f;induction f with
 | zero=>intro job d ts; exact Bnd.none
 | succ f ih =>
   intro job d ts;have htl:=Z0k ts;have ih':∀ (job:Job) (d:Nat) (us:List Tok) {n:Nat},job.base + 2 * us.length≤n→Bnd n (Z3 f job d us):=fun job d us n h t vs hp=>Ya (ih job d us t vs hp) h;cases job with
   | stmts kind acc =>
     rw [Z3];refine Bnd.ite (fun _=>Bnd.ok ?_) fun _=>Bnd.bind (Bnd.within (ih .stmt _ _)) fun t us h=>ih' _ _ _ ?_;·rw [Z11]; simp only [Job.base]; omega
     ·simp only [Job.base,Z5o,Z1z] at *; omega
   | block body =>
     rw [Z3];refine Bnd.want fun h1=>Bnd.bind (ih (.stmts 6 []) _ _) fun t us h=>Bnd.want fun h2=>Bnd.ok ?_;simp only [Job.base,Z2p] at *;cases body;·simp only [Bool.false_eq_true,if_false]; rw [Z11]; rw [Zhp] at h; omega
     ·simp only [if_true]; omega
   | func kind text =>
     rw [Z3];refine Bnd.want fun h1=>Bnd.bind (ih (.params []) _ _) fun t us h=>Bnd.want fun h2=>Bnd.bind (ih (.block true) _ _) fun t vs h3=>Bnd.ok ?_;simp only [Job.base,Z2p,Z11,Z4l] at *; omega
   | params acc =>
     rw [Z3];refine Bnd.ite (fun _=>Bnd.ok ?_) fun _=>Bnd.comma fun us h=>Bnd.ite (fun _=>Bnd.fail) fun _=>Bnd.name fun s h2=>ih' _ _ _ ?_;·rw [Z11]; simp only [Job.base]; omega
     ·simp only [Job.base,Z5o,Z1z,Z11,Z2p] at *; omega
   | around =>
     rw [Z3];refine Bnd.want fun h1=>Bnd.bind (ih .value _ _) fun t us h=>Bnd.want fun h2=>Bnd.ok ?_;simp only [Job.base] at *; omega
   | stmt =>
     rw [Z3];refine Bnd.ite (fun h=>ih' _ _ _ (by simp only [Job.base]; omega)) fun _=>?_;refine Bnd.ite (fun h=>Bnd.ok (by have:=Z00 h; simp only [Job.base,Z11,Z2p]; omega)) fun _=>?_;refine Bnd.ite (fun h=>Bnd.bind (ih _ _ _) fun t us h2=>Bnd.end' (by simp only [Job.base] at *; omega)) fun _=>?_;refine Bnd.ite (fun h=>Bnd.bind (ih _ _ _) fun t us h2=>Bnd.end' (by simp only [Job.base] at *; omega)) fun _=>?_;refine Bnd.ite (fun h=>Bnd.bind (ih _ _ _) fun t us h2=>Bnd.end' (by simp only [Job.base] at *; omega)) fun _=>?_
     refine Bnd.ite (fun h=>Bnd.name fun s h2=>ih' _ _ _ (by simp only [Job.base]; omega)) fun _=>?_;refine Bnd.ite (fun h=>?_) fun _=>?_
     ·have:=Z00 h;refine Bnd.bind (ih .around _ _) fun t us h2=>Bnd.bind (Bnd.within (ih .stmt _ _)) fun t vs h3=>?_;have:=Z0k vs;exact Bnd.ite (fun h4=>Bnd.bind (Bnd.within (ih .stmt _ _)) fun t xs h5=>Bnd.ok (by simp only [Job.base,Z11,Zd1] at *; omega)) fun _=>Bnd.ok (by simp only [Job.base,Z11,Z4l] at *; omega)
     refine Bnd.ite (fun h=>?_) fun _=>?_
     ·have:=Z00 h;exact Bnd.bind (ih .around _ _) fun t us h2=>Bnd.bind (Bnd.within (ih .stmt _ _)) fun t vs h3=>Bnd.ok (by simp only [Job.base,Z11,Z4l] at *; omega)
     refine Bnd.ite (fun h=>?_) fun _=>?_
     ·have:=Z00 h;exact Bnd.bind (ih .around _ _) fun t us h2=>Bnd.bind (Bnd.within (ih .stmt _ _)) fun t vs h3=>Bnd.ok (by simp only [Job.base,Z11,Z4l] at *; omega)
     refine Bnd.ite (fun h=>?_) fun _=>?_
     ·have:=Z00 h;exact Bnd.ite (fun h1=>Bnd.end' (by simp only [Job.base,Z11,Z2p] at *; omega)) fun _=>Bnd.bind (ih .value _ _) fun t us h2=>Bnd.end' (by simp only [Job.base,Z11,Z1z] at *; omega)
     refine Bnd.ite (fun h=>?_) fun _=>?_
     ·have:=Z00 h;exact Bnd.bind (ih .value _ _) fun t us h2=>Bnd.end' (by simp only [Job.base,Z11,Z1z] at *; omega)
     refine Bnd.ite (fun h=>ih' _ _ _ (by have:=Z00 h; simp only [Job.base]; omega)) fun _=>?_;exact Bnd.bind (ih .value _ _) fun t us h2=>Bnd.end' (by simp only [Job.base,Z11,Z1z] at *; omega)
   | decl kind must =>
     rw [Z3];refine Bnd.name fun s h=>Bnd.ite (fun _=>Bnd.fail) fun _=>Bnd.ite (fun h2=>Bnd.bind (ih .value _ _) fun t us h3=>Bnd.ok ?_) fun _=>Bnd.ok ?_;·have:=Z0k ts.tail; simp only [Job.base,Z11,Z1z] at *; omega
     ·simp only [Job.base,Z11,Z2p] at *; omega
   | try_ =>
     rw [Z3];refine Bnd.bind (ih (.block false) _ _) fun b us h=>?_;have hk:∀ (l:List Tree) (vs:List Tok),Z42 l + 2 * vs.length≤2 * ts.length→Bnd (1 + 2 * ts.length) (if isT Zx vs then Zw (Z3 f (.block false) d vs.tail) fun c ts=>okT (.mk 12 ByteArray.empty 0 (l ++ [.mk 14 ByteArray.empty 0 [c]])) ts else if l.length=1 then Z2j 3 vs else okT (.mk 12 ByteArray.empty 0 l) vs):=by
      intro l vs h2;refine Bnd.ite (fun h3=>Bnd.bind (ih (.block false) _ _) fun t xs h4=>Bnd.ok ?_) fun _=>Bnd.ite (fun _=>Bnd.fail) fun _=>Bnd.ok ?_;·have:=Z00 h3; simp only [Job.base,Z11,Z5o,Z1z] at *; omega
      ·rw [Z11]; omega
     refine Bnd.ite (fun h1=>?_) fun _=>hk _ _ (by simp only [Job.base,Z1z] at *; omega);have:=Z00 h1;refine Bnd.want fun h2=>Bnd.name fun s h3=>Bnd.want fun h4=>Bnd.bind (ih (.block false) _ _) fun c vs h5=>hk _ _ ?_;simp only [Job.base,Z11,Z1z,Z4l] at *; omega
   | value=>rw [Z3]; exact Bnd.within (ih' _ _ _ (by simp only [Job.base]; omega))
   | assign =>
     rw [Z3];refine Bnd.bind (ih (.bin 0) _ _) fun x us h=>Bnd.ite (fun h1=>Bnd.ite (fun _=>Bnd.bind (ih .value _ _) fun y vs h2=>Bnd.ok ?_) fun _=>Bnd.err) fun _=>Bnd.ok ?_;·have:=Z00 h1; simp only [Job.base,Z11,Z4l] at *; omega
     ·simp only [Job.base] at *; omega
   | bin level =>
     rw [Z3];refine Bnd.ite (fun h=>ih' _ _ _ (by simp only [Job.base]; omega)) fun h=>Bnd.bind (ih (.bin (level + 1)) _ _) fun x us h=>ih' _ _ _ (by simp only [Job.base] at *; omega)
   | binLoop level x =>
     rw [Z3];refine Bnd.ite (fun _=>Bnd.ok (by simp only [Job.base]; omega)) fun h0=>Bnd.bind (ih (.bin (level + 1)) _ _) fun y us h=>ih' _ _ _ ?_;have:=Z6p h0; simp only [Job.base,Z11,Z4l] at *; omega
   | unary =>
     rw [Z3];refine Bnd.ite (fun _=>ih' _ _ _ (by simp only [Job.base]; omega)) fun h0=>Bnd.bind (Bnd.within (ih .unary _ _)) fun y us h=>Bnd.ok ?_;have:=Z8x h0; simp only [Job.base,Z11,Z1z] at *; omega
   | postfix_ =>
     rw [Z3];exact Bnd.bind (ih .primary _ _) fun y us h=>ih' _ _ _ (by simp only [Job.base] at *; omega)
   | postLoop x =>
     rw [Z3];refine Bnd.ite (fun h=>Bnd.name fun s h2=>ih' _ _ _ ?_) fun _=>Bnd.ite (fun h=>?_) fun _=>Bnd.ok (by simp only [Job.base]; omega);·have:=Z00 h; simp only [Job.base,Z11,Z1z] at *; omega
     ·have:=Z00 h;exact Bnd.bind (ih (.args [x]) _ _) fun y us h=>ih' _ _ _ (by simp only [Job.base,Z1z] at *; omega)
   | args acc =>
     rw [Z3];refine Bnd.ite (fun h=>Bnd.ok ?_) fun _=>Bnd.comma fun us h=>Bnd.ite (fun _=>Bnd.fail) fun _=>Bnd.bind (ih .value _ _) fun y vs h2=>ih' _ _ _ ?_;·rw [Z11]; simp only [Job.base]; omega
     ·simp only [Job.base,Z5o,Z1z] at *; omega
   | primary =>
     rw [Z3];have:=Z0k ts.tail;refine Bnd.ite (fun h=>Bnd.ok ?_) fun _=>Bnd.ite (fun h=>Bnd.ok ?_) fun _=>Bnd.ite (fun h=>Bnd.ok ?_) fun _=>Bnd.ite (fun h=>Bnd.ok ?_) fun _=>?_;·have:=Z3f (ts:=ts) (by omega); simp only [Job.base,Z11,Z2p] at *; omega
     ·have:=Z3f (ts:=ts) (by omega); simp only [Job.base,Z11,Z2p] at *; omega
     ·have:=Z3f (ts:=ts) (by omega); simp only [Job.base,Z11,Z2p] at *; omega
     ·have:ts.tail.length < ts.length:=by
       unfold Z2z at h;by_cases h1:isT Z4n ts=true;·exact Z00 h1
       ·by_cases h2 : isT Z3g ts = true;·exact Z00 h2
        ·by_cases h3 : isT Z5f ts = true;·exact Z00 h3
         ·by_cases h4 : isT Z1g ts = true;·exact Z00 h4
          ·simp [h1,h2,h3,h4] at h
      simp only [Job.base,Z11,Z2p] at *; omega
     refine Bnd.ite (fun _=>ih' _ _ _ (by simp only [Job.base]; omega)) fun _=>?_;refine Bnd.ite (fun _=>Bnd.ite (fun _=>ih' _ _ _ (by simp only [Job.base]; omega)) fun _=>ih' _ _ _ (by simp only [Job.base]; omega)) fun _=>?_;exact Bnd.ite (fun h=>ih' _ _ _ (by have:=Z00 h; simp only [Job.base,Z2p]; omega)) fun _=>Bnd.fail
   | object acc =>
     rw [Z3];refine Bnd.ite (fun h=>Bnd.ok ?_) fun _=>Bnd.comma fun us h=>Bnd.ite (fun _=>Bnd.fail) fun _=>Bnd.name fun s h1=>Bnd.want fun h2=>Bnd.bind (ih .value _ _) fun y vs h3=>ih' _ _ _ ?_;·rw [Z11]; simp only [Job.base]; omega
     ·simp only [Job.base,Z5o,Z1z,Z11] at *; omega
structure Ar (k:Int) (n:Nat):Prop where
 call:k=35→n≠0
 two:k=9∨k=8∨k=24∨k=5∨k=37→n=2
 if':k=7→n=2∨n=3
 one:k=13∨k=34→n=1
theorem Ar.any {k:Int} {n:Nat} (h:k≠35∧k≠9∧k≠8∧k≠24∧k≠5∧k≠37∧k≠7∧k≠13∧k≠34):Ar k n:=⟨by omega,by omega,by omega,by omega⟩
mutual
def WT:Tree→Prop
 | .mk k _ _ l=>Ar k l.length∧WTL l
def WTL:List Tree→Prop
 | []=>True
 | t :: l=>WT t∧WTL l
end
theorem Z8n {l m:List Tree} (h:WTL l) (g:WTL m):WTL (l ++ m):=by
 induction l with
 | nil=>exact g
 | cons x l ih=>exact ⟨h.1,ih h.2⟩
theorem WT.kids {t:Tree} (h:WT t):WTL t.kids:=by cases t; exact h.2
theorem WT.leaf {k:Int} {s:ByteArray} {n:Int} (h:k≠35∧k≠9∧k≠8∧k≠24∧k≠5∧k≠37∧k≠7∧k≠13∧k≠34):WT (.mk k s n []):=⟨Ar.any h,trivial⟩
def Sh (p:PR):Prop:=∀ t ts,p=some (.ok (t,ts))→WT t
theorem Sh.fail {e:Int} {ts:List Tok}:Sh (Z2j e ts):=by intro t ts' h; cases h
theorem Sh.none:Sh none:=by intro t ts' h; cases h
theorem Sh.err {e:Int×Nat}:Sh (some (.error e)):=by intro t ts' h; cases h
theorem Sh.ok {t:Tree} {ts:List Tok} (h:WT t):Sh (okT t ts):=by
 intro t' ts' h';simp only [okT,Option.some.injEq,Except.ok.injEq,Prod.mk.injEq] at h';rw [← h'.1]; exact h
theorem Sh.bind {p:PR} {k:Tree→List Tok→PR} (hp:Sh p) (hk:∀ t ts,WT t→Sh (k t ts)):Sh (Zw p k):=by
 cases p with
 | none=>exact Sh.none
 | some r =>
   cases r with
   | error e=>exact Sh.err
   | ok x=>obtain ⟨t,ts⟩:=x; exact hk t ts (hp t ts rfl)
theorem Sh.want {s:ByteArray} {ts:List Tok} {k:List Tok→PR} (hk:Sh (k ts.tail)):Sh (Z0s s ts k):=by
 unfold Z0s;by_cases h:isT s ts=true;·rw [Yb h]; exact hk
 ·rw [Y9 h]; exact Sh.fail
theorem Sh.name {ts:List Tok} {k:ByteArray→List Tok→PR} (hk:∀ s,Sh (k s ts.tail)):Sh (Z3a ts k):=by
 unfold Z3a;by_cases h:(hdT ts).kind=1;·rw [Yb h]; exact hk _
 ·rw [Y9 h]; exact Sh.fail
theorem Sh.within {d:Nat} {ts:List Tok} {p:PR} (h:Sh p):Sh (Z0l d ts p):=by
 unfold Z0l;by_cases h':30 < d + 1;·rw [Yb h']; exact Sh.fail
 ·rw [Y9 h']; exact h
theorem Sh.ite {c:Prop} [Decidable c] {p q:PR} (hp:c→Sh p) (hq:¬ c→Sh q):Sh (if c then p else q):=by
 by_cases h:c;·rw [Yb h]; exact hp h
 ·rw [Y9 h]; exact hq h
theorem Sh.comma {c:Prop} [Decidable c] {ts:List Tok} {k:List Tok→PR} (hk:∀ ts',Sh (k ts')):Sh ((if c then Z0s Z0n ts else fun k=>k ts) k):=by
 by_cases h:c;·rw [Yb h]; exact Sh.want (hk _)
 ·rw [Y9 h]; exact hk _
theorem Sh.end' {t:Tree} {ts:List Tok} (h:WT t):Sh (endT t ts):=Sh.want (Sh.ok h)
def Job.good:Job→Prop
 | .stmts kind acc=>(kind=1∨kind=6)∧WTL acc
 | .func kind _=>kind=5∨kind=37
 | .params acc=>WTL acc
 | .decl kind _=>kind=2∨kind=3∨kind=4
 | .binLoop _ x=>WT x
 | .postLoop x=>WT x
 | .args acc=>WTL acc∧acc≠[]
 | .object acc=>WTL acc
 | _=>True
theorem Zgs (lv:Nat) (ts:List Tok):Z1j lv ts=0∨(25≤Z1j lv ts∧Z1j lv ts≤31):=by
 unfold Z1j;split <;> (try split) <;> (try split) <;> omega
theorem Zgd (ts:List Tok):Z2m ts=0∨(32≤Z2m ts∧Z2m ts≤34):=by
 unfold Z2m;split <;> (try split) <;> (try split) <;> omega
theorem Zgn (ts:List Tok):Z2z ts=0∨(19≤Z2z ts∧Z2z ts≤22):=by
 unfold Z2z;split <;> (try split) <;> (try split) <;> (try split) <;> omega
theorem Zaf {k:Int} {s:ByteArray} {n:Int} {x y:Tree} (hx:WT x) (hy:WT y) (h:k≠13∧k≠34):WT (.mk k s n [x,y]):=
 ⟨⟨fun _=>by simp,fun _=>rfl,fun _=>.inl rfl,fun h'=>by omega⟩,hx,hy,trivial⟩
theorem Z7d {k:Int} {s:ByteArray} {n:Int} {x:Tree} (hx:WT x) (h:k≠9∧k≠8∧k≠24∧k≠5∧k≠37∧k≠7):WT (.mk k s n [x]):=
 ⟨⟨fun _=>by simp,fun h'=>by omega,fun h'=>by omega,fun _=>rfl⟩,hx,trivial⟩
theorem Z80 {k:Int} {s:ByteArray} {n:Int} {l:List Tree} (hx:WTL l) (h:k≠35∧k≠9∧k≠8∧k≠24∧k≠5∧k≠37∧k≠7∧k≠13∧k≠34):WT (.mk k s n l):=⟨Ar.any h,hx⟩
theorem Zdc:∀ (f:Nat) (job:Job) (d:Nat) (ts:List Tok),job.good→Sh (Z3 f job d ts):=by
 intro f;induction f with
 | zero=>intro job d ts _; unfold Z3; exact Sh.none
 | succ f ih =>
   intro job d ts hg;cases job with
   | stmts kind acc =>
     unfold Z3;refine Sh.ite (fun _=>Sh.ok (Z80 hg.2 (by have:=hg.1; omega))) fun _=>?_;exact Sh.bind (Sh.within (ih .stmt _ _ trivial)) fun t ts' h=>ih _ _ _ ⟨hg.1,Z8n hg.2 ⟨h,trivial⟩⟩
   | block body =>
     unfold Z3;refine Sh.want (Sh.bind (ih (.stmts 6 []) _ _ ⟨.inr rfl,trivial⟩) fun t ts' h'=>Sh.want (Sh.ok ?_));by_cases hb:body=true;·rw [Yb hb]; exact h'
     ·rw [Y9 hb]; exact Z80 h'.kids (by omega)
   | func kind text =>
     unfold Z3;exact Sh.want (Sh.bind (ih (.params []) _ _ trivial) fun t ts' h'=>Sh.want (Sh.bind (ih (.block true) _ _ trivial) fun t ts' h3=>Sh.ok (Zaf h' h3 (by have:kind=5∨kind=37:=hg; omega))))
   | params acc =>
     unfold Z3;refine Sh.ite (fun _=>Sh.ok (Z80 hg (by omega))) fun _=>?_;exact Sh.comma fun ts'=>Sh.ite (fun _=>Sh.fail) fun _=>Sh.name fun s=>ih _ _ _ (Z8n hg ⟨WT.leaf (by omega),trivial⟩)
   | around =>
     unfold Z3;exact Sh.want (Sh.bind (ih .value _ _ trivial) fun t ts' h'=>Sh.want (Sh.ok h'))
   | stmt =>
     unfold Z3;refine Sh.ite (fun h=>ih _ _ _ trivial) fun _=>?_;refine Sh.ite (fun h=>Sh.ok (WT.leaf (by omega))) fun _=>?_;refine Sh.ite (fun h=>Sh.bind (ih (.decl 2 false) _ _ (.inl rfl)) fun t us h2=>Sh.end' h2) fun _=>?_;refine Sh.ite (fun h=>Sh.bind (ih (.decl 3 false) _ _ (.inr (.inl rfl))) fun t us h2=>Sh.end' h2) fun _=>?_;refine Sh.ite (fun h=>Sh.bind (ih (.decl 4 true) _ _ (.inr (.inr rfl))) fun t us h2=>Sh.end' h2) fun _=>?_;refine Sh.ite (fun h=>Sh.name fun s=>ih _ _ _ (.inl rfl)) fun _=>?_
     refine Sh.ite (fun h=>Sh.bind (ih .around _ _ trivial) fun x us h2=>Sh.bind (Sh.within (ih .stmt _ _ trivial)) fun y vs h3=>Sh.ite (fun h4=>Sh.bind (Sh.within (ih .stmt _ _ trivial)) fun z xs h5=>Sh.ok ⟨⟨by omega,by omega,fun _=>.inr rfl,by omega⟩,h2,h3,h5,trivial⟩) fun _=>Sh.ok (Zaf h2 h3 (by omega))) fun _=>?_;refine Sh.ite (fun h=>Sh.bind (ih .around _ _ trivial) fun t us h2=>Sh.bind (Sh.within (ih .stmt _ _ trivial)) fun t vs h3=>Sh.ok (Zaf h2 h3 (by omega))) fun _=>?_
     refine Sh.ite (fun h=>Sh.bind (ih .around _ _ trivial) fun t us h2=>Sh.bind (Sh.within (ih .stmt _ _ trivial)) fun t vs h3=>Sh.ok (Zaf h2 h3 (by omega))) fun _=>?_;refine Sh.ite (fun h=>Sh.ite (fun h1=>Sh.end' (WT.leaf (by omega))) (fun _=>Sh.bind (ih .value _ _ trivial) fun t us h2=>Sh.end' (Z7d h2 (by omega)))) fun _=>?_;refine Sh.ite (fun h=>Sh.bind (ih .value _ _ trivial) fun t us h2=>Sh.end' (Z7d h2 (by omega))) fun _=>?_;refine Sh.ite (fun h=>ih _ _ _ trivial) fun _=>?_;exact Sh.bind (ih .value _ _ trivial) fun t us h2=>Sh.end' (Z7d h2 (by omega))
   | decl kind must =>
     have hk:kind=2∨kind=3∨kind=4:=hg;unfold Z3;exact Sh.name fun s=>Sh.ite (fun _=>Sh.fail) fun _=>Sh.ite (fun h2=>Sh.bind (ih .value _ _ trivial) fun t us h3=>Sh.ok (Z7d h3 (by omega))) fun _=>Sh.ok (WT.leaf (by omega))
   | try_ =>
     unfold Z3;refine Sh.bind (ih (.block false) _ _ trivial) fun b us h=>?_;have hk:∀ (l:List Tree) (vs:List Tok),WTL l→Sh (if isT Zx vs then Zw (Z3 f (.block false) d vs.tail) fun c ts=>okT (.mk 12 ByteArray.empty 0 (l ++ [.mk 14 ByteArray.empty 0 [c]])) ts else if l.length=1 then Z2j 3 vs else okT (.mk 12 ByteArray.empty 0 l) vs):=by
      intro l vs h2;exact Sh.ite (fun _=>Sh.bind (ih (.block false) _ _ trivial) fun t xs h3=>Sh.ok (Z80 (Z8n h2 ⟨Z7d h3 (by omega),trivial⟩) (by omega))) fun _=>Sh.ite (fun _=>Sh.fail) fun _=>Sh.ok (Z80 h2 (by omega))
     refine Sh.ite (fun h1=>?_) fun _=>hk _ _ ⟨h,trivial⟩;exact Sh.want (Sh.name fun s=>Sh.want (Sh.bind (ih (.block false) _ _ trivial) fun c vs h5=>hk _ _ ⟨h,Z7d h5 (by omega),trivial⟩))
   | value=>unfold Z3; exact Sh.within (ih _ _ _ trivial)
   | assign =>
     unfold Z3;exact Sh.bind (ih (.bin 0) _ _ trivial) fun x us h=>Sh.ite (fun h1=>Sh.ite (fun _=>Sh.bind (ih .value _ _ trivial) fun y vs h2=>Sh.ok (Zaf h h2 (by omega))) fun _=>Sh.err) fun _=>Sh.ok h
   | bin level =>
     unfold Z3;exact Sh.ite (fun _=>ih _ _ _ trivial) fun _=>Sh.bind (ih (.bin (level + 1)) _ _ trivial) fun x us h=>ih _ _ _ h
   | binLoop level x =>
     unfold Z3;exact Sh.ite (fun _=>Sh.ok hg) fun h0=>Sh.bind (ih (.bin (level + 1)) _ _ trivial) fun y us h=>ih _ _ _ (show Job.good (.binLoop level (.mk (Z1j level ts) ByteArray.empty 0 [x,y])) from Zaf (s:=ByteArray.empty) (n:=0) hg h (by have:=Zgs level ts; omega))
   | unary =>
     unfold Z3;exact Sh.ite (fun _=>ih _ _ _ trivial) fun h0=>Sh.bind (Sh.within (ih .unary _ _ trivial)) fun x us h=>Sh.ok (Z7d h (by have:=Zgd ts; omega))
   | postfix_ =>
     unfold Z3;exact Sh.bind (ih .primary _ _ trivial) fun x us h=>ih _ _ _ h
   | postLoop x =>
     unfold Z3;exact Sh.ite (fun _=>Sh.name fun s=>ih _ _ _ (show Job.good (.postLoop (.mk 36 s 0 [x])) from Z7d (s:=s) (n:=0) hg (by omega))) fun _=>Sh.ite (fun _=>Sh.bind (ih (.args [x]) _ _ ⟨⟨hg,trivial⟩,by simp⟩) fun n us h=>ih _ _ _ h) fun _=>Sh.ok hg
   | args acc =>
     unfold Z3;refine Sh.ite (fun _=>Sh.ok ⟨⟨fun _=>by have:=hg.2; simpa using this,by omega,by omega,by omega⟩,hg.1⟩) fun _=>?_;exact Sh.comma fun ts'=>Sh.ite (fun _=>Sh.fail) fun _=>Sh.bind (ih .value _ _ trivial) fun v us h=>ih _ _ _ ⟨Z8n hg.1 ⟨h,trivial⟩,by simp⟩
   | primary =>
     unfold Z3;refine Sh.ite (fun h=>Sh.ok (WT.leaf (by omega))) fun _=>?_;refine Sh.ite (fun h=>Sh.ok (WT.leaf (by omega))) fun _=>?_;refine Sh.ite (fun h=>Sh.ok (WT.leaf (by omega))) fun _=>?_;refine Sh.ite (fun h=>Sh.ok (WT.leaf (by have:=Zgn ts; omega))) fun _=>?_;refine Sh.ite (fun h=>ih _ _ _ trivial) fun _=>?_;refine Sh.ite (fun h=>Sh.ite (fun _=>ih _ _ _ (.inr rfl)) fun _=>ih _ _ _ (.inr rfl)) fun _=>?_;exact Sh.ite (fun h=>ih _ _ _ trivial) fun _=>Sh.fail
   | object acc =>
     unfold Z3;refine Sh.ite (fun _=>Sh.ok (Z80 hg (by omega))) fun _=>?_;exact Sh.comma fun ts'=>Sh.ite (fun _=>Sh.fail) fun _=>Sh.name fun s=>Sh.want (Sh.bind (ih .value _ _ trivial) fun v us h=>ih _ _ _ (Z8n hg ⟨Z7d h (by omega),trivial⟩))
def WA (a:ATree):Prop:=∀ x∈a.subs,Ar x.kind x.kids.length
theorem WA.kid {a k:ATree} (h:WA a) (hk:k∈a.kids):WA k:=fun x hx=>h x (Zaw hk hx)
theorem WA.self {a:ATree} (h:WA a):Ar a.kind a.kids.length:=h a (Z91 a)
theorem WA.call {a:ATree} (h:WA a):Zjm a:=fun x hx h35 e=>(h x hx).call h35 (by rw [e]; rfl)
mutual
theorem Zkf:∀ (a:ATree),WT a.tree→WA a
 | .mk b v k t n ks, h => by
   intro x hx;simp only [ATree.tree,WT] at h;simp only [ATree.subs,List.mem_cons] at hx;rcases hx with rfl | hx
   ·simp only [ATree.kind,ATree.kids];have:=h.1;rw [Z25,Yv] at this;exact this
   ·exact Zk8 ks h.2 x hx
theorem Zk8:∀ (l:List ATree),WTL (Z0o l)→∀ x∈Z1r l,Ar x.kind x.kids.length
 | [],_,x,hx=>by simp [Z1r] at hx
 | a :: l, h, x, hx => by
   simp only [Z0o,WTL] at h;simp only [Z1r,List.mem_append] at hx;rcases hx with hx | hx;·exact Zkf a h.1 x hx
   ·exact Zk8 l h.2 x hx
end
theorem Zk6 {l:List ATree} (h:l.length=2):∃ x y,l=[x,y]:=by
 match l,h with
 | [x,y],_=>exact ⟨x,y,rfl⟩
end Go.Proofs.YtajomcjaljakhaaGreatDoor
