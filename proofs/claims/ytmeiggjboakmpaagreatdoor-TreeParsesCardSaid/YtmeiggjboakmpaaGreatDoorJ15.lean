/- The document's All: a node and all within, as Walk comes to them. -/
import Derived.Test.YtmeiggjboakmpaaGreatDoorJ14
import Derived.WalkMore
import Derived.ScopeJumps
namespace Go.Proofs.YtmeiggjboakmpaaGreatDoor
open Go Go.RowKit
set_option maxRecDepth 100000
set_option maxHeartbeats 20000000
set_option linter.unusedVariables false
theorem Zb7 (a:ATree):a.kids.length < a.many:=by
 have key:∀ l:List ATree,l.length≤Z4b l:=by
  intro l;induction l with
  | nil=>simp [Z4b]
  | cons x l ih =>
    simp only [Z4b,List.length_cons];have:0 < x.many:=by cases x; simp [ATree.many]
    omega
 obtain ⟨b,v,k,t,n,ks⟩:=a;have:=key ks;simp only [ATree.kids,ATree.many];omega
theorem Zia {l:List ATree} {k:Nat}:(Z48 (l.take k)).length≤(Z48 l).length:=by
 have e:Z48 l=Z48 (l.take k) ++ Z48 (l.drop k):=by rw [← Zb0,List.take_append_drop]
 rw [e,Yq]; omega
theorem Zf6 {l:List ATree} {k:Nat} {x:ATree} (h:l[k]?=some x):Z48 (l.take (k + 1))=Z48 (l.take k) ++ x.subs:=by
 rw [Z7b h,Zb0]; simp [Z48]
theorem Zdg (a:ATree):0 < a.subs.length:=by rw [Zd1]; simp
theorem Zl0 (n0:Nat):∀ (a:ATree),a.many≤n0→a.many≤100000→∀ (w:World) (B0:Nat),TreeAt w B0 a →
 Calls Tryz.prog 15 #[a.ptr] w fun e w'=>∃ v,e=.returned v∧Z62 w' w.heap.size v a.subs∧Below w.heap.size w w':=by
 induction n0 with
 | zero=>intro a h; cases a; simp [ATree.many] at h
 | succ n0 ih=>
 intro a hn hmx w B0 hT;obtain ⟨i0,hi,hz0,hz1,hz2⟩:=info_parts Tryz.infoPtr;have HIH:=lh ih;have hblk:=hT.blkOf;have hrow:=hT.rowOf;obtain ⟨p,cp,hv,hge⟩:∃ p cp,a.v=.slice p a.kids.length cp∧a.kids.length≤cp:=by
  rcases Zp hrow with ⟨h1,h2⟩ | ⟨g0,cap0,h1,h2,_⟩;·exact ⟨none,0,by rw [h1,h2],by omega⟩
  ·exact ⟨_,_,h1,h2⟩
 have c3:w.cell? ⟨a.b,3,none⟩=some (.slice p a.kids.length cp):=by rw [← hv]; simp [World.cell?,hblk]
 have hkm:=Zb7 a;have hlen:a.kids.length≤100000:=by omega
 have hab:a.b < w.heap.size:=hT.lt;have HT:=lh hT;have HV:=lh hv;have HNN:=lh hn;have HMX:=lh hmx;have hsl:(a :: Z48 a.kids).length≤100000:=by rw [← Zd1,Z90]; exact hmx
 have HSL:=lh hsl;have ST:=lh (show Z62 (w.alloc (.cells #[a.ptr] 22)) w.heap.size (.slice (some ⟨w.heap.size,0,none⟩) 1 1) (a :: Z48 (a.kids.take 0)) from Zcp (l:=[a]) (Y5 _) (by simp));have SB:=lh ((Y8 w.heap.size w).alloc (Y5 _) (.cells #[a.ptr] 22));unfold ATree.ptr at ST SB ⊢;obtain ⟨n,hnn⟩:=zX a.kids.length
 rw [← hnn] at c3 hlen hge;have HN:=lh hnn;have HC3:=lh c3;have c3':(w.alloc (.cells #[.pointer (some ⟨a.b,0,none⟩)] 22)).cell? ⟨a.b,3,none⟩=some (.slice p n cp):=(Z8 hab).trans c3;clear hblk hrow hv hnn hT hkm hsl ih hn hmx;go_enter Tryz.func15,Tryz.ntmps15
 go_wp2_with fail
 go_loopw [3,15] (fun v i wr=>∃ (k:Nat) (v':Value),v'=v∧k≤n∧i=.int .i64 k∧Hid (Z62 wr w.heap.size v' (a :: Z48 (a.kids.take k)))∧Hid (Below w.heap.size w wr)) (fun _ i _=>n - (intOf i).toNat)
 case atStart=>exact ⟨0,_,rfl,Yp _,rfl,ST,SB⟩
 case round=>
  obtain ⟨k,v,rfl,hk,rfl,HR,HB⟩:=hrel;clear ST SB;by_cases hkn:k < n
  ·obtain ⟨x, hx⟩ : ∃ x, a.kids[k]? = some x := ⟨_, Yd (by rw [← HN.out]; exact hkn)⟩
   have hT2:=HT.out.bel HB.out;have hrow:=hT2.rowOf;rcases Zp hrow with ⟨_,h2⟩ | ⟨g0,cap0,hv0,_⟩;·rw [← HN.out] at h2; omega
   have hp:p=some ⟨g0,0,none⟩:=by
    have:=HV.out.symm.trans hv0;simp only [Value.slice.injEq] at this;exact this.1
   subst hp;have cx:=Z17 hrow (g:=g0) (by rw [hv0]; rfl) (i:=k) (x:=x.ptr) (by rw [Yo,hx]; rfl);unfold ATree.ptr at cx;have hmem:=Yl hx;have hTx:=hT2.kid hmem;have hxm:=Zam hmem;have HC:=lh (HIH.out x (by have:=HNN.out; omega) (by have:=HMX.out; omega) wr B0 hTx);have HNX:=lh (Zf6 hx);have HPO:=lh (Zdg x);have HL2:=lh (show (a :: Z48 (a.kids.take (k + 1))).length≤100000 from Ya (by simp only [List.length_cons]; have:=Zia (l:=a.kids) (k:=k + 1); omega) HSL.out);unfold ATree.ptr at HC;clear hT2 hrow hv0 hTx hxm hmem hx
   go_wp2_with fail
   refine HC.out.mono ?_;rintro e w1 ⟨vk,rfl,hNk,hB1⟩;obtain ⟨L,hL⟩:=zX (a :: Z48 (a.kids.take k))
   have hNR:=HR.out;rw [← hL] at hNR;rcases hNk.form with ⟨_,h2⟩ | ⟨g1,cap1,rfl,hc1,hc2⟩;·have:=HPO.out; rw [h2] at this; simp at this
   have hL2:=HL2.out;have hLx:L ++ x.subs=a :: Z48 (a.kids.take (k + 1)):=by rw [HNX.out,hL]; rfl
   rw [← hLx,Yq] at hL2;have HLX:=lh hLx;have hR1:Z62 w1 w.heap.size v L:=Zq hNR fun j hj=>hB1.block j (Yh hNR j hj).2;have hg1:wr.heap.size≤g1∧g1 < w1.heap.size:=Yh hNk g1 rfl;have NEWS:=lh (show ∀ (j:Nat) (u:Value),(x.subs.map ATree.ptr)[j]?=some u→w1.cell? ((⟨g1,0,none⟩:Addr).add j)=some u from fun j u hu=>by
    have hadd:(⟨g1,0,none⟩:Addr).add j=⟨g1,j,none⟩:=by unfold Addr.add; split <;> simp_all
    rw [hadd];exact Z17 hNk (g:=g1) rfl hu)
   obtain ⟨m,hm⟩:=zX x.subs.length
   have hm0:0 < m:=by rw [hm]; exact HPO.out
   have hLm:L.length + m≤100000:=by rw [hm]; exact hL2
   rw [← hm] at hc1 ⊢;have HM:=lh hm;have HNR:=lh hR1;have HNR0:=lh hNR;have HB1:=lh hB1;have HNF:=lh (show v.ownBlock≠some g1 from fun e=>by have:=(Yh hNR g1 e).2; omega);have HG1:=lh hg1;have hBS:=HB.out.size;have hB1s:=hB1.size;clear hNk hL hNR hL2 hLx hR1 hg1 hm hB1 HC HR HNX HL2
   go_wp2_with (at_builtin; go_must (refine wpList_append_lies _ rfl (.tmp 19) (.tmp 21) 36 rfl w.heap.size 22 i0 _ 1 8 Tryz.underlying36 hi hz0 hz1 hz2 rfl (by decide) v L.length (L.map ATree.ptr) rfl HNR.out ⟨g1,0,none⟩ m cap1 (x.subs.map ATree.ptr) rfl (by simp [HM.out]) NEWS.out (fun u hu=>by obtain ⟨z,_,rfl⟩:=List.mem_map.1 hu; rfl) (by omega) (by unfold maxLen; omega) (by omega) (by omega) w1.heap.size (by simp) ?_); intro gg cap w2 hown2 hgrow2 hat2 hgl2; have HG:=lh hgrow2; have HW:=lh hown2; clear hgrow2 hown2 hat2 hgl2)
   go_roundw
   case rel=>
    refine ⟨k + 1,_,rfl,by omega,by go_num,lh ?_,lh ?_⟩
    ·rw [← HLX.out];unfold Z62;rw [Yq,Yu,← HM.out];exact HW.out
    ·exact (HB.out.trans (HB1.out.mono hBS)).grown HG.out (by omega) fun j hj=>(Yh HNR0.out j hj).1
   case measure=>simp [intOf]; omega
  ·have hk2 : k = n := by omega
   subst hk2;go_wp2;go_ret;refine ⟨_,rfl,?_,HB.out⟩;have:=HR.out;rwa [Ym (by rw [← HN.out]; exact Y5 _),← Zd1] at this
end Go.Proofs.YtmeiggjboakmpaaGreatDoor
namespace Go.Proofs.YtmeiggjboakmpaaGreatDoor
open Go Go.RowKit Go.Maps
set_option maxRecDepth 100000
set_option maxHeartbeats 20000000
set_option linter.unusedVariables false
theorem Zjv (w:World) (s:ByteArray) (hlen:s.size≤maxLen) (c0:Int) (hc:(litD Zk1).atKey (.string s.data.toList) (.lit (.int .i64 0))=.lit (.int .i64 c0)) :
 Calls Tryz.prog 127 #[.string s] w fun e w'=>e=.returned (.int .i64 c0)∧Below w.heap.size w w':=by
 have hmm:=@run_makeMap Tryz.prog;have h0:=World.ownsMap_made (H:=Unit) w Tryz.prog 9 (plainElem Tryz.prog 3);have hB0:Below w.heap.size w (w.alloc (.map #[] 0)):=(Y8 _ _).alloc (Y5 _) _;have HL:=lh hlen;have HC:=lh hc;clear hlen hc;go_enter Tryz.func127,Tryz.ntmps127
 go_wp2_with (first | (refine Z9 _ rfl _ _ _ 82 rfl 9 3 Tryz.keyedS Tryz.underlying82 _ _ 0 _ rfl h0 (by unfold maxLen; omega) _ _ _ rfl rfl (Yw Yr (by decide)) _ [] (plainElem_int Ys (by decide)) ?_; intro w1 h1 g1) | (refine Z9 _ rfl _ _ _ 82 rfl 9 3 Tryz.keyedS Tryz.underlying82 _ _ 1 _ rfl h1 (by unfold maxLen; omega) _ _ _ rfl rfl (Yw Yr (by decide)) _ [] (plainElem_int Ys (by decide)) ?_; intro w2 h2 g2) | (refine Z9 _ rfl _ _ _ 82 rfl 9 3 Tryz.keyedS Tryz.underlying82 _ _ 2 _ rfl h2 (by unfold maxLen; omega) _ _ _ rfl rfl (Yw Yr (by decide)) _ [] (plainElem_int Ys (by decide)) ?_; intro w3 h3 g3) | (refine Z9 _ rfl _ _ _ 82 rfl 9 3 Tryz.keyedS Tryz.underlying82 _ _ 3 _ rfl h3 (by unfold maxLen; omega) _ _ _ rfl rfl (Yw Yr (by decide)) _ [] (plainElem_int Ys (by decide)) ?_; intro w4 h4 g4) | (refine Z9 _ rfl _ _ _ 82 rfl 9 3 Tryz.keyedS Tryz.underlying82 _ _ 4 _ rfl h4 (by unfold maxLen; omega) _ _ _ rfl rfl (Yw Yr (by decide)) _ [] (plainElem_int Ys (by decide)) ?_; intro w5 h5 g5) | (refine Z9 _ rfl _ _ _ 82 rfl 9 3 Tryz.keyedS Tryz.underlying82 _ _ 5 _ rfl h5 (by unfold maxLen; omega) _ _ _ rfl rfl (Yw Yr (by decide)) _ [] (plainElem_int Ys (by decide)) ?_; intro w6 h6 g6) | (refine Z9 _ rfl _ _ _ 82 rfl 9 3 Tryz.keyedS Tryz.underlying82 _ _ 6 _ rfl h6 (by unfold maxLen; omega) _ _ _ rfl rfl (Yw Yr (by decide)) _ [] (plainElem_int Ys (by decide)) ?_; intro w7 h7 g7) | (at_lookup; refine wpList_lookup_own_int _ rfl _ _ 82 rfl 9 3 .i64 Tryz.keyedS Tryz.underlying82 Ys (Tryz.zeroI _) _ 7 _ rfl h7 _ _ rfl (Yw Yr HL.out) ?_; intro c hat hwc))
 go_ret;have e:=HC.out.symm.trans hat;obtain rfl:c0=c:=by
  have:(DataW.lit (.int .i64 c0):DataW Unit)=.lit (.int .i64 c):=e;simpa using this
 have s0:w.heap.size≤(w.alloc (.map #[] 0)).heap.size:=hB0.size;have B1:=Z00 hB0 g1 (Y5 _) s0;have B2:=Z00 B1 g2 (Y5 _) B1.size;have B3:=Z00 B2 g3 (Y5 _) B2.size;have B4:=Z00 B3 g4 (Y5 _) B3.size;have B5:=Z00 B4 g5 (Y5 _) B4.size;have B6:=Z00 B5 g6 (Y5 _) B5.size;exact ⟨rfl,Z00 B6 g7 (Y5 _) B6.size⟩
theorem Zkd (w:World) (s:ByteArray) (hs:Z37 s≠0):Calls Tryz.prog 127 #[.string s] w fun e w'=>e=.returned (.int .i64 (Z37 s))∧Below w.heap.size w w':=by
 have key:s=s_or∨s=Z5n∨s=Z3j∨s=Z4i∨s=Z51∨s=Z5p∨s=Z6n:=by
  unfold Z37 Z15 at hs;simp only [decide_eq_true_eq] at hs;by_cases h1:s=s_or;·exact .inl h1
  by_cases h2:s=Z5n;·exact .inr (.inl h2)
  by_cases h3:s=Z3j;·exact .inr (.inr (.inl h3))
  by_cases h4:s=Z4i;·exact .inr (.inr (.inr (.inl h4)))
  by_cases h5:s=Z51;·exact .inr (.inr (.inr (.inr (.inl h5))))
  by_cases h6:s=Z5p;·exact .inr (.inr (.inr (.inr (.inr (.inl h6)))))
  by_cases h7:s=Z6n;·exact .inr (.inr (.inr (.inr (.inr (.inr h7)))))
  simp [h1,h2,h3,h4,h5,h6,h7] at hs
 rcases key with rfl | rfl | rfl | rfl | rfl | rfl | rfl;all_goals exact Zjv w _ (by decide) _ (by kernel_rfl)
end Go.Proofs.YtmeiggjboakmpaaGreatDoor
namespace Go.Proofs.YtmeiggjboakmpaaGreatDoor
open Go Go.RowKit
set_option maxRecDepth 100000
set_option maxHeartbeats 20000000
set_option linter.unusedVariables false
def bArg (lv:Nat) (rb:Nat):Array Value:=#[.pointer (some ⟨rb,0,none⟩),.int .i64 lv]
theorem Ze4 {lv:Nat} {ts:List Tok} (h:∀ (i:Nat) (x:ByteArray),(levL lv)[i]?=some x→isT x ts=false):Z2i lv ts=0:=by
 match lv with
 | 0=>have h0:=h 0 s_or rfl; simp [Z2i,h0]
 | 1=>have h0:=h 0 Z5n rfl; simp [Z2i,h0]
 | 2=>have h0:=h 0 Z3j rfl; simp [Z2i,h0]
 | 3=>have h0:=h 0 Z4i rfl; simp [Z2i,h0]
 | 4=>have h0:=h 0 Z51 rfl; have h1:=h 1 Z5p rfl; simp [Z2i,h0,h1]
 | 5=>have h0:=h 0 Z6n rfl; simp [Z2i,h0]
 | n + 6=>rfl
theorem Zf2 {lv:Nat} {ts:List Tok} {k:Nat} {x:ByteArray} (hk:(levL lv)[k]?=some x) (hx:isT x ts=true) (h:∀ (i:Nat) (y:ByteArray),i < k→(levL lv)[i]?=some y→isT y ts=false):Z2i lv ts=Z37 x∧Z37 x≠0:=by
 match lv with
 | 0 =>
   match k with
   | 0 => obtain rfl : s_or = x := by simpa [levL] using hk
          exact ⟨by simp [Z2i,hx]; decide,by decide⟩
   | k + 1=>simp [levL] at hk
 | 1 =>
   match k with
   | 0 => obtain rfl : Z5n = x := by simpa [levL] using hk
          exact ⟨by simp [Z2i,hx]; decide,by decide⟩
   | k + 1=>simp [levL] at hk
 | 2 =>
   match k with
   | 0 => obtain rfl : Z3j = x := by simpa [levL] using hk
          exact ⟨by simp [Z2i,hx]; decide,by decide⟩
   | k + 1=>simp [levL] at hk
 | 3 =>
   match k with
   | 0 => obtain rfl : Z4i = x := by simpa [levL] using hk
          exact ⟨by simp [Z2i,hx]; decide,by decide⟩
   | k + 1=>simp [levL] at hk
 | 4 =>
   match k with
   | 0 => obtain rfl : Z51 = x := by simpa [levL] using hk
          exact ⟨by simp [Z2i,hx]; decide,by decide⟩
   | 1 => obtain rfl : Z5p = x := by simpa [levL] using hk
          have h0:=h 0 Z51 (by omega) rfl;exact ⟨by simp [Z2i,hx,h0]; decide,by decide⟩
   | k + 2=>simp [levL] at hk
 | 5 =>
   match k with
   | 0 => obtain rfl : Z6n = x := by simpa [levL] using hk
          exact ⟨by simp [Z2i,hx]; decide,by decide⟩
   | k + 1=>simp [levL] at hk
 | n + 6=>simp [levL] at hk
theorem Zh9 (f:Nat) (hU:Says 126 rArg .unary f):Says 115 (bArg 6) (.bin 6) (f + 1):=by
 intro w rb B d ts r hP hp;have hw:Z0 f .unary d ts=some r:=hp;have HC:=lh (hU w rb B d ts r hP hw);clear hP hp hw hU;unfold rArg at HC;unfold bArg;go_enter Tryz.func115,Tryz.ntmps115
 go_wp2;go_step3
 go_wp2_with fail
 refine HC.out.mono ?_;rcases r with ⟨c,p⟩ | ⟨t,ts'⟩
 ·rintro e w2 ⟨⟨b,rfl,h1,h2⟩,hF⟩;exact ⟨rfl,⟨b,rfl,h1,h2⟩,hF⟩
 ·rintro e w2 ⟨a, rfl, hG, hR, hF⟩;have HG := lh hG;have HR := lh hR;have HF := lh hF;clear hG hR hF HC;go_wp2;try rw [Exit.noGoto_ret]
  go_ret;exact ⟨a,rfl,HG.out,HR.out,HF.out⟩
theorem Zad {P:Program} {a:Act} {w:World} {Q:Exit→Act→World→Prop} {c rest:Code} (l:Nat) (J:Act→World→Prop) (μ:Act→World→Nat) (hf:findLabel c l=some (Code.skip.seq rest))
 (first:(∀ a w,J a w→rest.wp P (Exit.jump l J Q) a w)→c.wp P (Exit.jump l J Q) a w)
 (pass:∀ a w,J a w→rest.wp P (Exit.jump l (fun a' w'=>J a' w'∧μ a' w' < μ a w) Q) a w):(Code.scope c).wp P Q a w:=
 wp_scope_jumps l J μ hf (first fun a w h=>Code.wp_mono (fun e a' w' hq=>by cases e <;> first | exact hq | exact ⟨hq.1,hq.2.1⟩) (pass a w h)) fun a w h=>wp_seq (wp_skip (pass a w h))
def BinJ (f lv d:Nat) (w:World) (rb B:Nat) (r:Except (Int×Nat) (Tree×List Tok)) (n:Nat) (a:ATree) (w':World):Prop:=
 ∃ (g:Nat) (us:List Tok) (t:Tree),g≤f∧Z0 g (.binLoop lv t) d us=some r∧Got w B w' a t∧Pre w' rb B d us∧RFr w w' rb∧us.length≤n
theorem Zix (f lv:Nat) (hlv:lv < 6) (hB:∀ g,g≤f→Says 115 (bArg (lv + 1)) (.bin (lv + 1)) g):Says 115 (bArg lv) (.bin lv) (f + 1):=by
 intro w rb B d ts r hP hp;have hw:Z0g (Z0 f (.bin (lv + 1)) d ts) (fun x ts=>Z0 f (.binLoop lv x) d ts)=some r:=by rw [← hp,Z0,Y9 (by omega)]
 have HP:=lh hP;have HB:=lh hB;have H1:=lh hw;have l6:((lv:Int) == 6)=false:=by simp; omega
 have l0:0≤(lv:Int):=by omega
 have l1:(lv:Int) < 6:=by omega
 have lw:((lv + 1:Nat):Int)=(lv:Int) + 1:=by omega
 clear hP hp hw hB;unfold bArg;go_enter Tryz.func115,Tryz.ntmps115
 go_wp2;refine Zad 0 (fun a' w'=>∃ (a:ATree) (u2 u3 u6 u7 u8 u9 u10 u11 u12 u13 u14 u15 u16 u17 u18 u19 u20 u21 u22 u23 u24 u25 u26 u27 u28 u29 u30 u31 u32 u33 u34 u35 u36 u37 u38:Value),a'={ tmps:=#[.pointer (some ⟨rb,0,none⟩),.int .i64 lv,u2,u3,.pointer none,.pointer (some ⟨a.b,0,none⟩),u6,u7,u8,u9,u10,u11,u12,u13,u14,u15,u16,u17,u18,u19,u20,u21,u22,u23,u24,u25,u26,u27,u28,u29,u30,u31,u32,u33,u34,u35,u36,u37,u38],defers:=[] }∧BinJ f lv d w rb B r ts.length a w') (fun _ w'=>leftOf w' rb) rfl (fun PASS=>?_) ?_
 ·have PASS := lh PASS;rcases Z09 H1.out with ⟨⟨c, p⟩, hv, rfl⟩ | ⟨t, us, hv, h2⟩
  ·have HV := (HB.out f (Y5 _)) w rb B d _ _ HP.out hv;unfold bArg at HV;rw [lw] at HV;have HV := lh HV;clear hv lw;go_wp2_with fail
   refine HV.out.mono ?_;rintro e w2 ⟨⟨b,rfl,h1,h2⟩,hF⟩;exact ⟨rfl,⟨b,rfl,h1,h2⟩,hF⟩
  ·have HV := (HB.out f (Y5 _)) w rb B d _ _ HP.out hv;unfold bArg at HV;rw [lw] at HV;have HV := lh HV;have hl := Z1h hv;have H2 := lh h2;clear hv h2 lw;go_wp2_with fail
   refine HV.out.mono ?_;rintro e w2 ⟨a,rfl,hG,hR2,hF2⟩;have hJ:BinJ f lv d w rb B r ts.length a w2:=⟨f,us,t,Y5 _,H2.out,hG,HP.out.next hR2 hF2 hl,hF2,hl⟩
   have HJ:=lh hJ;clear hG hR2 hF2 hl hJ;go_wp2_with fail
   go_step3
   rename_i Q1 K1 hK1;refine hK1 _ _ (PASS.out _ _ ?_);exact ⟨a,_,_,_,_,_,_,_,_,_,_,_,_,_,_,_,_,_,_,_,_,_,_,_,_,_,_,_,_,_,_,_,_,_,_,_,rfl,HJ.out⟩
 ·rintro a' w1 ⟨a, u2, u3, u6, u7, u8, u9, u10, u11, u12, u13, u14, u15, u16, u17, u18, u19, u20, u21, u22, u23, u24, u25, u26, u27, u28, u29, u30, u31, u32, u33, u34, u35, u36, u37, u38, rfl, g, us, t, hg, hq, hG, hP1, hF, hl⟩;have G1 := lh hG;have P1 := lh hP1;have F1 := lh hF;have RL := lh hP1.rd.left;have HL := lh hl;have HQ := lh hq;obtain ⟨tb, off, cap, hR⟩ := hP1.rd;obtain ⟨sb, so, sc, hgl, hsl, hc0, hsc, hcs⟩ := hR.lev lv hlv;have HCS := lh hcs;obtain ⟨n, hn⟩ := zX ((levL lv).length)
  have n2:n≤2:=by rw [hn]; match lv,hlv with | 0,_=>decide | 1,_=>decide | 2,_=>decide | 3,_=>decide | 4,_=>decide | 5,_=>decide
  rw [← hn] at hc0 hsc;have HN:=lh hn;have hsz:sb < w1.heap.size:=Nat.lt_trans hsl hR.rlt;obtain ⟨ab,hab⟩:=zX a.b
  rw [← hab];have HAB:=lh hab;clear hG hP1 hF hl hR hcs hn hq hab lw;go_wp2_with fail
  go_loopw [5,20] (fun v5 i wr=>v5=.pointer (some ⟨ab,0,none⟩)∧∃ k:Nat,k≤n∧i=.int .i64 k∧Hid (∀ (j:Nat) (y:ByteArray),j < k→(levL lv)[j]?=some y→isT y us=false)∧Hid (Below w1.heap.size w1 wr)) (fun _ i _=>n - (intOf i).toNat)
  case atStart=>exact ⟨rfl,0,Yp _,rfl,lh (fun j y hj=>by omega),lh (Y8 _ _)⟩
  case round=>
   obtain ⟨rfl,k,hk,rfl,NO,BW⟩:=hrel;by_cases hkn:k < n
   ·obtain ⟨x, hx⟩ : ∃ x, (levL lv)[k]? = some x := ⟨_, Yd (by rw [← HN.out]; exact hkn)⟩
    have cx:=(BW.out.cell (p:=⟨sb,so + k,none⟩) hsz).trans (HCS.out k x hx);have HX:=lh hx;have R2:=P1.out.rd.below BW.out;clear hx;by_cases hs:isT x us=true
    ·have hlt := Zf2 HX.out hs (fun j y hj hy => NO.out j y hj hy);have HT := lh (Z1g wr rb us d x R2 hs);have HS := lh hs;have LT := lh hlt;have hpos := Z0j hs;have HPOS := lh hpos;clear hs R2 hlt hpos;cases g with
     | zero=>cases HQ.out
     | succ g=>
     have hq:Z0g (Z0 g (.bin (lv + 1)) d us.tail) (fun y ts'=>Z0 g (.binLoop lv (.mk (Z2i lv us) ByteArray.empty 0 [t,y])) d ts')=some r:=by
      have hq:=HQ.out;rw [Z0,Y9 (by rw [LT.out.1]; exact LT.out.2)] at hq;exact hq
     rw [LT.out.1] at hq;have HQ2:=lh hq;clear hq;go_wp2_with fail
     refine HT.out.mono ?_;rintro e w2 ⟨rfl,hR2,hF2⟩;have P2:=lh ((P1.out.below BW.out).tail hR2 hF2);have F12:=lh ((RFr.below (rb:=rb) BW.out).trans hF2);have HSG:=lh (Zkd w2 x LT.out.2);obtain ⟨sk,hsk⟩:=zX (Z37 x)
     rw [← hsk] at HSG;have HSK:=lh hsk;clear hR2 hF2 HT hsk;go_wp2_with fail
     refine HSG.out.mono ?_;rintro e w3 ⟨rfl,hB3⟩;have P3:=lh (P2.out.below hB3);have F13:=lh (F12.out.trans (RFr.below (rb:=rb) hB3));have lw:((lv + 1:Nat):Int)=(lv:Int) + 1:=by omega
     clear hB3 HSG;rcases Z09 HQ2.out with ⟨⟨c,p⟩,hv,rfl⟩ | ⟨y,vs,hv,h4⟩
     ·have HV := (HB.out g (by omega)) w3 rb B d _ _ P3.out hv;unfold bArg at HV;rw [lw] at HV;have HV := lh HV;clear hv lw;go_wp2_with fail
      refine HV.out.mono ?_;rintro e w4 ⟨⟨b,rfl,h1,h2⟩,hF⟩;exact ⟨rfl,Z0t.pre (F1.out.trans F13.out) (r:=.error (c,p)) ⟨⟨b,rfl,h1,h2⟩,hF⟩⟩
     ·have HV := (HB.out g (by omega)) w3 rb B d _ _ P3.out hv;unfold bArg at HV;rw [lw] at HV;have HV := lh HV;have hll := Z1h hv;have H4 := lh h4;clear hv lw h4;go_wp2_with fail
      refine HV.out.mono ?_;rintro e w4 ⟨c,rfl,hC,hR4,hF4⟩;have hG13:=G1.out.rfr P1.out.lt F13.out;have hG4:=hG13.rfr P1.out.lt hF4;have F4:=(F1.out.trans F13.out).trans hF4;have hfin:=Got.two (k:=sk) (t:=⟨#[]⟩) HP.out.le F4 hG4 (wA:=w3) (fun x hx=>(hG13.new x hx).2) (F1.out.trans F13.out).size hC;have hb1:Below w4.heap.size w4 (w4.alloc (.cells #[.pointer (some ⟨ab,0,none⟩),.pointer (some ⟨c.b,0,none⟩)] 22)):=(Y8 _ _).alloc (Y5 _) _
      have hb2:Below w4.heap.size w4 ((w4.alloc (.cells #[.pointer (some ⟨ab,0,none⟩),.pointer (some ⟨c.b,0,none⟩)] 22)).alloc (.cells #[.int .i64 sk,.string ⟨#[]⟩,.int .i64 0,.slice (some ⟨w4.heap.size,0,none⟩) 2 2] 38)):=hb1.alloc (by simp) _;have F6:=lh (F4.trans (RFr.below (rb:=rb) hb2));have P6:=lh (((P3.out.next hR4 hF4 hll).below hb2));have FIN:=lh hfin;have HLL:=lh hll;clear hC hR4 hF4 hG4 hG13 F4 HV hb1 hb2 hfin hll;go_wp2_with fail
      refine (Z14 _ rb sk ⟨#[]⟩ _ 2 2).mono ?_;rintro e w7 ⟨rfl,rfl⟩;go_wp2;go_step3
      refine ⟨rfl,⟨.mk (w4.heap.size + 1) (.slice (some ⟨w4.heap.size,0,none⟩) 2 2) sk ⟨#[]⟩ 0 [a,c],_,_,_,_,_,_,_,_,_,_,_,_,_,_,_,_,_,_,_,_,_,_,_,_,_,_,_,_,_,_,_,_,_,_,_,rfl,g,vs,.mk sk ByteArray.empty 0 [t,y],by omega,?_,?_,P6.out,F6.out,?_⟩,?_⟩;·rw [HSK.out]; exact H4.out
      ·rw [HAB.out]; exact FIN.out
      ·have:=HLL.out; have:=HL.out; have:=Z19 us; omega
      ·rw [P6.out.rd.left,RL.out]; have:=HLL.out; have:=HPOS.out; omega
    ·have hs' : isT x us = false := by simpa using hs
     have HT:=lh (Z22 wr rb us d x R2 hs');have HS:=lh hs';clear hs hs' R2;go_wp2_with fail
     refine HT.out.mono ?_;rintro e w2 ⟨rfl,hB2⟩;have B2:=lh hB2;clear hB2;go_wp2;go_roundw
     case rel=>exact ⟨rfl,k + 1,by omega,by go_num,lh (fun j y hj hy=>by
      by_cases e:j=k;·subst e; obtain rfl:=Yk (HX.out.symm.trans hy); exact HS.out
      ·exact NO.out j y (by omega) hy),lh (BW.out.trans (B2.out.mono BW.out.size))⟩
     case measure=>simp [intOf]; omega
   ·have hkk : k = n := by omega
    have NO2:Hid (Z2i lv us=0):=lh (Ze4 fun i y hi=>NO.out i y (by rw [hkk,HN.out]; exact (List.getElem?_eq_some_iff.1 hi).1) hi);clear hkk;go_wp2_with fail
    simp only [Exit.jump];go_ret;cases g with
    | zero=>cases HQ.out
    | succ g =>
      have hq:=HQ.out;rw [Z0,Yb NO2.out] at hq;obtain rfl:=Yk hq;rw [HAB.out];exact ⟨a,rfl,G1.out.rfr P1.out.lt (RFr.below BW.out),P1.out.rd.below BW.out,F1.out.trans (RFr.below BW.out)⟩
end Go.Proofs.YtmeiggjboakmpaaGreatDoor
namespace Go.Proofs.YtmeiggjboakmpaaGreatDoor
open Go
set_option maxRecDepth 100000
set_option maxHeartbeats 20000000
set_option linter.unusedVariables false
section
variable {P:Program} {ops:Array Oper} {md:Region.Mode}
def Zca (P:Program) (ops:Array Oper) (K:Act→Prop):List Oper→Act→Prop
 | [],a=>K a
 | o :: r,a=>∃ v,YieldsIf P ops (fun _=>True) o v a∧Zca P ops K r (a.put o.dst v)
theorem Zeq {K:Act→Prop} {o:Oper} {r:List Oper} {a:Act} (v:Value)
 (hw:Region.wanted o (yielded ops a.tmps)=true) (hy:∀ w',True→(execOp a.eval o).run P w'=.ok (.value v) w') (h:Zca P ops K r (a.put o.dst v)):Zca P ops K (o :: r) a:=
 ⟨v,.inl ⟨hw,hy⟩,h⟩
def Zjq (md:Region.Mode) (ops:Array Oper):List Nat→Array Bool→Bool
 | [],_=>true
 | i :: r,listed=>(Region.ready md ops listed).contains i && Region.free md ops listed i && Zjq md ops r (listed.setIfInBounds i true)
def dagB (md:Region.Mode) (ops:Array Oper) (pre L ph:List Nat):Bool:=
 Region.noSelect ops && Z4g md ops ph && Zch md ops ph (((List.range ops.size).map fun j=>!ph.contains j).toArray) && Zjq md ops pre (Z1p ph (Array.replicate ops.size false)) &&
  decide (pre.length + L.length + ph.length=ops.size) && (pre.all fun i=>decide (i < ops.size)) && ((List.range ops.size).all fun j=>pre.contains j || L.contains j || ph.contains j)
theorem Z3r {m:Array Bool} {i j:Nat} (h:i < m.size):(m.setIfInBounds i true).getD j false=if i=j then true else m.getD j false:=by
 by_cases e:i=j;·subst e; simp [h]
 ·rw [getD_set_ne false e,Y9 e]
theorem Zhs {Q:Exit→Act→World→Prop} {L:List Nat} (Inv:Array Bool→Act→World→Prop) (hback:Zho md ops=true)
 (hS:∀ listed i a w,listed.size=ops.size→i∈L→i < ops.size→listed.getD i false=false→(∀ j,waits md ops i j=true→listed.getD j false=true)→Inv listed a w→wpOp P ops Q i (fun a' w'=>Inv (listed.setIfInBounds i true) a' w') a w)
 (hE:∀ listed a w,(∀ j,j < ops.size→listed.getD j false=true)→Inv listed a w→Q .normal a w) :
 ∀ (k:Nat) (listed:Array Bool) (a:Act) (w:World),listed.size=ops.size→(∀ j,j < ops.size→listed.getD j false=true∨j∈L)→(L.filter fun j=>!listed.getD j true).length≤k→Inv listed a w→wpAnyH P md ops Q (fun _=>True) k listed a w:=by
 have done:∀ listed:Array Bool,listed.size=ops.size→Region.ready md ops listed=[]→∀ j,j < ops.size→listed.getD j false=true:=by
  intro listed hs hr j hj;cases h:listed.getD j false with
  | true=>rfl
  | false=>exact absurd hr (Z7z hback hs j hj h)
 intro k;induction k with
 | zero =>
   intro listed a w hs hL hk hI;have hr:Region.ready md ops listed=[]:=by
    refine List.eq_nil_iff_forall_not_mem.2 fun i hi=>?_;obtain ⟨h0,o,ho,_⟩:=mem_ready.1 hi;have hil:i < ops.size:=(Y6.1 ho).1;have h1:i∈L:=(hL i hil).resolve_left (by rw [← Zav (by omega),h0]; simp);have:i∈L.filter fun j=>!listed.getD j true:=List.mem_filter.2 ⟨h1,by rw [h0]; rfl⟩;have:=List.length_pos_of_mem this;omega
   exact ⟨hr,hE listed a w (done listed hs hr) hI⟩
 | succ k ih =>
   intro listed a w hs hL hk hI;refine ⟨fun hr=>hE listed a w (done listed hs hr) hI,fun i hi=>?_⟩;obtain ⟨h0,o,ho,hall⟩:=mem_ready.1 hi;have hil:i < ops.size:=(Y6.1 ho).1;have h0':listed.getD i false=false:=by rw [← Zav (by omega)]; exact h0
   have h1:i∈L:=(hL i hil).resolve_left (by rw [h0']; simp);refine wpOp_mono (fun a' w' h=>⟨trivial,ih _ a' w' (by simpa using hs) (fun j hj=>?_) ?_ h⟩) (hS listed i a w hs h1 hil h0' (fun j hj=>Z7t hj hi) hI)
   ·rw [Z3r (by omega)];by_cases e : i = j;·rw [Yb e]; exact .inl rfl
    ·rw [Y9 e]; exact hL j hj
   ·have hlt:(L.filter fun j=>!(listed.setIfInBounds i true).getD j true).length < (L.filter fun j=>!listed.getD j true).length:=by
     have sub:∀ l:List Nat,(l.filter fun j=>!(listed.setIfInBounds i true).getD j true).length≤(l.filter fun j=>!listed.getD j true).length∧(i∈l→(l.filter fun j=>!(listed.setIfInBounds i true).getD j true).length < (l.filter fun j=>!listed.getD j true).length):=by
      intro l;induction l with
      | nil=>exact ⟨Y5 _,fun h=>by cases h⟩
      | cons x l ihl =>
        by_cases e:i=x
        ·subst e;have e1 : (listed.setIfInBounds i true).getD i true = true := by simp [show i < listed.size by omega]
         simp only [List.filter_cons,e1,h0,Bool.not_true,Bool.not_false,if_true,Bool.false_eq_true,if_false,List.length_cons];exact ⟨by omega,fun _=>by omega⟩
        ·have e1 : (listed.setIfInBounds i true).getD x true = listed.getD x true := getD_set_ne true e;simp only [List.filter_cons, e1];cases listed.getD x true
         ·simp only [Bool.not_false,if_true,List.length_cons];exact ⟨by omega,fun h=>by have:=ihl.2 (by rcases List.mem_cons.1 h with h | h; exact absurd h e; exact h); omega⟩
         ·simp only [Bool.not_true,Bool.false_eq_true,if_false];exact ⟨ihl.1,fun h=>ihl.2 (by rcases List.mem_cons.1 h with h | h; exact absurd h e; exact h)⟩
     exact (sub L).2 h1
    omega
theorem Zbn {Q:Exit→Act→World→Prop} (hsel:Region.noSelect ops=true) (hQ:∀ c a d v w,Q (.panic c) (Act.put a d v) w→Q (.panic c) a w) {w:World} {fuel:Nat} :
 ∀ (l:List Nat) (listed:Array Bool) (a:Act),Zjq md ops l listed=true→(∀ i∈l,i < ops.size)→Zca P ops (fun a'=>wpAnyH P md ops Q (fun _=>True) fuel (Z1p l listed) a' w) (l.filterMap (ops[·]?)) a→wpAnyH P md ops Q (fun _=>True) (fuel + l.length) listed a w
 | [],listed,a,_,_,h=>h
 | i :: l, listed, a, hB, hin, h => by
   simp only [Zjq,Bool.and_eq_true] at hB;obtain ⟨⟨hr,hf⟩,hB'⟩:=hB;have hil:=hin i (List.mem_cons_self ..);have ho:ops[i]?=some ops[i]:=Array.getElem?_eq_getElem hil;rw [List.filterMap_cons,ho] at h;obtain ⟨v,hy,h'⟩:=h;have e:fuel + (i :: l).length=(fuel + l.length) + 1:=by simp; omega
   rw [e];exact wpAnyH_take ho hsel hf hr (fun c a w=>hQ c a _ _ w) hy trivial (Zbn hsel hQ l _ _ hB' (fun j hj=>hin j (List.mem_cons_of_mem _ hj)) h')
theorem Zag {Q:Exit→Act→World→Prop} {id:Nat} {l:List Oper} {a:Act} {w:World} (pre L ph:List Nat) (hm:P.follows .mixedOrders=true)
 (hB:dagB .any l.toArray pre L ph=true) (hQ:∀ c a d v w,Q (.panic c) (Act.put a d v) w→Q (.panic c) a w) (Inv:Array Bool→Act→World→Prop)
 (hP:Zca P l.toArray (fun a'=>Inv (Z1p pre (Z1p ph (Array.replicate l.toArray.size false))) a' w.drew) (pre.filterMap (l.toArray[·]?)) a)
 (hS:∀ listed i a w,listed.size=l.toArray.size→i∈L→i < l.toArray.size→listed.getD i false=false→(∀ j,waits .any l.toArray i j=true→listed.getD j false=true)→Inv listed a w→wpOp P l.toArray (Ends (wpList P l.toArray Q (ph.filterMap (l.toArray[·]?))) Q) i (fun a' w'=>Inv (listed.setIfInBounds i true) a' w') a w)
 (hE:∀ listed a w,(∀ j,j < l.toArray.size→listed.getD j false=true)→Inv listed a w→wpList P l.toArray Q (ph.filterMap (l.toArray[·]?)) a w):(Code.region id l.toArray true).wp P Q a w:=by
 simp only [dagB,Bool.and_eq_true,decide_eq_true_eq] at hB;obtain ⟨⟨⟨⟨⟨⟨hsel,hph⟩,hseq⟩,hpre⟩,hlen⟩,hin1⟩,hcov⟩:=hB;refine wp_region_any hm ?_;have hback:Zho .any l.toArray=true:=by
  cases ph with
  | nil=>simp [Z4g] at hph
  | cons t r=>simp only [Z4g,Bool.and_eq_true] at hph; exact hph.1.1.1
 have hin:∀ t∈ph,t < l.toArray.size:=by
  cases ph with
  | nil=>simp [Z4g] at hph
  | cons t r =>
    simp only [Z4g,Bool.and_eq_true] at hph;intro u hu;simpa using List.all_eq_true.1 hph.1.1.2 u hu
 have hsz:(Z1p pre (Z1p ph (Array.replicate l.toArray.size false))).size=l.toArray.size:=by rw [Z47,Z47]; simp
 have G:∀ a w,Inv (Z1p pre (Z1p ph (Array.replicate l.toArray.size false))) a w→wpAnyH P .any l.toArray (Ends (wpList P l.toArray Q (ph.filterMap (l.toArray[·]?))) Q) (fun _=>True) L.length (Z1p pre (Z1p ph (Array.replicate l.toArray.size false))) a w:=fun a w h=>
  Zhs (P:=P) (Q:=Ends (wpList P l.toArray Q (ph.filterMap (l.toArray[·]?))) Q) Inv hback hS hE L.length _ a w hsz (fun j hj=>by
   have h1:=List.all_eq_true.1 hcov j (List.mem_range.2 hj);simp only [Bool.or_eq_true,List.contains_eq_mem,decide_eq_true_eq] at h1;rcases h1 with (h1 | h1) | h1;·exact .inl (Z4u h1 (by rw [Z47]; simpa using hj))
   ·exact .inr h1
   ·exact .inl (Z3v (Z4u h1 (by simpa using hj)))) (List.length_filter_le _ _) h
 have mono:∀ (os:List Oper) (a:Act),Zca P l.toArray (fun a'=>Inv (Z1p pre (Z1p ph (Array.replicate l.toArray.size false))) a' w.drew) os a→Zca P l.toArray (fun a'=>wpAnyH P .any l.toArray (Ends (wpList P l.toArray Q (ph.filterMap (l.toArray[·]?))) Q) (fun _=>True) L.length (Z1p pre (Z1p ph (Array.replicate l.toArray.size false))) a' w.drew) os a:=by
  intro os;induction os with
  | nil=>intro a h; exact G a w.drew h
  | cons o os ih=>intro a h; obtain ⟨v,hy,h⟩:=h; exact ⟨v,hy,ih _ h⟩
 have H:=Zbn (P:=P) (md:=.any) (Q:=Ends (wpList P l.toArray Q (ph.filterMap (l.toArray[·]?))) Q) hsel hQ pre _ a hpre (fun i hi=>by simpa using List.all_eq_true.1 hin1 i hi) (mono _ a hP);have key:=Z8v (Q:=Q) hph (fun m hs hm'=>?_) (L.length + pre.length) (Array.replicate l.toArray.size false) a w.drew (by simp) ?_ ?_ (wpAny_of_held _ _ _ _ H);·rw [show L.length + pre.length + ph.length=l.toArray.size by omega] at key; exact key
 ·have:m=((List.range l.toArray.size).map fun j=>!ph.contains j).toArray:=by
   apply Array.ext;·simp only [hs,List.size_toArray,List.length_map,List.length_range]
   ·intro j h1 h2;have:=hm' j (by omega);simp only [List.getElem_toArray,List.getElem_map,List.getElem_range];rw [← this];simp [h1]
  rw [this]; exact hseq
 ·intro j o _ hl;rw [Z67] at hl;cases hl
 ·intro t _;exact Z67 _ _
end
end Go.Proofs.YtmeiggjboakmpaaGreatDoor
namespace Go.Proofs.YtmeiggjboakmpaaGreatDoor
open Go Go.RowKit Go.Maps
set_option maxRecDepth 100000
set_option maxHeartbeats 20000000
set_option linter.unusedVariables false
def unL:List ByteArray:=[Z5g,Z1l,Z1t]
theorem Zlf {ts:List Tok} (h:∀ (i:Nat) (x:ByteArray),i < 3→unL[i]?=some x→isT x ts=false):Z3g ts=0:=by
 have h0:=h 0 Z5g (by omega) rfl; have h1:=h 1 Z1l (by omega) rfl; have h2:=h 2 Z1t (by omega) rfl;simp [Z3g,h0,h1,h2]
theorem Zlh {ts:List Tok} {k:Nat} {x:ByteArray} (hk:unL[k]?=some x) (hx:isT x ts=true) (h:∀ (i:Nat) (y:ByteArray),i < k→unL[i]?=some y→isT y ts=false):Z3g ts=32 + k∧x.size≤maxLen ∧
 (litD [(Z5g,32),(Z1l,33),(Z1t,34)]).atKey (.string x.data.toList) (.lit (.int .i64 0))=.lit (.int .i64 (32 + k)):=by
 match k with
 | 0 => obtain rfl : Z5g = x := by simpa [unL] using hk
        exact ⟨by simp [Z3g,hx],by decide,by kernel_rfl⟩
 | 1 => obtain rfl : Z1l = x := by simpa [unL] using hk
        have h0:=h 0 Z5g (by omega) rfl;exact ⟨by simp [Z3g,hx,h0],by decide,by kernel_rfl⟩
 | 2 => obtain rfl : Z1t = x := by simpa [unL] using hk
        have h0:=h 0 Z5g (by omega) rfl; have h1:=h 1 Z1l (by omega) rfl;exact ⟨by simp [Z3g,hx,h0,h1],by decide,by kernel_rfl⟩
 | k + 3=>simp [unL] at hk
theorem Z6b {P:Program} {ops:Array Oper} {Q:Exit→Act→World→Prop} {i:Nat} {o:Oper} {K:Act→World→Prop} {a:Act} {w:World} (hi:ops[i]?=some o)
 (h:if Region.wanted o (yielded ops a.tmps)=true then o.wp P a w K Q else K (a.put o.dst undef) w):wpOp P ops Q i K a w:=by
 unfold wpOp;simp only [hi];split;·rename_i hw; rw [Yb hw] at h; exact .inl h
 ·rename_i hw; rw [Y9 hw] at h; exact h
theorem Z1z {H:Type} {P:Program} {w:World} {o:Oper} {a:Act} {K:Act→World→Prop} {Q:Exit→Act→World→Prop}
 (m x v:Operand) (t:TypeId) (hop:o.op=Op.insert t m x v)
 (k e:TypeId) (KK:Keyed P k) (ht:P.underlying t=some (.map k e)) (R:Value→Option (DataW H×List MemPlace)) (b n:Nat) (D:DataW H)
 (hm:a.eval m=.map (some b)) (hown:w.ownsMap P k R b n D) (hn:n < maxLen) (key val:Value) (kl:Lit) (hx:a.eval x=key) (hv:a.eval v=val) (hkey:keyOf P k key=some kl)
 (d:DataW H) (ps:List MemPlace) (hval:R val=some (d,ps))
 (hK:∀ w',w'.ownsMap P k R b (n + 1) (D.put kl d)→w.grownBy w' (some b)→K (a.put o.dst undef) w'):o.wp P a w K Q:=by
 obtain ⟨w',hrun,r1,r2⟩:=hown.update KK ht hn hkey hval;unfold Oper.wp;simp [execOp,hop,hm,hx,hv,hrun,Result.andThen];exact hK w' r1 r2
theorem Z3p {H:Type} {P:Program} {w:World} {o:Oper} {a:Act} {K:Act→World→Prop} {Q:Exit→Act→World→Prop}
 (m x:Operand) (t:TypeId) (hop:o.op=Op.lookup t m x false)
 (k e:TypeId) (q:IntKind) (KK:Keyed P k) (ht:P.underlying t=some (.map k e)) (he:P.underlying e=some (.int q)) (hz:(zeroValue e).run P w=.ok (.int q 0) w) (b n:Nat) (D:DataW H)
 (hm:a.eval m=.map (some b)) (hown:w.ownsMap P k (plainElem P e) b n D) (key:Value) (kl:Lit) (hx:a.eval x=key) (hkey:keyOf P k key=some kl)
 (hK:∀ c:Int,D.atKey kl (.lit (.int q 0))=.lit (.int q c)→K (a.put o.dst (.int q c)) w):o.wp P a w K Q:=by
 obtain ⟨c,hrun,hat,hwc⟩:=hown.lookup_int KK ht he hz hkey;unfold Oper.wp;simp [execOp,hop,hm,hx,hrun,Result.andThen];exact hK c hat
def unD (b2 b3 b4:Bool):DataW Unit:=litD ((if b2 then [(Z5g,32)] else []) ++ (if b3 then [(Z1l,33)] else []) ++ (if b4 then [(Z1t,34)] else []))
theorem Zn2 (b3 b4:Bool):(unD false b3 b4).put (.string [33]) (.lit (.int .i64 32))=unD true b3 b4:=by cases b3 <;> cases b4 <;> kernel_rfl
theorem Zmu (b2 b4:Bool):(unD b2 false b4).put (.string [116,121,112,101,111,102]) (.lit (.int .i64 33))=unD b2 true b4:=by cases b2 <;> cases b4 <;> kernel_rfl
theorem Zn6 (b2 b3:Bool):(unD b2 b3 false).put (.string [100,101,108,101,116,101]) (.lit (.int .i64 34))=unD b2 b3 true:=by cases b2 <;> cases b3 <;> kernel_rfl
def Zn4 (w0:World) (k:Nat) (b1 b2 b3 b4 b5 b7:Bool) (v15 v16 v18:Value) (w':World) (mb:Nat):Prop:=
 (b1 = true → v15 = .map (some mb) ∧ w0.heap.size ≤ mb ∧ mb < w'.heap.size ∧ ∃ n, n ≤ b2.toNat + b3.toNat + b4.toNat ∧ w'.ownsMap (H := Unit) Tryz.prog 9 (plainElem Tryz.prog 3) mb n (unD b2 b3 b4)) ∧ (b5 = true → v16 = .map (some mb) ∧ b1 = true ∧ b2 = true ∧ b3 = true ∧ b4 = true) ∧ (b7 = true → v18 = .int .i64 (32 + (k : Int))) ∧
  (b1=false→b2=false∧b3=false∧b4=false)
def Z8p (w0:World) (rb B d:Nat) (us:List Tok) (r:Except (Int×Nat) (Tree×List Tok)) (b1 b11 b12:Bool) (v22 v23:Value) (w':World) (mb:Nat):Prop:=
 (b11 = false → Pre w' rb B d us ∧ RFr w0 w' rb ∧ b12 = false) ∧ (b11 = true → ∃ (a : ATree) (t : Tree) (ts' : List Tok), r = .ok (t, ts') ∧ v22 = .pointer (some ⟨a.b, 0, none⟩) ∧ Got w0 B w' a t ∧ Rd w' rb ts' d ∧ RFr w0 w' rb ∧ (b1 = true → mb ∉ a.blocks) ∧
  (b12=true→∃ g,v23=.slice (some ⟨g,0,none⟩) 1 1∧(b1=true→g≠mb)∧g ∉ a.blocks∧w0.heap.size≤g∧w'.heap[g]?=some (.cells #[a.ptr] 22 (0,0))))
def UnSt (w0:World) (rb B d:Nat) (us:List Tok) (r:Except (Int×Nat) (Tree×List Tok)) (k:Nat) (b1 b2 b3 b4 b5 b7 b11 b12:Bool) (v15 v16 v18 v22 v23:Value) (w':World):Prop:=
 ∃ mb,Zn4 w0 k b1 b2 b3 b4 b5 b7 v15 v16 v18 w' mb∧Z8p w0 rb B d us r b1 b11 b12 v22 v23 w' mb∧rb < B∧B≤w0.heap.size∧w0.heap.size≤w'.heap.size
section
variable {w0 w' w'':World} {rb B d k mb:Nat} {us:List Tok} {r:Except (Int×Nat) (Tree×List Tok)} {v15 v16 v18 v22 v23:Value} {b1 b2 b3 b4 b5 b7 b11 b12:Bool}
theorem Z8p.keep (h:Z8p w0 rb B d us r b1 b11 b12 v22 v23 w' mb) (hr:rb < B) (hB:B≤w0.heap.size) (hs:w'.heap.size≤w''.heap.size) (ho:w''.os=w'.os) (ht:w''.tape=w'.tape) (hu:w''.output=w'.output) (hb:∀ x,x < w'.heap.size→x≠mb→w''.heap[x]?=w'.heap[x]?)
 {b1':Bool} (hm:w0.heap.size≤mb) (hp:b1=true∨w'.heap.size≤mb):Z8p w0 rb B d us r b1' b11 b12 v22 v23 w'' mb:=by
 have hRF:∀ {w0:World},w0.heap.size≤mb→RFr w0 w' rb→RFr w0 w'' rb:=fun hm h=>⟨ho.trans h.os,ht.trans h.tape,hu.trans h.output,Ya h.size hs,fun x hx hn=>(hb x (Ye hx h.size) (by omega)).trans (h.block x hx hn)⟩;refine ⟨fun hq=>?_,fun hq=>?_⟩
 ·obtain ⟨h1,h2,h3⟩:=h.1 hq;have:=h1.rd.rlt;exact ⟨⟨h1.rd.keep hs fun x hx=>hb x (by omega) (by omega),h1.deep,h1.lt,Ya h1.le hs,h1.few⟩,hRF hm h2,h3⟩
 ·obtain ⟨a,t,ts',e1,e2,G,R,F,hn,h2⟩:=h.2 hq;have hn':mb ∉ a.blocks:=by
   rcases hp with hp | hp;·exact hn hp
   ·intro hx; have:=(G.new mb hx).2; omega
  have:=R.rlt;refine ⟨a,t,ts',e1,e2,⟨G.tree,G.at'.keepB fun x hx=>hb x (G.new x hx).2 (fun e=>hn' (e ▸ hx)),G.nodup,fun x hx=>⟨(G.new x hx).1,Ye (G.new x hx).2 hs⟩⟩,R.keep hs fun x hx=>hb x (by omega) (by omega),hRF hm F,fun _=>hn',fun hq2=>?_⟩;obtain ⟨g,e3,hgm,hga,hg0,hgb⟩:=h2 hq2;have hgl:g < w'.heap.size:=(Y6.1 hgb).1;have hgm':g≠mb:=by
   rcases hp with hp | hp;·exact hgm hp
   ·omega
  exact ⟨g,e3,fun _=>hgm',hga,hg0,(hb g hgl hgm').trans hgb⟩
theorem Z8p.any (h:Z8p w0 rb B d us r b1 b11 b12 v22 v23 w' mb) (hp:b1=false) (mb':Nat):Z8p w0 rb B d us r b1 b11 b12 v22 v23 w' mb':=by
 refine ⟨h.1,fun hq=>?_⟩;obtain ⟨a,t,ts',e1,e2,G,R,F,hn,h2⟩:=h.2 hq;refine ⟨a,t,ts',e1,e2,G,R,F,fun h=>(by rw [hp] at h; cases h),fun hq2=>?_⟩;obtain ⟨g,e3,hgm,hrest⟩:=h2 hq2;exact ⟨g,e3,fun h=>(by rw [hp] at h; cases h),hrest⟩
theorem UnSt.make (h:UnSt w0 rb B d us r k false b2 b3 b4 b5 b7 b11 b12 v15 v16 v18 v22 v23 w'):UnSt w0 rb B d us r k true b2 b3 b4 b5 b7 b11 b12 (.map (some w'.heap.size)) v16 v18 v22 v23 (w'.alloc (.map #[] 0)):=by
 obtain ⟨mb,hm,hc,hr,hB,hs⟩:=h;obtain ⟨rfl,rfl,rfl⟩:=hm.2.2.2 rfl;have hal:Below w'.heap.size w' (w'.alloc (.map #[] 0)):=(Y8 _ _).alloc (Y5 _) _;refine ⟨w'.heap.size,⟨fun _=>⟨rfl,hs,by simp,0,by simp,World.ownsMap_made _ _ _ _⟩,fun h=>(by have:=(hm.2.1 h).2.1; cases this),hm.2.2.1,(fun h=>by cases h)⟩,(hc.any rfl w'.heap.size).keep hr hB hal.size hal.os hal.tape hal.output (fun x hx _=>hal.block x hx) hs (.inr (Y5 _)),hr,hB,Ya hs hal.size⟩
theorem UnSt.ins2 (h:UnSt w0 rb B d us r k true false b3 b4 false b7 b11 b12 v15 v16 v18 v22 v23 w'):∃ mb n,v15=.map (some mb)∧n < 4∧w'.ownsMap (H:=Unit) Tryz.prog 9 (plainElem Tryz.prog 3) mb n (unD false b3 b4) ∧
 ∀ w'',w''.ownsMap (H:=Unit) Tryz.prog 9 (plainElem Tryz.prog 3) mb (n + 1) ((unD false b3 b4).put (.string [33]) (.lit (.int .i64 32)))→w'.grownBy w'' (some mb)→UnSt w0 rb B d us r k true true b3 b4 false b7 b11 b12 v15 v16 v18 v22 v23 w'':=by
 obtain ⟨mb,hm,hc,hr,hB,hs⟩:=h;obtain ⟨e,h1,h2,n,h4,h5⟩:=hm.1 rfl;have n4:n < 4:=by have:=Bool.toNat_le b3; have:=Bool.toNat_le b4; have:(false).toNat=0:=rfl; omega
 refine ⟨mb,n,e,n4,h5,fun w'' ho hg=>?_⟩;rw [Zn2] at ho;exact ⟨mb,⟨fun _=>⟨e,h1,Ye h2 hg.size,_,by have:(false).toNat=0:=rfl; have:(true).toNat=1:=rfl; omega,ho⟩,(fun h=>by cases h),hm.2.2.1,(fun h=>by cases h)⟩,hc.keep hr hB hg.size hg.os hg.tape hg.output (fun x hx hn=>hg.block x hx (fun e=>hn (by cases e; rfl))) h1 (.inl rfl),hr,hB,Ya hs hg.size⟩
theorem UnSt.ins3 (h:UnSt w0 rb B d us r k true b2 false b4 false b7 b11 b12 v15 v16 v18 v22 v23 w'):∃ mb n,v15=.map (some mb)∧n < 4∧w'.ownsMap (H:=Unit) Tryz.prog 9 (plainElem Tryz.prog 3) mb n (unD b2 false b4) ∧
 ∀ w'',w''.ownsMap (H:=Unit) Tryz.prog 9 (plainElem Tryz.prog 3) mb (n + 1) ((unD b2 false b4).put (.string [116,121,112,101,111,102]) (.lit (.int .i64 33)))→w'.grownBy w'' (some mb)→UnSt w0 rb B d us r k true b2 true b4 false b7 b11 b12 v15 v16 v18 v22 v23 w'':=by
 obtain ⟨mb,hm,hc,hr,hB,hs⟩:=h;obtain ⟨e,h1,h2,n,h4,h5⟩:=hm.1 rfl;have n4:n < 4:=by have:=Bool.toNat_le b2; have:=Bool.toNat_le b4; have:(false).toNat=0:=rfl; omega
 refine ⟨mb,n,e,n4,h5,fun w'' ho hg=>?_⟩;rw [Zmu] at ho;exact ⟨mb,⟨fun _=>⟨e,h1,Ye h2 hg.size,_,by have:(false).toNat=0:=rfl; have:(true).toNat=1:=rfl; omega,ho⟩,(fun h=>by cases h),hm.2.2.1,(fun h=>by cases h)⟩,hc.keep hr hB hg.size hg.os hg.tape hg.output (fun x hx hn=>hg.block x hx (fun e=>hn (by cases e; rfl))) h1 (.inl rfl),hr,hB,Ya hs hg.size⟩
theorem UnSt.ins4 (h:UnSt w0 rb B d us r k true b2 b3 false false b7 b11 b12 v15 v16 v18 v22 v23 w'):∃ mb n,v15=.map (some mb)∧n < 4∧w'.ownsMap (H:=Unit) Tryz.prog 9 (plainElem Tryz.prog 3) mb n (unD b2 b3 false) ∧
 ∀ w'',w''.ownsMap (H:=Unit) Tryz.prog 9 (plainElem Tryz.prog 3) mb (n + 1) ((unD b2 b3 false).put (.string [100,101,108,101,116,101]) (.lit (.int .i64 34)))→w'.grownBy w'' (some mb)→UnSt w0 rb B d us r k true b2 b3 true false b7 b11 b12 v15 v16 v18 v22 v23 w'':=by
 obtain ⟨mb,hm,hc,hr,hB,hs⟩:=h;obtain ⟨e,h1,h2,n,h4,h5⟩:=hm.1 rfl;have n4:n < 4:=by have:=Bool.toNat_le b2; have:=Bool.toNat_le b3; have:(false).toNat=0:=rfl; omega
 refine ⟨mb,n,e,n4,h5,fun w'' ho hg=>?_⟩;rw [Zn6] at ho;exact ⟨mb,⟨fun _=>⟨e,h1,Ye h2 hg.size,_,by have:(false).toNat=0:=rfl; have:(true).toNat=1:=rfl; omega,ho⟩,(fun h=>by cases h),hm.2.2.1,(fun h=>by cases h)⟩,hc.keep hr hB hg.size hg.os hg.tape hg.output (fun x hx hn=>hg.block x hx (fun e=>hn (by cases e; rfl))) h1 (.inl rfl),hr,hB,Ya hs hg.size⟩
theorem UnSt.move (h:UnSt w0 rb B d us r k true true true true false b7 b11 b12 v15 v16 v18 v22 v23 w'):UnSt w0 rb B d us r k true true true true true b7 b11 b12 v15 v15 v18 v22 v23 w':=by
 obtain ⟨mb,hm,hc,hr,hB,hs⟩:=h;exact ⟨mb,⟨hm.1,fun _=>⟨(hm.1 rfl).1,rfl,rfl,rfl,rfl⟩,hm.2.2.1,hm.2.2.2⟩,hc,hr,hB,hs⟩
theorem UnSt.look (h:UnSt w0 rb B d us r k b1 b2 b3 b4 true false b11 b12 v15 v16 v18 v22 v23 w'):(∃ mb n,v16=.map (some mb)∧w'.ownsMap (H:=Unit) Tryz.prog 9 (plainElem Tryz.prog 3) mb n (litD [(Z5g,32),(Z1l,33),(Z1t,34)]))∧UnSt w0 rb B d us r k b1 b2 b3 b4 true true b11 b12 v15 v16 (.int .i64 (32 + (k:Int))) v22 v23 w':=by
 obtain ⟨mb,hm,hc,hr,hB,hs⟩:=h;obtain ⟨e,rfl,rfl,rfl,rfl⟩:=hm.2.1 rfl;obtain ⟨e1,h1,h2,n,h4,h5⟩:=hm.1 rfl;exact ⟨⟨mb,n,e,h5⟩,mb,⟨hm.1,hm.2.1,fun _=>rfl,hm.2.2.2⟩,hc,hr,hB,hs⟩
theorem UnSt.pre (h:UnSt w0 rb B d us r k b1 b2 b3 b4 b5 b7 false b12 v15 v16 v18 v22 v23 w'):Pre w' rb B d us∧RFr w0 w' rb:=by
 obtain ⟨mb,hm,hc,hr,hB,hs⟩:=h;exact ⟨(hc.1 rfl).1,(hc.1 rfl).2.1⟩
theorem UnSt.call (h:UnSt w0 rb B d us r k b1 b2 b3 b4 b5 b7 false b12 v15 v16 v18 v22 v23 w') {a:ATree} {t:Tree} {ts':List Tok} (hr:r=.ok (t,ts')) (G:Got w' B w'' a t) (R:Rd w'' rb ts' d) (F:RFr w' w'' rb) :
 UnSt w0 rb B d us r k b1 b2 b3 b4 b5 b7 true b12 v15 v16 v18 (.pointer (some ⟨a.b,0,none⟩)) v23 w'':=by
 obtain ⟨mb,hm,hc,hrb,hB,hs⟩:=h;obtain ⟨P1,F1,rfl⟩:=hc.1 rfl;refine ⟨mb,⟨fun hp=>?_,hm.2.1,hm.2.2.1,hm.2.2.2⟩,⟨(fun h=>by cases h),fun _=>⟨a,t,ts',hr,rfl,G.pre F1,R,F1.trans F,fun hp=>?_,(fun h=>by cases h)⟩⟩,hrb,hB,Ya hs F.size⟩
 ·obtain ⟨e,h1,h2,n,h4,h5⟩:=hm.1 hp;have:=P1.rd.rlt;have hbb:w''.heap[mb]?=w'.heap[mb]?:=F.block mb h2 (by omega);refine ⟨e,h1,Ye h2 F.size,n,h4,?_⟩;obtain ⟨es,clock,hb,hx⟩:=h5;exact ⟨es,clock,hbb.trans hb,hx⟩
 ·obtain ⟨e,h1,h2,_⟩:=hm.1 hp;intro hx;have:=(G.new mb hx).1;omega
theorem UnSt.ptr (h:UnSt w0 rb B d us r k b1 b2 b3 b4 b5 b7 true b12 v15 v16 v18 v22 v23 w'):∃ pb,v22=.pointer (some ⟨pb,0,none⟩):=by
 obtain ⟨mb,hm,hc,hrb,hB,hs⟩:=h;obtain ⟨a,t,ts',e1,e2,_⟩:=hc.2 rfl;exact ⟨_,e2⟩
theorem UnSt.box (h:UnSt w0 rb B d us r k b1 b2 b3 b4 b5 b7 true false v15 v16 v18 v22 v23 w'):UnSt w0 rb B d us r k b1 b2 b3 b4 b5 b7 true true v15 v16 v18 v22 (.slice (some ⟨w'.heap.size,0,none⟩) 1 1) (w'.alloc (.cells #[v22] 22)):=by
 obtain ⟨mb,hm,hc,hrb,hB,hs⟩:=h;have hal:Below w'.heap.size w' (w'.alloc (.cells #[v22] 22)):=(Y8 _ _).alloc (Y5 _) _;obtain ⟨a,t,ts',e1,rfl,G,R,F,hn,_⟩:=hc.2 rfl;refine ⟨mb,⟨fun hp=>?_,hm.2.1,hm.2.2.1,hm.2.2.2⟩,⟨(fun h=>by cases h),fun _=>⟨a,t,ts',e1,rfl,G.rfr hrb (RFr.below hal),R.below hal,F.trans (RFr.below hal),hn,fun _=>⟨w'.heap.size,rfl,fun hp=>?_,fun hx=>?_,hs,heap_alloc_new w' _⟩⟩⟩,hrb,hB,Ya hs hal.size⟩
 ·obtain ⟨e,h1,h2,n,h4,h5⟩:=hm.1 hp;have hbb:=hal.block mb h2;refine ⟨e,h1,Ye h2 hal.size,n,h4,?_⟩;obtain ⟨es,clock,hb,hx⟩:=h5;exact ⟨es,clock,hbb.trans hb,hx⟩
 ·obtain ⟨e,h1,h2,_⟩:=hm.1 hp;omega
 ·have:=(G.new _ hx).2;omega
theorem UnSt.fin (h:UnSt w0 rb B d us r k b1 b2 b3 b4 b5 true true true v15 v16 v18 v22 v23 w'):∃ (a:ATree) (t:Tree) (ts':List Tok) (g:Nat),r=.ok (t,ts')∧v18=.int .i64 (32 + (k:Int))∧v23=.slice (some ⟨g,0,none⟩) 1 1∧RFr w0 w' rb∧Rd w' rb ts' d ∧
 Got w0 B (w'.alloc (.cells #[.int .i64 (32 + (k:Int)),.string ⟨#[]⟩,.int .i64 0,.slice (some ⟨g,0,none⟩) 1 1] 38)) (.mk w'.heap.size (.slice (some ⟨g,0,none⟩) 1 1) (32 + (k:Int)) ⟨#[]⟩ 0 [a]) (.mk (32 + (k:Int)) ⟨#[]⟩ 0 [t]):=by
 obtain ⟨mb,hm,hc,hrb,hB,hs⟩:=h;obtain ⟨a,t,ts',e1,rfl,G,R,F,hn,h2⟩:=hc.2 rfl;obtain ⟨g,rfl,hgm,hga,hg0,hgb⟩:=h2 rfl;have hal:Below w'.heap.size w' (w'.alloc (.cells #[.int .i64 (32 + (k:Int)),.string ⟨#[]⟩,.int .i64 0,.slice (some ⟨g,0,none⟩) 1 1] 38)):=(Y8 _ _).alloc (Y5 _) _;have hgl:g < w'.heap.size:=(Y6.1 hgb).1;refine ⟨a,t,ts',g,e1,hm.2.2.1 rfl,rfl,F,R,⟨by simp [ATree.tree,Zr,G.tree],?_,?_,?_⟩⟩
 ·refine TreeAt.new (Ya hB hs) ⟨by simp,.inr ⟨g,1,#[a.ptr],rfl,by omega,hgb,by simp,by unfold maxLen; omega,by simp,by simp⟩⟩ fun x hx=>?_;simp only [List.mem_singleton] at hx;subst hx;exact G.at'
 ·simp only [ATree.blocks,Value.ownBlock,Option.toList,Z0f,List.append_nil,List.nodup_cons,List.cons_append,List.nil_append,List.mem_cons,not_or];exact ⟨⟨by omega,fun hx=>by have:=(G.new _ hx).2; omega⟩,hga,G.nodup⟩
 ·intro x hx;simp only [ATree.blocks, Value.ownBlock, Option.toList, Z0f, List.append_nil, List.cons_append, List.nil_append, List.mem_cons] at hx;have := hal.size;rcases hx with rfl | rfl | hx;·exact ⟨hs, by simp⟩
  ·exact ⟨hg0,by omega⟩
  ·have:=G.new x hx; omega
end
def Zn0 (w0:World) (rb B d:Nat) (us:List Tok) (r:Except (Int×Nat) (Tree×List Tok)) (k:Nat) (FR:Value→Value→Value→Value→Value→Act) (m:Array Bool) (a':Act) (w':World):Prop:=
 ∃ v15 v16 v18 v22 v23,a'=FR v15 v16 v18 v22 v23∧UnSt w0 rb B d us r k (m.getD 1 false) (m.getD 2 false) (m.getD 3 false) (m.getD 4 false) (m.getD 5 false) (m.getD 7 false) (m.getD 11 false) (m.getD 12 false) v15 v16 v18 v22 v23 w'
theorem Zea (f:Nat) (hU:Says 126 rArg .unary f) (hPo:Says 135 rArg .postfix_ f):Says 126 rArg .unary (f + 1):=by
 intro w rb B d ts r hP hp;have hw:(if Z3g ts=0 then Z0 f .postfix_ d ts else Z0g (Z1a d ts.tail (Z0 f .unary (d + 1) ts.tail)) fun x ts'=>okT (.mk (Z3g ts) ByteArray.empty 0 [x]) ts')=some r:=hp;have HP:=lh hP;have HU:=lh hU;have HPO:=lh hPo;have H1:=lh hw;obtain ⟨ub,hub⟩:=zX w.heap.size
 obtain ⟨w1,hw1⟩:=zX (w.alloc (.cells #[.string Z5g,.string Z1l,.string Z1t] 9))
 have hB1:Below w.heap.size w w1:=by rw [hw1]; exact (Y8 _ _).alloc (Y5 _) _
 have hub1:ub < w1.heap.size:=by rw [hw1,hub]; simp
 have hcs:∀ (i:Nat) (x:ByteArray),unL[i]?=some x→w1.cell? ⟨ub,i,none⟩=some (.string x):=by
  intro i x hx;have hb:w1.heap[ub]?=some (.cells #[.string Z5g,.string Z1l,.string Z1t] 9 (0,0)):=by rw [hw1,hub]; exact heap_alloc_new w _
  match i,hx with
  | 0, hx => obtain rfl : Z5g = x := by simpa [unL] using hx
             simp [World.cell?,hb]
  | 1, hx => obtain rfl : Z1l = x := by simpa [unL] using hx
             simp [World.cell?,hb]
  | 2, hx => obtain rfl : Z1t = x := by simpa [unL] using hx
             simp [World.cell?,hb]
  | i + 3,hx=>simp [unL] at hx
 have HCS:=lh hcs;have B1:=lh hB1;unfold Z5g Z1l Z1t at hw1;have hmf:∀ (fn:Fn) (first cap:Array Value) (w:World),(Instr.makeFunc fn first cap).run Tryz.prog w=.ok (.func fn first cap) w:=fun _ _ _ _=>rfl;have HMF:=lh hmf;clear hP hp hw hU hPo hcs hB1 hmf;unfold rArg;go_enter Tryz.func126,Tryz.ntmps126
 go_wp2_with fail
 rw [← hw1,← hub];have HUB:=lh hub;have HW1:=lh hw1;clear hw1 hub;go_loopw [7] (fun i wr=>∃ k:Nat,k≤3∧i=.int .i64 k∧Hid (∀ (j:Nat) (y:ByteArray),j < k→unL[j]?=some y→isT y ts=false)∧Hid (Below w1.heap.size w1 wr)) (fun i _=>3 - (intOf i).toNat)
 case atStart=>exact ⟨0,by omega,rfl,lh (fun j y hj=>by omega),lh (Y8 _ _)⟩
 case round=>
  obtain ⟨k,hk,rfl,NO,BW⟩:=hrel;have P2:=(HP.out.below B1.out).below BW.out;have F2:=lh ((RFr.below (rb:=rb) B1.out).trans (RFr.below BW.out));by_cases hkn:k < 3
  ·obtain ⟨x, hx⟩ : ∃ x, unL[k]? = some x := ⟨_, Yd hkn⟩
   have cx:=(BW.out.cell (p:=⟨ub,k,none⟩) hub1).trans (HCS.out k x hx);have HX:=lh hx;clear hx;by_cases hs:isT x ts=true
   ·have hus:=Zlh HX.out hs (fun j y hj hy=>NO.out j y hj hy);have HT:=lh (Z1g wr rb ts d x P2.rd hs);have HPO:=Z0j hs;have P2:=lh P2;have US:=lh hus;have hw2:Z0g (Z1a d ts.tail (Z0 f .unary (d + 1) ts.tail)) (fun x ts'=>okT (.mk (Z3g ts) ByteArray.empty 0 [x]) ts')=some r:=by
     have h:=H1.out;rw [Y9 (by rw [hus.1]; omega)] at h;exact h
    rw [hus.1] at hw2;have H2:=lh hw2;clear hs hus hw2;go_wp2_with fail
    refine HT.out.mono ?_;rintro e w2 ⟨rfl,hR2,hF2⟩;have P3:=P2.out.tail hR2 hF2;have F3:=F2.out.trans hF2;have P3:=lh P3;have F3:=lh F3;clear hR2 hF2 HT;go_wp2_with fail
    obtain ⟨r',hr',HE,HK⟩:∃ r',Z1a d ts.tail (Z0 f .unary (d + 1) ts.tail)=some r'∧Hid (∀ e,r'=.error e→r=.error e)∧Hid (∀ t vs,r'=.ok (t,vs)→r=.ok (.mk (32 + (k:Int)) ByteArray.empty 0 [t],vs)):=by
     rcases Z09 H2.out with ⟨e,he,rfl⟩ | ⟨t,vs,he,h2⟩;·exact ⟨_,he,lh (fun e' h=>by cases h; rfl),lh (fun t vs h=>by cases h)⟩
     ·exact ⟨_,he,lh (fun e' h=>by cases h),lh (fun t' vs' h=>by cases h; exact (Yk h2).symm)⟩
    have HR':=lh hr';have hmm:=@run_makeMap Tryz.prog;clear hr'
    refine Zag [0,6,8,9,10] [1,2,3,4,5,7,11,12] [13,14] (by kernel_rfl) (by kernel_rfl) (fun _ _ d _ _ h=>by cases d <;> exact h)
     (Zn0 w2 rb B d ts.tail r' k fun v15 v16 v18 v22 v23=>{ tmps:=#[.pointer (some ⟨rb,0,none⟩),undef,u2,undef,.string x,.slice (some ⟨ub,0,none⟩) 3 3,.int .i64 3,.int .i64 k,.bool true,.pointer (some ⟨ub,k,none⟩),.string x,.pointer (some ⟨rb,0,none⟩),.string x,.bool true,.pointer (some ⟨rb,0,none⟩),v15,v16,.string x,v18,.pointer (some ⟨rb,0,none⟩),.pointer (some ⟨rb,0,none⟩),.func (.func 126) #[.pointer (some ⟨rb,0,none⟩)] #[],v22,v23,u24,u25,undef,undef],defers:=[] }) ?_ ?_ ?_
    ·have ST:Hid (∀ v15 v16 v18 v22 v23,UnSt w2 rb B d ts.tail r' k false false false false false false false false v15 v16 v18 v22 v23 w2.drew):=lh fun _ _ _ _ _=>
      ⟨0,⟨(fun h=>by cases h),(fun h=>by cases h),(fun h=>by cases h),fun _=>⟨rfl,rfl,rfl⟩⟩,⟨fun _=>⟨P3.out.below (Y8 _ _).drew,(RFr.refl w2 rb).drew,rfl⟩,(fun h=>by cases h)⟩,P3.out.lt,P3.out.le,Y5 _⟩
     simp only [List.filterMap_cons,List.filterMap_nil,List.getElem?_toArray,List.getElem?_cons_zero,List.getElem?_cons_succ];have hmf:=HMF.out;iterate 5 (refine Zeq ?_ (by rfl) (fun w' _=>?_) ?_; rotate_left; (go_simp; first | done | with_reducible rfl); simp only [Act.put,zA,zB,zC])
     exact ⟨_,_,_,_,_,rfl,ST.out _ _ _ _ _⟩
    ·intro m i a' w3 hm hi _ h0 hd hI;obtain ⟨v15,v16,v18,v22,v23,rfl,hS⟩:=hI;have HS:=lh hS;clear hS;have hm:m.size=15:=hm;simp only [List.mem_cons,List.not_mem_nil,or_false] at hi;have n5':∀ j,(j=2∨j=3∨j=4)→m.getD j false=false→m.getD 5 false=false:=fun j hj hf=>by
      cases h5:m.getD 5 false with
      | false=>rfl
      | true =>
        obtain ⟨mb,hm,_⟩:=HS.out;obtain ⟨_,_,e2,e3,e4⟩:=hm.2.1 h5;rcases hj with rfl | rfl | rfl;·rw [hf] at e2; cases e2
        ·rw [hf] at e3; cases e3
        ·rw [hf] at e4; cases e4
     rcases hi with rfl | rfl | rfl | rfl | rfl | rfl | rfl | rfl
     ·have hS := HS.out;rw [h0] at hS;refine Z6b (by rfl) ?_;go_simp
      refine ⟨_,_,_,_,_,rfl,?_⟩;simp only [Z3r (show 1 < m.size by rw [hm]; decide)];simp only [Nat.reduceEqDiff,if_true,if_false];exact hS.make
     ·have n5:=n5' 2 (.inl rfl) h0;have d1:=hd 1 (by kernel_rfl);have hS:=HS.out;rw [d1,h0,n5] at hS;obtain ⟨mb,n,rfl,hn,hown,hK⟩:=hS.ins2;refine Z6b (by rfl) ?_;rw [Yb (by rfl)];refine Z1z _ _ _ 82 rfl 9 3 Tryz.keyedS Tryz.underlying82 _ mb n _ rfl hown (by unfold maxLen; omega) _ _ _ rfl rfl (Yw Yr (by decide)) _ [] (plainElem_int Ys (by decide)) fun w4 h4 g4=>?_;refine ⟨_,_,_,_,_,rfl,?_⟩;simp only [Z3r (show 2 < m.size by rw [hm]; decide)];simp only [Nat.reduceEqDiff,if_true,if_false];rw [d1,n5];exact hK w4 h4 g4
     ·have n5 := n5' 3 (.inr (.inl rfl)) h0;have d1 := hd 1 (by kernel_rfl);have hS := HS.out;rw [d1, h0, n5] at hS;obtain ⟨mb, n, rfl, hn, hown, hK⟩ := hS.ins3;refine Z6b (by rfl) ?_;rw [Yb (by rfl)];refine Z1z _ _ _ 82 rfl 9 3 Tryz.keyedS Tryz.underlying82 _ mb n _ rfl hown (by unfold maxLen; omega) _ _ _ rfl rfl (Yw Yr (by decide)) _ [] (plainElem_int Ys (by decide)) fun w4 h4 g4 => ?_;refine ⟨_, _, _, _, _, rfl, ?_⟩;simp only [Z3r (show 3 < m.size by rw [hm]; decide)];simp only [Nat.reduceEqDiff, if_true, if_false];rw [d1, n5]
      exact hK w4 h4 g4
     ·have n5 := n5' 4 (.inr (.inr rfl)) h0;have d1 := hd 1 (by kernel_rfl);have hS := HS.out;rw [d1, h0, n5] at hS;obtain ⟨mb, n, rfl, hn, hown, hK⟩ := hS.ins4;refine Z6b (by rfl) ?_;rw [Yb (by rfl)];refine Z1z _ _ _ 82 rfl 9 3 Tryz.keyedS Tryz.underlying82 _ mb n _ rfl hown (by unfold maxLen; omega) _ _ _ rfl rfl (Yw Yr (by decide)) _ [] (plainElem_int Ys (by decide)) fun w4 h4 g4 => ?_;refine ⟨_, _, _, _, _, rfl, ?_⟩;simp only [Z3r (show 4 < m.size by rw [hm]; decide)];simp only [Nat.reduceEqDiff, if_true, if_false];rw [d1, n5]
      exact hK w4 h4 g4
     ·have d1 := hd 1 (by kernel_rfl);have d2 := hd 2 (by kernel_rfl);have d3 := hd 3 (by kernel_rfl);have d4 := hd 4 (by kernel_rfl);have hS := HS.out;rw [d1, d2, d3, d4, h0] at hS;refine Z6b (by rfl) ?_;go_simp
      refine ⟨_,_,_,_,_,rfl,?_⟩;simp only [Z3r (show 5 < m.size by rw [hm]; decide)];simp only [Nat.reduceEqDiff,if_true,if_false];rw [d1,d2,d3,d4];exact hS.move
     ·have d5:=hd 5 (by kernel_rfl);have hS:=HS.out;rw [d5,h0] at hS;obtain ⟨⟨mb,n,rfl,hown⟩,hK⟩:=hS.look;refine Z6b (by rfl) ?_;rw [Yb (by rfl)];refine Z3p _ _ 82 rfl 9 3 .i64 Tryz.keyedS Tryz.underlying82 Ys (Tryz.zeroI _) mb n _ rfl hown _ _ rfl (Yw Yr US.out.2.1) fun c hc=>?_;obtain rfl:32 + (k:Int)=c:=by
       have e:=US.out.2.2.symm.trans hc;simpa using e
      refine ⟨_,_,_,_,_,rfl,?_⟩;simp only [Z3r (show 7 < m.size by rw [hm]; decide)];simp only [Nat.reduceEqDiff,if_true,if_false];rw [d5];exact hK
     ·have hS := HS.out;rw [h0] at hS;obtain ⟨P4, F4⟩ := hS.pre;have HC := Zb9 w3 rb B ts.tail d _ r' P4.rd (by have := P4.deep; omega) P4.lt HR'.out fun hd h1 w4 hR hs => HU.out w4 rb B (d + 1) ts.tail r' ⟨hR, hd, P4.lt, by have := P4.le; omega, P4.few⟩ h1;have HC := lh HC;have F4 := lh F4;have HS2 := lh hS;clear P4 hS;refine Z6b (by rfl) ?_;go_simp
      refine HC.out.mono ?_;rcases r' with ⟨c,p⟩ | ⟨t,ts'⟩
      ·rintro e w4 ⟨⟨b,rfl,h1,h2⟩,hF⟩;obtain rfl:=HE.out _ rfl;exact ⟨rfl,Z0t.pre (F3.out.trans F4.out) (r:=.error (c,p)) ⟨⟨b,rfl,h1,h2⟩,hF⟩⟩
      ·rintro e w4 ⟨a,rfl,hG,hR,hF⟩;refine ⟨_,_,_,_,_,rfl,?_⟩;simp only [Z3r (show 11 < m.size by rw [hm]; decide)];simp only [Nat.reduceEqDiff,if_true,if_false];exact HS2.out.call rfl hG hR hF
     ·have d11 := hd 11 (by kernel_rfl);have hS := HS.out;rw [d11, h0] at hS;obtain ⟨pb, rfl⟩ := hS.ptr;refine Z6b (by rfl) ?_;go_simp
      refine ⟨_,_,_,_,_,rfl,?_⟩;simp only [Z3r (show 12 < m.size by rw [hm]; decide)];simp only [Nat.reduceEqDiff,if_true,if_false];rw [d11];exact hS.box
    ·rintro m a' w3 hall ⟨v15, v16, v18, v22, v23, rfl, hS⟩;rw [hall 7 (by decide), hall 11 (by decide), hall 12 (by decide)] at hS;obtain ⟨a, t, ts', g, e1, rfl, rfl, hF, hR, hG⟩ := hS.fin;simp only [List.filterMap_cons, List.filterMap_nil, List.getElem?_toArray, List.getElem?_cons_zero, List.getElem?_cons_succ];obtain rfl := HK.out _ _ e1;have HG := lh hG;have HR := lh hR;have HF := lh (F3.out.trans hF);clear hG hR hF hS e1 hall;go_wp2_with fail
     refine (Z14 w3 rb (32 + (k:Int)) ⟨#[]⟩ (some ⟨g,0,none⟩) 1 1).mono ?_;rintro e w7 ⟨rfl,hw7⟩;have hal:Below w3.heap.size w3 w7:=by rw [hw7]; exact (Y8 _ _).alloc (Y5 _) _
     have HW7:=lh hw7;have HAL:=lh hal;clear hw7 hal;go_wp2;go_ret;refine ⟨_,?pt,(by rw [HW7.out]; exact HG.out.pre F3.out),HR.out.below HAL.out,HF.out.trans (RFr.below HAL.out)⟩;case pt=>simp [ATree.b]
   ·have hs' : isT x ts = false := by simpa using hs
    have HT:=lh (Z22 wr rb ts d x P2.rd hs');have HS:=lh hs';have P2:=lh P2;clear hs hs';go_wp2_with fail
    refine HT.out.mono ?_;rintro e w2 ⟨rfl,hB2⟩;have B2:=lh hB2;clear hB2;go_wp2;go_roundw
    case rel=>exact ⟨k + 1,by omega,by go_num,lh (fun j y hj hy=>by
     by_cases e:j=k;·subst e; obtain rfl:=Yk (HX.out.symm.trans hy); exact HS.out
     ·exact NO.out j y (by omega) hy),lh (BW.out.trans (B2.out.mono BW.out.size))⟩
    case measure=>simp [intOf]; omega
  ·have h3 : k = 3 := by omega
   subst h3;have hn:=Zlf fun i y hi hy=>NO.out i y hi hy;have hq:=H1.out;rw [Yb hn] at hq;have HC:=HPO.out wr rb B d ts r P2 hq;unfold rArg at HC;have HC:=lh HC;clear hn hq P2;go_wp2_with fail
   refine HC.out.mono ?_;rcases r with ⟨c,p⟩ | ⟨t,ts'⟩
   ·rintro e w2 ⟨⟨b,rfl,h1,h2⟩,hF⟩;exact ⟨rfl,Z0t.pre F2.out (r:=.error (c,p)) ⟨⟨b,rfl,h1,h2⟩,hF⟩⟩
   ·rintro e w2 ⟨a,rfl,hG,hR,hF⟩;have HG:=lh (hG.pre F2.out);have HR:=lh hR;have HF:=lh (F2.out.trans hF);clear hG hR hF HC;go_wp2;go_ret;exact ⟨a,rfl,HG.out,HR.out,HF.out⟩
end Go.Proofs.YtmeiggjboakmpaaGreatDoor
