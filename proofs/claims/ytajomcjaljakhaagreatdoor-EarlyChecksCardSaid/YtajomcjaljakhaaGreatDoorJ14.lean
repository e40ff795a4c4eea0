/- The document's lists of texts: has, add. -/
import Derived.Test.YtajomcjaljakhaaGreatDoorJ08
import Derived.Test.YtajomcjaljakhaaGreatDoorJ13
namespace Go.Proofs.YtajomcjaljakhaaGreatDoor
open Go Go.RowKit
set_option maxRecDepth 100000
set_option maxHeartbeats 20000000
set_option linter.unusedVariables false
theorem Z9o {P:Program} (w:World) (base:Nat) (t ty e:TypeId) (i:TypeInfo) (size:Nat) (ht:P.underlying t=some (.slice e)) (hi:P.info? e=some i)
 (v:Value) (n:Nat) (xs:List Value) (hown:w.ownsRow base e size v n xs) (p:Option Addr) (c:Nat) :
 (Builtin.append_ #[t,t] ty #[v,.slice p 0 c]).run P w=.ok v w:=by
 rcases hown.2 with ⟨rfl,rfl⟩ | ⟨g,cap,cur,rfl,_,_,hnc,_⟩;·cases p <;> simp [Builtin.append_,run_underlying ht,sizeOf,typeInfo,hi,Builtin.lenOf,Builtin.firstCells,loadCells,loadCellsFrom,Result.andThen]
 ·cases p <;> simp [Builtin.append_,run_underlying ht,sizeOf,typeInfo,hi,Builtin.lenOf,Builtin.firstCells,hnc,storeCells,loadCells,loadCellsFrom,Result.andThen]
theorem Z4u {P:Program} {w:World} {ops:Array Oper} {rest:List Oper} {o:Oper} {a:Act} {Q:Exit→Act→World→Prop} (hgd:o.guard=none) (s x:Operand) (t:TypeId)
 (ho:o.op=.call { callee:=.builtin .append,args:=#[s,x],argTypes:=#[t,t] })
 (base:Nat) (e:TypeId) (i:TypeInfo) (size:Nat) (ht:P.underlying t=some (.slice e)) (hi:P.info? e=some i)
 (v:Value) (n:Nat) (xs:List Value) (hs:a.eval s=v) (hown:w.ownsRow base e size v n xs) (p:Option Addr) (c:Nat) (hx:a.eval x=.slice p 0 c)
 (h:wpList P ops Q rest (a.put o.dst v) w):wpList P ops Q (o :: rest) a w:=by
 refine wpList_plain hgd fun K hK=>?_;have hrun:=Z9o (P:=P) w base t o.type e i size ht hi v n xs hown p c;unfold Oper.wp;simp [execOp,ho,resolve,invoke,builtin,hs,hx,hrun,Result.andThen];exact hK _ _ h
theorem Zju {l:List ByteArray} {k:Nat} {x s:ByteArray} (h:∀ j y,j < k→l[j]?=some y→y≠s) (hx:l[k]?=some x) (hn:x≠s):∀ j y,j < k + 1→l[j]?=some y→y≠s:=by
 intro j y hj hy;by_cases e:j=k
 ·subst e;rw [hx] at hy;cases hy;exact hn
 ·exact h j y (by omega) hy
theorem Zcp {l:List ByteArray} {s:ByteArray} (h:∀ j y,j < l.length→l[j]?=some y→y≠s):Lib.containsS l s=false:=by
 cases e:Lib.containsS l s with
 | false=>rfl
 | true =>
   exfalso;have hm:s∈l:=(Lib.containsS_iff _ _).1 e;obtain ⟨j,hj,hy⟩:=List.getElem_of_mem hm;exact h j s hj (by rw [Yd hj,hy]) rfl
theorem Zc0 {l:List ByteArray} {s:ByteArray} {k:Nat} (h:l[k]?=some s):Lib.containsS l s=true:=by
 exact (Lib.containsS_iff _ _).2 (Yl h)
theorem Zde {w:World} {B:Nat} {v:Value} {l:List ByteArray} (hv:Z04 w B v l) (s:ByteArray) :
 Calls Tryz.prog 21 #[v,.string s] w fun e w'=>e=.returned (.bool (Lib.containsS l s))∧w'=w:=by
 obtain ⟨p,cp,rfl,hge,hmx⟩:∃ p cp,v=.slice p l.length cp∧l.length≤cp∧cp≤maxLen:=by
  rcases hv.form with ⟨h1,h2⟩ | ⟨g,cap,h1,h2,h3⟩;·exact ⟨none,0,by rw [h1,h2]; rfl,by rw [h2]; exact Y5 _,by unfold maxLen; omega⟩
  ·exact ⟨_,_,h1,h2,h3⟩
 unfold maxLen at hmx;obtain ⟨n,hn⟩:=zX l.length
 have HV:=lh hv;rw [← hn] at hge HV ⊢;have HN:=lh hn;clear hv hn;go_enter Tryz.func21,Tryz.ntmps21
 go_wp2_with fail
 go_loopw [9] (fun i wr=>∃ k:Nat,k≤n∧i=.int .i64 k∧wr=w∧Hid (∀ j y,j < k→l[j]?=some y→y≠s)) (fun i _=>n - (intOf i).toNat)
 case atStart=>exact ⟨0,Yp _,rfl,rfl,lh (fun j y hj=>by omega)⟩
 case round=>
  obtain ⟨k,hk,rfl,rfl,NO⟩:=hrel;by_cases hkn:k < n
  ·obtain ⟨x, hx⟩ : ∃ x, l[k]? = some x := ⟨_, Yd (by rw [← HN.out]; exact hkn)⟩
   obtain ⟨g0,hp⟩:∃ g,p=some ⟨g,0,none⟩:=by
    rcases HV.out.form with ⟨h1,h2⟩ | ⟨g,cap,h1,_⟩;·rw [h2] at hx; simp at hx
    ·simp only [Value.slice.injEq] at h1; exact ⟨g,h1.1⟩
   subst hp;have cx:=HV.out.cells rfl hx;have HX:=lh hx;clear hx;by_cases hs:x=s
   ·subst hs;have hb:(x.toList == x.toList)=true:=beq_self_eq_true _;go_wp2;go_ret;rw [Zc0 HX.out];exact ⟨rfl,rfl⟩
   ·have hb:(x.toList == s.toList)=false:=by
     have h:¬ x.toList=s.toList:=fun h=>hs (Z2i h);simpa using h
    have HS:=lh hs;clear hs;go_wp2;go_roundw
    case rel=>exact ⟨k + 1,by omega,by go_num,by first | rfl | trivial,lh (Zju NO.out HX.out HS.out)⟩
    case measure=>simp [intOf]; omega
  ·have hk2 : k = n := by omega
   subst hk2;go_wp2;go_ret;rw [Zcp (by rw [← HN.out]; exact NO.out)];exact ⟨rfl,rfl⟩
theorem Z68 (w:World) (B:Nat) (v:Value) (l:List ByteArray) (s:ByteArray) (hv:Z04 w B v l) (hB:B≤w.heap.size) (hn:l.length < 1099511627776) :
 Calls Tryz.prog 46 #[v,.string s] w fun e w'=>∃ v',e=.returned v'∧Z04 w' B v' (addL l s)∧Below w.heap.size w w':=by
 obtain ⟨i0,hi,hz0,hz1,hz2⟩:=info_parts Tryz.infoStr;have HH:=lh (Zde hv s);have HV:=lh hv;have HBB:=lh hB;unfold addL;cases hc:Lib.containsS l s with
 | true =>
   rw [hc] at HH;clear hv hn hc;go_enter Tryz.func46,Tryz.ntmps46
   go_wp2_with fail
   refine HH.out.mono ?_;rintro e w1 ⟨rfl,rfl⟩;go_wp2;go_ret;exact ⟨v,rfl,HV.out,Y8 _ _⟩
 | false =>
   rw [hc] at HH;have hal:Below w.heap.size w (w.alloc (.cells #[] 9)):=(Y8 _ _).alloc (Y5 _) _;have hrow:(w.alloc (.cells #[] 9)).ownsRow w.heap.size 9 1 (.slice (some ⟨w.heap.size,0,none⟩) 0 0) 0 []:=
    ⟨by simp,.inr ⟨w.heap.size,0,#[],rfl,Y5 _,heap_alloc_new w _,by simp,by unfold maxLen; omega,by simp,by simp⟩⟩
   have ROW:=lh hrow;have HAL:=lh hal;clear hrow hal hc;by_cases hl:l=[]
   ·obtain ⟨p,c,rfl⟩:∃ p c,v=.slice p 0 c:=by
     rcases hv.form with ⟨h1,_⟩ | ⟨g,cap,h1,_⟩;·exact ⟨none,0,h1⟩
     ·exact ⟨some ⟨g,0,none⟩,cap,by rw [h1,hl]; rfl⟩
    subst hl;clear hv hn;go_enter Tryz.func46,Tryz.ntmps46
    go_wp2_with fail
    refine HH.out.mono ?_;rintro e w1 ⟨rfl,rfl⟩
    go_wp2_with (at_builtin; first | (refine Z4u rfl (.tmp 9) (.tmp 10) 53 rfl w1.heap.size 9 i0 1 Tryz.underlying53 hi (.slice (some ⟨w1.heap.size,0,none⟩) 0 0) 0 [] rfl ROW.out p c rfl ?_) | (refine wpList_append_lies _ rfl (.tmp 11) (.tmp 13) 53 rfl w1.heap.size 9 i0 (.string ByteArray.empty) 1 16 Tryz.underlying53 hi hz0 hz1 hz2 rfl (by decide) (.slice (some ⟨w1.heap.size,0,none⟩) 0 0) 0 [] rfl (ROW.out.alloc _) ⟨w1.heap.size + 1,0,none⟩ 1 1 [.string s] rfl rfl (Yi (cs:=#[.string s]) (t:=9) (fr:=(0,0)) (by have:=heap_alloc_new (w1.alloc (.cells #[] 9)) (.cells #[.string s] 9); simpa using this)) (by intro u hu; simp at hu; subst hu; rfl) (by omega) (by unfold maxLen; omega) (by omega) (by simp; omega) (w1.heap.size + 1 + 1) (by simp) ?_; intro g2 cap2 w2 hown2 hgrow2 hat2 hgl2; have HG:=lh hgrow2; have HW:=lh hown2; clear hgrow2 hown2 hat2 hgl2))
    go_ret;refine ⟨_,rfl,Z04.base (B:=w1.heap.size) HW.out HBB.out,?_⟩;exact (HAL.out.alloc (by simp) _).grown HG.out (by simp; omega) fun k hk=>by
     simp only [Value.ownBlock,Option.some.injEq] at hk;omega
   ·rcases hv.form with ⟨_, h2⟩ | ⟨g, cap, rfl, hle, hm⟩;·exact absurd h2 hl
    have hpos:0 < l.length:=List.length_pos_iff.2 hl;have hglt:=(Yh hv g rfl).2;have NEWS:=lh (show ∀ (j:Nat) (u:Value),(l.map Value.string)[j]?=some u→(w.alloc (.cells #[] 9)).cell? ((⟨g,0,none⟩:Addr).add j)=some u from fun j u hu=>by
     have hadd:(⟨g,0,none⟩:Addr).add j=⟨g,j,none⟩:=by unfold Addr.add; split <;> simp_all
     rw [hadd];exact (Z5 hglt).trans (Zi hv (g:=g) rfl hu))
    obtain ⟨n,hnn⟩:=zX l.length
    rw [← hnn] at HH HV hpos hn hle ⊢;have HN:=lh hnn;clear hv hnn hl;go_enter Tryz.func46,Tryz.ntmps46
    go_wp2_with fail
    refine HH.out.mono ?_;rintro e w1 ⟨rfl,rfl⟩
    go_wp2_with (at_builtin; first | (refine wpList_append_lies _ rfl (.tmp 9) (.tmp 10) 53 rfl w1.heap.size 9 i0 (.string ByteArray.empty) 1 16 Tryz.underlying53 hi hz0 hz1 hz2 rfl (by decide) (.slice (some ⟨w1.heap.size,0,none⟩) 0 0) 0 [] rfl ROW.out ⟨g,0,none⟩ n cap (l.map Value.string) rfl (by simp [HN.out]) NEWS.out (fun u hu=>by obtain ⟨z,_,rfl⟩:=List.mem_map.1 hu; rfl) (by omega) (by unfold maxLen; omega) (by omega) (by simp) (w1.heap.size + 1) (by simp) ?_; intro g2 cap2 w2 hown2 hgrow2 hat2 hgl2; have HG:=lh hgrow2; have HW:=lh (show w2.ownsRow w1.heap.size 9 1 (.slice (some ⟨g2,0,none⟩) n cap2) n (l.map Value.string) from by rw [Nat.zero_add,List.nil_append] at hown2; exact hown2); have HS2:=hgrow2.size; clear hgrow2 hown2 hat2 hgl2) | (go_must (refine wpList_append_lies _ rfl (.tmp 11) (.tmp 13) 53 rfl w1.heap.size 9 i0 (.string ByteArray.empty) 1 16 Tryz.underlying53 hi hz0 hz1 hz2 rfl (by decide) (.slice (some ⟨g2,0,none⟩) n cap2) n (l.map Value.string) rfl (HW.out.alloc _) ⟨w2.heap.size,0,none⟩ 1 1 [.string s] rfl rfl (Yi (cs:=#[.string s]) (t:=9) (fr:=(0,0)) (heap_alloc_new w2 _)) (by intro u hu; simp at hu; subst hu; rfl) (by omega) (by unfold maxLen; omega) (by omega) (by simp at HS2 ⊢; omega) (w2.heap.size + 1) (by simp) ?_); intro g3 cap3 w3 hown3 hgrow3 hat3 hgl3; have HG3:=lh hgrow3; have HW3:=lh hown3; clear hgrow3 hown3 hat3 hgl3))
    go_ret;refine ⟨_,rfl,?_,?_⟩
    ·have h1:=HW3.out;have h2:Z04 w3 w1.heap.size (.slice (some ⟨g3,0,none⟩) (n + 1) cap3) (l ++ [s]):=by
      unfold Z04;rw [Yq,Yu,← HN.out];exact h1
     exact Z04.base h2 HBB.out
    ·have hb1:=HAL.out.grown HG.out (by simp) fun k hk=>by
      simp only [Value.ownBlock,Option.some.injEq] at hk;omega
     exact (hb1.alloc hb1.size _).grown HG3.out (by have:=hb1.size; simp; omega) fun k hk=>(Yh HW.out k hk).1
theorem Z35 (a:ATree):a.kids.length < a.many:=by
 have key:∀ l:List ATree,l.length≤Z1q l:=by
  intro l;induction l with
  | nil=>simp [Z1q]
  | cons x l ih =>
    simp only [Z1q,List.length_cons];have:0 < x.many:=by cases x; simp [ATree.many]
    omega
 obtain ⟨b,v,k,t,n,ks⟩:=a;have:=key ks;simp only [ATree.kids,ATree.many];omega
theorem Zea {l:List ATree} {k:Nat}:(Z1r (l.take k)).length≤(Z1r l).length:=by
 have e:Z1r l=Z1r (l.take k) ++ Z1r (l.drop k):=by rw [← Z8u,List.take_append_drop]
 rw [e,Yq]; omega
theorem Zex {l:List ATree} {k:Nat} {x:ATree} (h:l[k]?=some x):Z1r (l.take (k + 1))=Z1r (l.take k) ++ x.subs:=by
 rw [Z0w h,Z8u]; simp [Z1r]
theorem Ze7 (a:ATree):0 < a.subs.length:=by rw [Z9h]; simp
theorem Zke (n0:Nat):∀ (a:ATree),a.many≤n0→a.many≤100000→∀ (w:World) (B0:Nat),TreeAt w B0 a →
 Calls Tryz.prog 29 #[a.ptr] w fun e w'=>∃ v,e=.returned v∧Z0q w' w.heap.size v a.subs∧Below w.heap.size w w':=by
 induction n0 with
 | zero=>intro a h; cases a; simp [ATree.many] at h
 | succ n0 ih=>
 intro a hn hmx w B0 hT;obtain ⟨i0,hi,hz0,hz1,hz2⟩:=info_parts Tryz.infoPtr;have HIH:=lh ih;have hblk:=hT.blkOf;have hrow:=hT.rowOf;obtain ⟨p,cp,hv,hge⟩:∃ p cp,a.v=.slice p a.kids.length cp∧a.kids.length≤cp:=by
  rcases Zb hrow with ⟨h1,h2⟩ | ⟨g0,cap0,h1,h2,_⟩;·exact ⟨none,0,by rw [h1,h2],by omega⟩
  ·exact ⟨_,_,h1,h2⟩
 have c3:w.cell? ⟨a.b,3,none⟩=some (.slice p a.kids.length cp):=by rw [← hv]; simp [World.cell?,hblk]
 have hkm:=Z35 a;have hlen:a.kids.length≤100000:=by omega
 have hab:a.b < w.heap.size:=hT.lt;have HT:=lh hT;have HV:=lh hv;have HNN:=lh hn;have HMX:=lh hmx;have hsl:(a :: Z1r a.kids).length≤100000:=by rw [← Z9h,Z92]; exact hmx
 have HSL:=lh hsl;have ST:=lh (show Z0q (w.alloc (.cells #[a.ptr] 22)) w.heap.size (.slice (some ⟨w.heap.size,0,none⟩) 1 1) (a :: Z1r (a.kids.take 0)) from Zd3 (l:=[a]) (Y5 _) (by simp));have SB:=lh ((Y8 w.heap.size w).alloc (Y5 _) (.cells #[a.ptr] 22));unfold ATree.ptr at ST SB ⊢;obtain ⟨n,hnn⟩:=zX a.kids.length
 rw [← hnn] at c3 hlen hge;have HN:=lh hnn;have HC3:=lh c3;have c3':(w.alloc (.cells #[.pointer (some ⟨a.b,0,none⟩)] 22)).cell? ⟨a.b,3,none⟩=some (.slice p n cp):=(Z5 hab).trans c3;clear hblk hrow hv hnn hT hkm hsl ih hn hmx;go_enter Tryz.func29,Tryz.ntmps29
 go_wp2_with fail
 go_loopw [3,15] (fun v i wr=>∃ (k:Nat) (v':Value),v'=v∧k≤n∧i=.int .i64 k∧Hid (Z0q wr w.heap.size v' (a :: Z1r (a.kids.take k)))∧Hid (Below w.heap.size w wr)) (fun _ i _=>n - (intOf i).toNat)
 case atStart=>exact ⟨0,_,rfl,Yp _,rfl,ST,SB⟩
 case round=>
  obtain ⟨k,v,rfl,hk,rfl,HR,HB⟩:=hrel;clear ST SB;by_cases hkn:k < n
  ·obtain ⟨x, hx⟩ : ∃ x, a.kids[k]? = some x := ⟨_, Yd (by rw [← HN.out]; exact hkn)⟩
   have hT2:=HT.out.bel HB.out;have hrow:=hT2.rowOf;rcases Zb hrow with ⟨_,h2⟩ | ⟨g0,cap0,hv0,_⟩;·rw [← HN.out] at h2; omega
   have hp:p=some ⟨g0,0,none⟩:=by
    have:=HV.out.symm.trans hv0;simp only [Value.slice.injEq] at this;exact this.1
   subst hp;have cx:=Zi hrow (g:=g0) (by rw [hv0]; rfl) (i:=k) (x:=x.ptr) (by rw [Yo,hx]; rfl);unfold ATree.ptr at cx;have hmem:=Yl hx;have hTx:=hT2.kid hmem;have hxm:=Z2l hmem;have HC:=lh (HIH.out x (by have:=HNN.out; omega) (by have:=HMX.out; omega) wr B0 hTx);have HNX:=lh (Zex hx);have HPO:=lh (Ze7 x);have HL2:=lh (show (a :: Z1r (a.kids.take (k + 1))).length≤100000 from Ya (by simp only [List.length_cons]; have:=Zea (l:=a.kids) (k:=k + 1); omega) HSL.out);unfold ATree.ptr at HC;clear hT2 hrow hv0 hTx hxm hmem hx
   go_wp2_with fail
   refine HC.out.mono ?_;rintro e w1 ⟨vk,rfl,hNk,hB1⟩;obtain ⟨L,hL⟩:=zX (a :: Z1r (a.kids.take k))
   have hNR:=HR.out;rw [← hL] at hNR;rcases hNk.form with ⟨_,h2⟩ | ⟨g1,cap1,rfl,hc1,hc2⟩;·have:=HPO.out; rw [h2] at this; simp at this
   have hL2:=HL2.out;have hLx:L ++ x.subs=a :: Z1r (a.kids.take (k + 1)):=by rw [HNX.out,hL]; rfl
   rw [← hLx,Yq] at hL2;have HLX:=lh hLx;have hR1:Z0q w1 w.heap.size v L:=Zg hNR fun j hj=>hB1.block j (Yh hNR j hj).2;have hg1:wr.heap.size≤g1∧g1 < w1.heap.size:=Yh hNk g1 rfl;have NEWS:=lh (show ∀ (j:Nat) (u:Value),(x.subs.map ATree.ptr)[j]?=some u→w1.cell? ((⟨g1,0,none⟩:Addr).add j)=some u from fun j u hu=>by
    have hadd:(⟨g1,0,none⟩:Addr).add j=⟨g1,j,none⟩:=by unfold Addr.add; split <;> simp_all
    rw [hadd];exact Zi hNk (g:=g1) rfl hu)
   obtain ⟨m,hm⟩:=zX x.subs.length
   have hm0:0 < m:=by rw [hm]; exact HPO.out
   have hLm:L.length + m≤100000:=by rw [hm]; exact hL2
   rw [← hm] at hc1 ⊢;have HM:=lh hm;have HNR:=lh hR1;have HNR0:=lh hNR;have HB1:=lh hB1;have HNF:=lh (show v.ownBlock≠some g1 from fun e=>by have:=(Yh hNR g1 e).2; omega);have HG1:=lh hg1;have hBS:=HB.out.size;have hB1s:=hB1.size;clear hNk hL hNR hL2 hLx hR1 hg1 hm hB1 HC HR HNX HL2
   go_wp2_with (at_builtin; go_must (refine wpList_append_lies _ rfl (.tmp 19) (.tmp 21) 47 rfl w.heap.size 22 i0 _ 1 8 Tryz.underlying47 hi hz0 hz1 hz2 rfl (by decide) v L.length (L.map ATree.ptr) rfl HNR.out ⟨g1,0,none⟩ m cap1 (x.subs.map ATree.ptr) rfl (by simp [HM.out]) NEWS.out (fun u hu=>by obtain ⟨z,_,rfl⟩:=List.mem_map.1 hu; rfl) (by omega) (by unfold maxLen; omega) (by omega) (by omega) w1.heap.size (by simp) ?_); intro gg cap w2 hown2 hgrow2 hat2 hgl2; have HG:=lh hgrow2; have HW:=lh hown2; clear hgrow2 hown2 hat2 hgl2)
   go_roundw
   case rel=>
    refine ⟨k + 1,_,rfl,by omega,by go_num,lh ?_,lh ?_⟩
    ·rw [← HLX.out];unfold Z0q;rw [Yq,Yu,← HM.out];exact HW.out
    ·exact (HB.out.trans (HB1.out.mono hBS)).grown HG.out (by omega) fun j hj=>(Yh HNR0.out j hj).1
   case measure=>simp [intOf]; omega
  ·have hk2 : k = n := by omega
   subst hk2;go_wp2;go_ret;refine ⟨_,rfl,?_,HB.out⟩;have:=HR.out;rwa [Ym (by rw [← HN.out]; exact Y5 _),← Z9h] at this
def Z2k (l m:List ByteArray):List ByteArray:=m.foldl addL l
theorem Zcd {l:List ByteArray} {s x:ByteArray} (h:x∈l):x∈addL l s:=by
 unfold addL;split;·exact h
 ·exact List.mem_append_left _ h
theorem Zbj (l:List ByteArray) (s:ByteArray):s∈addL l s:=by
 unfold addL;split;·rename_i h; exact (Lib.containsS_iff _ _).1 h
 ·simp
theorem Zf0:∀ (m l:List ByteArray) (x:ByteArray),x∈l∨x∈m→x∈Z2k l m:=by
 intro m;induction m with
 | nil=>intro l x h; rcases h with h | h; (exact h); (cases h)
 | cons y m ih =>
   intro l x h;refine ih (addL l y) x ?_;rcases h with h | h;·exact .inl (Zcd h)
   ·rcases List.mem_cons.1 h with rfl | h;·exact .inl (Zbj _ _)
    ·exact .inr h
theorem Zdp (l m:List ByteArray) (s:ByteArray):Z2k l (addL m s)=addL (Z2k l m) s:=by
 by_cases h:Lib.containsS m s=true
 ·have h1 : addL m s = m := by unfold addL; rw [Yb h]
  have h2:Lib.containsS (Z2k l m) s=true:=(Lib.containsS_iff _ _).2 (Zf0 m l s (.inr ((Lib.containsS_iff _ _).1 h)));rw [h1];conv=>rhs; unfold addL
  rw [Yb h2]
 ·have h1 : addL m s = m ++ [s] := by unfold addL; rw [Y9 h]
  rw [h1];simp [Z2k,List.foldl_append]
def ownV (a:ATree) (l:List ByteArray):List ByteArray:=if a.kind == 2 then addL l a.text else l
theorem Z6a (a:ATree) (l:List ByteArray):Z5d Z27 a l=cond (Z31 a) (ownV a l) (Z1v Z27 a.kids (ownV a l)):=by
 rw [Zav];have h1:(Z27 l a).1=!Z31 a:=rfl;have h2:(Z27 l a).2=ownV a l:=rfl;rw [h2];cases hi:Z31 a with
 | true=>rw [Y9 (by rw [h1,hi]; decide)]; rfl
 | false=>rw [Yb (by rw [h1,hi]; rfl)]; rfl
theorem Zb9 (a:ATree) (l m:List ByteArray):Z2k l (ownV a m)=ownV a (Z2k l m):=by
 unfold ownV;by_cases h:(a.kind == 2)=true;·rw [Yb h,Yb h,Zdp]
 ·rw [Y9 h,Y9 h]
theorem Zkb (a:ATree) (l:List ByteArray):(ownV a l).length≤l.length + 1:=by
 unfold ownV;split;·exact Z8j _ _
 ·omega
mutual
theorem Zg3:∀ (a:ATree) (l m:List ByteArray),Z2k l (Z5d Z27 a m)=Z5d Z27 a (Z2k l m)
 | .mk b v k t n ks, l, m => by
   rw [Z6a,Z6a];cases Z31 (.mk b v k t n ks) with
   | true=>simp only [cond_true]; exact Zb9 _ _ _
   | false=>simp only [cond_false,ATree.kids]; rw [Z6n ks,Zb9]
theorem Z6n:∀ (ks:List ATree) (l m:List ByteArray),Z2k l (Z1v Z27 ks m)=Z1v Z27 ks (Z2k l m)
 | [],l,m=>by simp only [Z1v]
 | a :: ks, l, m => by
   simp only [Z1v];rw [Z6n ks,Zg3 a]
end
mutual
theorem Zgb:∀ (a:ATree) (l:List ByteArray),(Z5d Z27 a l).length≤l.length + a.many
 | .mk b v k t n ks, l => by
   rw [Z6a];have h0:=Zkb (.mk b v k t n ks) l;cases Z31 (.mk b v k t n ks) with
   | true=>simp only [cond_true,ATree.many]; omega
   | false =>
     simp only [cond_false,ATree.kids,ATree.many];have:=Z67 ks (ownV (.mk b v k t n ks) l);omega
theorem Z67:∀ (ks:List ATree) (l:List ByteArray),(Z1v Z27 ks l).length≤l.length + Z1q ks
 | [],l=>by simp [Z1v]
 | a :: ks, l => by
   simp only [Z1v,Z1q];have h1:=Zgb a l;have h2:=Z67 ks (Z5d Z27 a l);omega
end
theorem Z90 (a:ATree):(Z3w a).length≤a.many:=by
 have:=Z67 a.kids [];obtain ⟨b,v,k,t,n,ks⟩:=a;unfold Z3w;simp only [ATree.kids,List.length_nil,ATree.many] at this ⊢;omega
theorem Z8i (x:ATree) (l:List ByteArray):Z5d Z27 x l=cond (Z31 x) (ownV x l) (Z2k (ownV x l) (Z3w x)):=by
 rw [Z6a];cases Z31 x with
 | true=>rfl
 | false =>
   simp only [cond_false];unfold Z3w;rw [Z6n];rfl
theorem Z8s {l m:List ByteArray} {j:Nat} {s:ByteArray} (h:m[j]?=some s):Z2k l (m.take (j + 1))=addL (Z2k l (m.take j)) s:=by
 have e:m.take (j + 1)=m.take j ++ [s]:=by rw [List.take_add_one,h]; rfl
 rw [e];simp [Z2k,List.foldl_append]
theorem Zaa (l m:List ByteArray):(Z2k l m).length≤l.length + m.length:=by
 induction m generalizing l with
 | nil=>simp [Z2k]
 | cons x m ih =>
   have h1:=ih (addL l x);have h2:=Z8j l x;simp only [Z2k,List.foldl_cons,List.length_cons] at h1 ⊢;omega
theorem Z8m (w:World) (B:Nat) (a:ATree) (hT:TreeAt w B a) :
 Calls Tryz.prog 89 #[a.ptr] w fun e w'=>e=.returned (.bool (Z31 a))∧w'=w:=by
 have c0:=hT.c0;unfold Z31 ATree.ptr;obtain ⟨kd,hkd⟩:=zX a.kind
 rw [← hkd] at c0 ⊢;clear hkd hT;rcases (by omega:kd=5∨kd=37∨(kd≠5∧kd≠37)) with h3 | h3 | ⟨h3,h4⟩
 ·subst h3;go_enter Tryz.func89, Tryz.ntmps89
  go_wp2;go_ret;exact ⟨rfl,rfl⟩
 ·subst h3;go_enter Tryz.func89, Tryz.ntmps89
  go_wp2;go_ret;exact ⟨rfl,rfl⟩
 ·have n3 : (kd == 5) = false := by simpa using h3
  have n4:(kd == 37)=false:=by simpa using h4
  clear h3 h4;rw [n3,n4];go_enter Tryz.func89,Tryz.ntmps89
  go_wp2;go_ret;exact ⟨rfl,rfl⟩
theorem Zii (n0:Nat):∀ (a:ATree),a.many≤n0→a.many≤100000→∀ (w:World) (B0:Nat),TreeAt w B0 a →
 Calls Tryz.prog 47 #[a.ptr] w fun e w'=>∃ v,e=.returned v∧Z04 w' w.heap.size v (Z3w a)∧Below w.heap.size w w':=by
 induction n0 with
 | zero=>intro a h; cases a; simp [ATree.many] at h
 | succ n0 ih=>
 intro a hn hmx w B0 hT;have HIH:=lh ih;obtain ⟨p,cp,hv,hge,hgm⟩:=hT.vOf;have c3:=hT.c3;rw [hv] at c3;have hkm:=Z35 a;have hlen:a.kids.length≤100000:=by omega
 have HT:=lh hT;have HV:=lh hv;have HNN:=lh hn;have HMX:=lh hmx;have HLEN:=lh (show ∀ k,(Z1v Z27 (a.kids.take k) []).length≤100000 from fun k=>by
  have h1:=Z67 (a.kids.take k) [];have h2:Z1q (a.kids.take k)≤Z1q a.kids:=by
   rw [← Z5q,← Z5q]; exact Zea
  have h3:Z1q a.kids < a.many:=by obtain ⟨b,v,kk,t,n,ks⟩:=a; simp only [ATree.kids,ATree.many]; omega
  simp only [List.length_nil] at h1;omega)
 unfold ATree.ptr;unfold Z3w;obtain ⟨n,hnn⟩:=zX a.kids.length
 rw [← hnn] at c3 hlen hge;have HN:=lh hnn;unfold maxLen at hgm;clear hv hnn hT hkm ih hn hmx;go_enter Tryz.func47,Tryz.ntmps47
 go_wp2_with fail
 go_loopw [3,15] (fun v i wr=>∃ (k:Nat) (v':Value),v'=v∧k≤n∧i=.int .i64 k∧Hid (Z04 wr w.heap.size v' (Z1v Z27 (a.kids.take k) []))∧Hid (Below w.heap.size w wr)) (fun _ i _=>n - (intOf i).toNat)
 case atStart=>exact ⟨0,_,rfl,Yp _,rfl,lh (Z04.nil _ _),lh (Y8 _ _)⟩
 case round=>
  obtain ⟨k,v,rfl,hk,rfl,HR,HB⟩:=hrel;by_cases hkn:k < n
  ·obtain ⟨x, hx⟩ : ∃ x, a.kids[k]? = some x := ⟨_, Yd (by rw [← HN.out]; exact hkn)⟩
   have hT2:=HT.out.bel HB.out;have hrow:=hT2.rowOf;rcases Zb hrow with ⟨_,h2⟩ | ⟨g0,cap0,hv0,_⟩;·rw [← HN.out] at h2; omega
   have hp:p=some ⟨g0,0,none⟩:=by
    have:=HV.out.symm.trans hv0;simp only [Value.slice.injEq] at this;exact this.1
   subst hp;have cx:=Zi hrow (g:=g0) (by rw [hv0]; rfl) (i:=k) (x:=x.ptr) (by rw [Yo,hx]; rfl);unfold ATree.ptr at cx;have hmem:=Yl hx;have hTx:=hT2.kid hmem;have hxm:=Z2l hmem;have x0:=hTx.c0;have x1:=hTx.c1;have HTX:=lh hTx;have HXM:=lh hxm;have HNX:=lh (show Z1v Z27 (a.kids.take (k + 1)) []=Z5d Z27 x (Z1v Z27 (a.kids.take k) []) from by rw [Z0w hx,Z62]);obtain ⟨L,hL⟩:=zX (Z1v Z27 (a.kids.take k) [])
   have HLL:=lh hL;have hl1:L.length≤100000:=by rw [hL]; exact HLEN.out k
   rw [← hL] at HR HNX;obtain ⟨kd,hkd⟩:=zX x.kind
   obtain ⟨tx,htx⟩:=zX x.text
   rw [← hkd] at x0;rw [← htx] at x1;have HKD:=lh hkd;have HTXT:=lh htx;have HSZ:=lh HB.out.size;clear hT2 hrow hv0 hTx hxm hmem hx hL hkd htx;by_cases h2:kd=2
   ·subst h2;have HA := lh (Z68 wr w.heap.size v L tx HR.out HSZ.out (by omega));go_wp2_with fail
    refine HA.out.mono ?_;rintro e w1 ⟨v1,rfl,ht1,hb1⟩;obtain ⟨L1,hL1⟩:=zX (addL L tx)
    have HL1:=lh (show ownV x L=L1 from by rw [hL1]; unfold ownV; rw [← HKD.out,← HTXT.out]; rfl);have HL1L:=lh (show L1.length≤100001 from by rw [hL1]; have:=Z8j L tx; omega);rw [← hL1] at ht1;have T1:=lh ht1;have BWR:=lh hb1;have BW:=lh (HB.out.trans (hb1.mono HB.out.size));clear ht1 hb1 HA hL1;have HTX1:=lh (HTX.out.bel BWR.out);have HI:=lh (Z8m w1 _ x HTX1.out);have HSW:=lh (BW.out.size);unfold ATree.ptr at HI;cases hin:Z31 x with
    | true =>
      rw [hin] at HI;have HFI:=lh (show Z1v Z27 (a.kids.take (k + 1)) []=L1 from by rw [HNX.out,Z8i,hin]; simp only [cond_true]; exact HL1.out);clear hin;go_wp2_with fail
      refine HI.out.mono ?_;rintro e w2 ⟨rfl,hw2⟩;have hw3:=hw2.symm;subst hw3;go_wp2;go_roundw
      case rel=>exact ⟨k + 1,_,rfl,by omega,by go_num,lh (by rw [HFI.out]; exact T1.out),BW⟩
      case measure=>simp [intOf]; omega
    | false =>
      rw [hin] at HI;have HFI:=lh (show Z1v Z27 (a.kids.take (k + 1)) []=Z2k L1 (Z3w x) from by rw [HNX.out,Z8i,hin]; simp only [cond_false]; rw [HL1.out]);have HC:=lh (HIH.out x (by have:=HNN.out; have:=HXM.out; omega) (by have:=HMX.out; have:=HXM.out; omega) w1 _ HTX1.out);unfold ATree.ptr at HC;clear hin;go_wp2_with fail
      refine HI.out.mono ?_;rintro e w2 ⟨rfl,hw2⟩;have hw3:=hw2.symm;subst hw3;go_wp2_with fail
      refine HC.out.mono ?_;rintro e w3 ⟨vm,rfl,htm,hb3⟩;obtain ⟨M,hM⟩:=zX (Z3w x)
      have hml:M.length≤100000:=by rw [hM]; have:=Z90 x; have:=HXM.out; have:=HMX.out; omega
      rw [← hM] at htm HFI;obtain ⟨q,cq,rfl,hqe,hqm⟩:∃ p cp,vm=.slice p M.length cp∧M.length≤cp∧cp≤maxLen:=by
       rcases htm.form with ⟨h1,h2⟩ | ⟨g,cap,h1,h2,h3⟩;·exact ⟨none,0,by rw [h1,h2]; rfl,by rw [h2]; exact Y5 _,by unfold maxLen; omega⟩
       ·exact ⟨_,_,h1,h2,h3⟩
      unfold maxLen at hqm;obtain ⟨m,hm⟩:=zX M.length
      have T3:=lh (T1.out.bel hb3);have B3:=lh (BW.out.trans (hb3.mono BW.out.size));rw [← hm] at htm hqe hml ⊢;have HM:=lh hm;have HTM:=lh htm;clear hM hm htm hb3 HC HI HR HB;go_wp2_with fail
      go_loopw [3,36] (fun v i wr'=>∃ (j:Nat) (v':Value),v'=v∧j≤m∧i=.int .i64 j∧Hid (Z04 wr' w.heap.size v' (Z2k L1 (M.take j)))∧Hid (Z04 wr' w1.heap.size (.slice q m cq) M)∧Hid (Below w.heap.size w wr')) (fun _ i _=>m - (intOf i).toNat)
      case atStart=>exact ⟨0,_,rfl,Yp _,rfl,T3,HTM,B3⟩
      case round=>
       obtain ⟨j,v,rfl,hj,rfl,HR,HM2,HB⟩:=hrel;clear T3 HTM B3;by_cases hjm:j < m
       ·obtain ⟨y, hy⟩ : ∃ y, M[j]? = some y := ⟨_, Yd (by rw [← HM.out]; exact hjm)⟩
        obtain ⟨g1,hq⟩:∃ g,q=some ⟨g,0,none⟩:=by
         rcases HM2.out.form with ⟨_,h2⟩ | ⟨g,cap,h1,_⟩;·rw [h2] at hy; simp at hy
         ·simp only [Value.slice.injEq] at h1; exact ⟨g,h1.1⟩
        subst hq;have cy:=HM2.out.cells rfl hy;have HST:=lh (Z8s (l:=L1) hy);have hlm:(Z2k L1 (M.take j)).length≤300000:=by
         have h1:=Zaa L1 (M.take j);have h2:(M.take j).length≤M.length:=by rw [List.length_take]; omega
         have h3:=HM.out;have h4:=HL1L.out;omega
        have HA:=lh (Z68 _ w.heap.size v _ y HR.out HB.out.size (by omega));clear hy hlm;go_wp2_with fail
        refine HA.out.mono ?_;rintro e w4 ⟨v4,rfl,ht4,hb4⟩;have T4:=lh ht4;have M4:=lh (HM2.out.bel hb4);have B4:=lh (HB.out.trans (hb4.mono HB.out.size));clear ht4 hb4 HA;go_wp2;go_roundw
        case rel=>exact ⟨j + 1,_,rfl,by omega,by go_num,lh (by rw [HST.out]; exact T4.out),M4,B4⟩
        case measure=>simp [intOf]; omega
       ·have hj2 : j = m := by omega
        subst hj2;have HFIN:=lh (show Z04 _ w.heap.size v (Z1v Z27 (a.kids.take (k + 1)) []) from by
         have:=HR.out;rw [Ym (by rw [← HM.out]; exact Y5 _)] at this;rw [HFI.out]; exact this)
        go_wp2;go_roundw
        case rel=>exact ⟨k + 1,_,rfl,by omega,by go_num,HFIN,HB⟩
        case measure=>simp [intOf]; omega
   ·have n2 : (kd == 2) = false := by simpa using h2
    obtain ⟨L1,hL1⟩:=zX L
    have HL1:=lh (show ownV x L=L1 from by rw [hL1]; unfold ownV; rw [← HKD.out,n2]; rfl);have HL1L:=lh (show L1.length≤100001 from by rw [hL1]; omega);rw [← hL1] at HR;have T1:=HR;have BW:=HB;clear hL1 h2;have HTX1:=lh (HTX.out.bel (Y8 _ _));have HI:=lh (Z8m wr _ x HTX1.out);have HSW:=lh (BW.out.size);unfold ATree.ptr at HI;cases hin:Z31 x with
    | true =>
      rw [hin] at HI;have HFI:=lh (show Z1v Z27 (a.kids.take (k + 1)) []=L1 from by rw [HNX.out,Z8i,hin]; simp only [cond_true]; exact HL1.out);clear hin;go_wp2_with fail
      refine HI.out.mono ?_;rintro e w2 ⟨rfl,hw2⟩;have hw3:=hw2.symm;subst hw3;go_wp2;go_roundw
      case rel=>exact ⟨k + 1,_,rfl,by omega,by go_num,lh (by rw [HFI.out]; exact T1.out),BW⟩
      case measure=>simp [intOf]; omega
    | false =>
      rw [hin] at HI;have HFI:=lh (show Z1v Z27 (a.kids.take (k + 1)) []=Z2k L1 (Z3w x) from by rw [HNX.out,Z8i,hin]; simp only [cond_false]; rw [HL1.out]);have HC:=lh (HIH.out x (by have:=HNN.out; have:=HXM.out; omega) (by have:=HMX.out; have:=HXM.out; omega) wr _ HTX1.out);unfold ATree.ptr at HC;clear hin;go_wp2_with fail
      refine HI.out.mono ?_;rintro e w2 ⟨rfl,hw2⟩;have hw3:=hw2.symm;subst hw3;go_wp2_with fail
      refine HC.out.mono ?_;rintro e w3 ⟨vm,rfl,htm,hb3⟩;obtain ⟨M,hM⟩:=zX (Z3w x)
      have hml:M.length≤100000:=by rw [hM]; have:=Z90 x; have:=HXM.out; have:=HMX.out; omega
      rw [← hM] at htm HFI;obtain ⟨q,cq,rfl,hqe,hqm⟩:∃ p cp,vm=.slice p M.length cp∧M.length≤cp∧cp≤maxLen:=by
       rcases htm.form with ⟨h1,h2⟩ | ⟨g,cap,h1,h2,h3⟩;·exact ⟨none,0,by rw [h1,h2]; rfl,by rw [h2]; exact Y5 _,by unfold maxLen; omega⟩
       ·exact ⟨_,_,h1,h2,h3⟩
      unfold maxLen at hqm;obtain ⟨m,hm⟩:=zX M.length
      have T3:=lh (T1.out.bel hb3);have B3:=lh (BW.out.trans (hb3.mono BW.out.size));rw [← hm] at htm hqe hml ⊢;have HM:=lh hm;have HTM:=lh htm;clear hM hm htm hb3 HC HI HR HB;go_wp2_with fail
      go_loopw [3,36] (fun v i wr'=>∃ (j:Nat) (v':Value),v'=v∧j≤m∧i=.int .i64 j∧Hid (Z04 wr' w.heap.size v' (Z2k L1 (M.take j)))∧Hid (Z04 wr' wr.heap.size (.slice q m cq) M)∧Hid (Below w.heap.size w wr')) (fun _ i _=>m - (intOf i).toNat)
      case atStart=>exact ⟨0,_,rfl,Yp _,rfl,T3,HTM,B3⟩
      case round=>
       obtain ⟨j,v,rfl,hj,rfl,HR,HM2,HB⟩:=hrel;clear T3 HTM B3;by_cases hjm:j < m
       ·obtain ⟨y, hy⟩ : ∃ y, M[j]? = some y := ⟨_, Yd (by rw [← HM.out]; exact hjm)⟩
        obtain ⟨g1,hq⟩:∃ g,q=some ⟨g,0,none⟩:=by
         rcases HM2.out.form with ⟨_,h2⟩ | ⟨g,cap,h1,_⟩;·rw [h2] at hy; simp at hy
         ·simp only [Value.slice.injEq] at h1; exact ⟨g,h1.1⟩
        subst hq;have cy:=HM2.out.cells rfl hy;have HST:=lh (Z8s (l:=L1) hy);have hlm:(Z2k L1 (M.take j)).length≤300000:=by
         have h1:=Zaa L1 (M.take j);have h2:(M.take j).length≤M.length:=by rw [List.length_take]; omega
         have h3:=HM.out;have h4:=HL1L.out;omega
        have HA:=lh (Z68 _ w.heap.size v _ y HR.out HB.out.size (by omega));clear hy hlm;go_wp2_with fail
        refine HA.out.mono ?_;rintro e w4 ⟨v4,rfl,ht4,hb4⟩;have T4:=lh ht4;have M4:=lh (HM2.out.bel hb4);have B4:=lh (HB.out.trans (hb4.mono HB.out.size));clear ht4 hb4 HA;go_wp2;go_roundw
        case rel=>exact ⟨j + 1,_,rfl,by omega,by go_num,lh (by rw [HST.out]; exact T4.out),M4,B4⟩
        case measure=>simp [intOf]; omega
       ·have hj2 : j = m := by omega
        subst hj2;have HFIN:=lh (show Z04 _ w.heap.size v (Z1v Z27 (a.kids.take (k + 1)) []) from by
         have:=HR.out;rw [Ym (by rw [← HM.out]; exact Y5 _)] at this;rw [HFI.out]; exact this)
        go_wp2;go_roundw
        case rel=>exact ⟨k + 1,_,rfl,by omega,by go_num,HFIN,HB⟩
        case measure=>simp [intOf]; omega
  ·have hk2 : k = n := by omega
   subst hk2;go_wp2;go_ret;refine ⟨_,rfl,?_,HB.out⟩;have:=HR.out;rwa [Ym (by rw [← HN.out]; exact Y5 _)] at this
def Z43 (cs:List Int) (x:ATree):List ATree:=(cs.filter fun c=>x.kind == c).map fun _=>x
def Z4o (cs:List Int) (ks:List ATree):List ATree:=ks.flatMap (Z43 cs)
theorem Zdn {cs:List Int} {ks:List ATree} {k:Nat} {x:ATree} (h:ks[k]?=some x):Z4o cs (ks.take (k + 1))=Z4o cs (ks.take k) ++ Z43 cs x:=by
 rw [Z0w h];simp [Z4o]
theorem Zbw {cs:List Int} {j:Nat} {c:Int} {x:ATree} (h:cs[j]?=some c):Z43 (cs.take (j + 1)) x=Z43 (cs.take j) x ++ (if x.kind == c then [x] else []):=by
 have e:cs.take (j + 1)=cs.take j ++ [c]:=by rw [List.take_add_one,h]; rfl
 rw [e];unfold Z43;rw [List.filter_append,Yu];by_cases hc:(x.kind == c)=true;·rw [Yb hc]; simp [hc]
 ·rw [Y9 hc]; simp [hc]
theorem Z9b (cs:List Int) (x:ATree):(Z43 cs x).length≤cs.length:=by
 unfold Z43;rw [Yv];exact List.length_filter_le _ _
theorem Zfn (cs:List Int) (ks:List ATree):(Z4o cs ks).length≤cs.length * ks.length:=by
 induction ks with
 | nil=>simp [Z4o]
 | cons x ks ih =>
   have h1:=Z9b cs x;simp only [Z4o,List.flatMap_cons,List.length_append,List.length_cons] at ih ⊢;rw [Nat.mul_succ];omega
theorem Zfc (ks:List ATree):Z4o [5] ks=ks.filter Z1i:=by
 induction ks with
 | nil=>rfl
 | cons x ks ih =>
   simp only [Z4o,List.flatMap_cons] at ih ⊢;rw [ih];unfold Z43 Z1i;by_cases h:(x.kind == 5)=true;·simp [h]
   ·simp [h]
theorem Zgx (ks:List ATree):Z4o [3,4] ks=ks.filter Z2g:=by
 induction ks with
 | nil=>rfl
 | cons x ks ih =>
   simp only [Z4o,List.flatMap_cons] at ih ⊢;rw [ih];unfold Z43 Z2g;by_cases h:(x.kind == 3)=true
   ·have h4:(x.kind == 4)=false:=by
     have:x.kind=3:=by simpa using h
     rw [this]; rfl
    simp [h,h4]
   ·by_cases h4 : (x.kind == 4) = true;·simp [h, h4]
    ·simp [h,h4]
theorem Z0q.snoc {w:World} {B g cap:Nat} {l:List ATree} {x:ATree} (h:w.ownsRow B 22 1 (.slice (some ⟨g,0,none⟩) (l.length + 1) cap) (l.length + 1) (l.map ATree.ptr ++ [x.ptr])):Z0q w B (.slice (some ⟨g,0,none⟩) (l.length + 1) cap) (l ++ [x]):=by
 unfold Z0q;rw [Yq,Yu];exact h
theorem Zah (w:World) (B0:Nat) (a:ATree) (hT:TreeAt w B0 a) (hmx:a.many≤100000) (lb:Nat) (cs:List Int) (hlb:lb < w.heap.size) (hcs:∀ i x,cs[i]?=some x→w.cell? ⟨lb,i,none⟩=some (.int .i64 x)) (hc10:cs.length≤10) :
 Calls Tryz.prog 45 #[a.ptr,.slice (some ⟨lb,0,none⟩) cs.length cs.length] w fun e w'=>∃ v,e=.returned v∧Z0q w' w.heap.size v (Z4o cs a.kids)∧Below w.heap.size w w':=by
 obtain ⟨i0,hi,hz0,hz1,hz2⟩:=info_parts Tryz.infoPtr;obtain ⟨p,cp,hv,hge,hgm⟩:=hT.vOf;have c3:=hT.c3;rw [hv] at c3;have hkm:=Z35 a;have hlen:a.kids.length≤100000:=by omega
 have HT:=lh hT;have HV:=lh hv;have HCS:=lh hcs;have HLB:=lh hlb;have HSL:=lh (show ∀ k,(Z4o cs (a.kids.take k)).length≤1000000 from fun k=>by
  have h1:=Zfn cs (a.kids.take k);have h2:(a.kids.take k).length≤a.kids.length:=by rw [List.length_take]; omega
  have h3:cs.length * (a.kids.take k).length≤10 * 100000:=Nat.mul_le_mul hc10 (by omega);omega)
 unfold ATree.ptr;obtain ⟨n,hnn⟩:=zX a.kids.length
 rw [← hnn] at c3 hlen hge;have HN:=lh hnn;obtain ⟨m,hm⟩:=zX cs.length
 rw [← hm] at hc10 ⊢;have HM:=lh hm;unfold maxLen at hgm;clear hv hnn hT hkm hmx hm hcs hlb;go_enter Tryz.func45,Tryz.ntmps45
 go_wp2_with fail
 go_loopw [5,17] (fun v i wr=>∃ (k:Nat) (v':Value),v'=v∧k≤n∧i=.int .i64 k∧Hid (Z0q wr w.heap.size v' (Z4o cs (a.kids.take k)))∧Hid (Below w.heap.size w wr)) (fun _ i _=>n - (intOf i).toNat)
 case atStart=>exact ⟨0,_,rfl,Yp _,rfl,lh (Z0q.nil _ _),lh (Y8 _ _)⟩
 case round=>
  obtain ⟨k,v,rfl,hk,rfl,HR,HB⟩:=hrel;by_cases hkn:k < n
  ·obtain ⟨x, hx⟩ : ∃ x, a.kids[k]? = some x := ⟨_, Yd (by rw [← HN.out]; exact hkn)⟩
   have hT2:=HT.out.bel HB.out;have hrow:=hT2.rowOf;rcases Zb hrow with ⟨_,h2⟩ | ⟨g0,cap0,hv0,_⟩;·rw [← HN.out] at h2; omega
   have hp:p=some ⟨g0,0,none⟩:=by
    have:=HV.out.symm.trans hv0;simp only [Value.slice.injEq] at this;exact this.1
   subst hp;have cx:=Zi hrow (g:=g0) (by rw [hv0]; rfl) (i:=k) (x:=x.ptr) (by rw [Yo,hx]; rfl);unfold ATree.ptr at cx;have hTx:=(HT.out).kid (Yl hx);have HTX:=lh hTx;have HNX:=lh (Zdn (cs:=cs) hx);obtain ⟨L,hL⟩:=zX (Z4o cs (a.kids.take k))
   have hl1:L.length≤1000000:=by rw [hL]; exact HSL.out k
   rw [← hL] at HR HNX;clear hT2 hrow hv0 hTx hx hL;go_wp2_with fail
   go_loopw [5,23] (fun v i wr'=>∃ (j:Nat) (v':Value),v'=v∧j≤m∧i=.int .i64 j∧Hid (Z0q wr' w.heap.size v' (L ++ Z43 (cs.take j) x))∧Hid (Below w.heap.size w wr')) (fun _ i _=>m - (intOf i).toNat)
   case atStart=>exact ⟨0,_,rfl,Yp _,rfl,lh (by have:=HR.out; simpa [Z43] using this),HB⟩
   case round=>
    obtain ⟨j,v,rfl,hj,rfl,HR2,HB2⟩:=hrel;by_cases hjm:j < m
    ·obtain ⟨c, hc⟩ : ∃ c, cs[j]? = some c := ⟨_, Yd (by rw [← HM.out]; exact hjm)⟩
     have cc:=(HB2.out.cell (p:=⟨lb,j,none⟩) HLB.out).trans (HCS.out j c hc);have x0:=(HTX.out.bel HB2.out).c0;have HST:=lh (Zbw (x:=x) hc);obtain ⟨L2,hL2⟩:=zX (L ++ Z43 (cs.take j) x)
     have hl2:L2.length≤1000010:=by
      rw [hL2,Yq];have h1:=Z9b (cs.take j) x;have h2:(cs.take j).length≤cs.length:=by rw [List.length_take]; omega
      have h3:=HM.out;omega
     rw [← hL2] at HR2;have HL2:=lh hL2;obtain ⟨kd,hkd⟩:=zX x.kind
     rw [← hkd] at x0 HST;clear hc hL2 hkd;by_cases hkc:kd=c
     ·subst hkc;have hbb : (kd == kd) = true := beq_self_eq_true _;have HB3 := HB2.out.size
      go_wp2_with (at_builtin; go_must (refine wpList_append_lies _ rfl (.tmp 33) (.tmp 35) 47 rfl w.heap.size 22 i0 _ 1 8 Tryz.underlying47 hi hz0 hz1 hz2 rfl (by decide) v L2.length (L2.map ATree.ptr) rfl (HR2.out.alloc _) ⟨_,0,none⟩ 1 1 [x.ptr] rfl rfl (Yi (cs:=#[x.ptr]) (t:=22) (fr:=(0,0)) (heap_alloc_new _ _)) (by simp [ATree.ptr,Value.oneCell']) (by omega) (by unfold maxLen; omega) (by omega) (by simp; omega) _ rfl ?_); intro gg cap w4 hown4 hgrow4 hat4 hgl4; have HG:=lh hgrow4; have HW:=lh hown4; clear hgrow4 hown4 hat4 hgl4)
      go_roundw
      case rel=>exact ⟨j + 1,_,rfl,by omega,by go_num,lh (by rw [HST.out,Yb (beq_self_eq_true _),← List.append_assoc,← HL2.out]; exact Z0q.snoc HW.out),lh ((HB2.out.alloc HB2.out.size _).grown HG.out (by simp; omega) fun i hi2=>(Yh HR2.out i hi2).1)⟩
      case measure=>simp [intOf]; omega
     ·have hbb : (kd == c) = false := by simpa using hkc
      clear hkc;go_wp2;go_roundw
      case rel=>exact ⟨j + 1,_,rfl,by omega,by go_num,lh (by rw [HST.out,hbb,← List.append_assoc,← HL2.out]; simpa using HR2.out),HB2⟩
      case measure=>simp [intOf]; omega
    ·have hj2 : j = m := by omega
     subst hj2;have HFIN:=lh (show Z0q _ w.heap.size v (Z4o cs (a.kids.take (k + 1))) from by
      have:=HR2.out;rw [Ym (by rw [← HM.out]; exact Y5 _)] at this;rw [HNX.out]; exact this)
     go_wp2;go_roundw
     case rel=>exact ⟨k + 1,_,rfl,by omega,by go_num,HFIN,HB2⟩
     case measure=>simp [intOf]; omega
  ·have hk2 : k = n := by omega
   subst hk2;go_wp2;go_ret;refine ⟨_,rfl,?_,HB.out⟩;have:=HR.out;rwa [Ym (by rw [← HN.out]; exact Y5 _)] at this
theorem Zaq (w:World) (B0:Nat) (a:ATree) (hT:TreeAt w B0 a) (hmx:a.many≤100000) :
 Calls Tryz.prog 48 #[a.ptr] w fun e w'=>∃ v,e=.returned v∧Z0q w' w.heap.size v (a.kids.filter Z1i)∧Below w.heap.size w w':=by
 have hal:Below w.heap.size w (w.alloc (.cells #[.int .i64 5] 3)):=(Y8 _ _).alloc (Y5 _) _;have HC:=Zah (w.alloc (.cells #[.int .i64 5] 3)) B0 a (hT.bel hal) hmx w.heap.size [5] (by simp) (fun i x hx=>by
  cases i with
  | zero=>simp at hx; subst hx; simp
  | succ i=>simp at hx) (by simp)
 rw [Zfc] at HC;have HC:=lh HC;have HAL:=lh hal;unfold ATree.ptr at HC ⊢;clear hal hT hmx;go_enter Tryz.func48,Tryz.ntmps48
 go_wp2_with fail
 refine HC.out.mono ?_;rintro e w1 ⟨v,rfl,hn,hb⟩;have HNN:=lh hn;have HBB:=lh (HAL.out.trans (hb.mono HAL.out.size));clear hn hb HC;go_wp2;go_ret;exact ⟨_,rfl,Z28 HAL.out.size HNN.out,HBB.out⟩
theorem Z9t (w:World) (B0:Nat) (a:ATree) (hT:TreeAt w B0 a) (hmx:a.many≤100000) :
 Calls Tryz.prog 20 #[a.ptr] w fun e w'=>∃ v,e=.returned v∧Z0q w' w.heap.size v (a.kids.filter Z2g)∧Below w.heap.size w w':=by
 have hal:Below w.heap.size w (w.alloc (.cells #[.int .i64 3,.int .i64 4] 3)):=(Y8 _ _).alloc (Y5 _) _;have HC:=Zah (w.alloc (.cells #[.int .i64 3,.int .i64 4] 3)) B0 a (hT.bel hal) hmx w.heap.size [3,4] (by simp) (fun i x hx=>by
  cases i with
  | zero=>simp at hx; subst hx; simp
  | succ i =>
    cases i with
    | zero=>simp at hx; subst hx; simp
    | succ i=>simp at hx) (by simp)
 rw [Zgx] at HC;have HC:=lh HC;have HAL:=lh hal;unfold ATree.ptr at HC ⊢;clear hal hT hmx;go_enter Tryz.func20,Tryz.ntmps20
 go_wp2_with fail
 refine HC.out.mono ?_;rintro e w1 ⟨v,rfl,hn,hb⟩;have HNN:=lh hn;have HBB:=lh (HAL.out.trans (hb.mono HAL.out.size));clear hn hb HC;go_wp2;go_ret;exact ⟨_,rfl,Z28 HAL.out.size HNN.out,HBB.out⟩
end Go.Proofs.YtajomcjaljakhaaGreatDoor
