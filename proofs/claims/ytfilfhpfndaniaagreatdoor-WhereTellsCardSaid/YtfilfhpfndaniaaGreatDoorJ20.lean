/- The document's Where: at a function: its ring. -/
import Derived.Test.YtfilfhpfndaniaaGreatDoorJ19
namespace Go.Proofs.YtfilfhpfndaniaaGreatDoor
open Go Go.RowKit
set_option maxRecDepth 100000
set_option maxHeartbeats 20000000
set_option linter.unusedVariables false
theorem Z9g {P:Program} {w:World} {o:Oper} {a:Act} {K:Act→World→Prop} {Q:Exit→Act→World→Prop} (s x:Operand) (t:TypeId)
 (ho:o.op=.call { callee:=.builtin .append,args:=#[s,x],argTypes:=#[t,t] })
 (base:Nat) (e:TypeId) (i:TypeInfo) (size:Nat) (ht:P.underlying t=some (.slice e)) (hi:P.info? e=some i)
 (v:Value) (n:Nat) (xs:List Value) (hs:a.eval s=v) (hown:w.ownsRow base e size v n xs) (p:Option Addr) (c:Nat) (hx:a.eval x=.slice p 0 c)
 (h:K (a.put o.dst v) w):o.wp P a w K Q:=by
 have hrun:=Z3h (P:=P) w base t o.type e i size ht hi v n xs hown p c;unfold Oper.wp;simp [execOp,ho,resolve,invoke,builtin,hs,hx,hrun,Result.andThen];exact h
theorem Zb1 {P:Program} {md:Region.Mode} {ops:Array Oper} {Q:Exit→Act→World→Prop} {S:World→Prop} {t i:Nat} {o:Oper} {r:Pl3} {b:Bool} {a:Act} {w:World} (ho:ops[i]?=some o)
 (hw:Region.wanted o (yielded ops a.tmps)=false) (h:Z3v P md ops Q S t r b (a.put o.dst undef) w):Z3v P md ops Q S t (.take i r) b a w:=
 ⟨o,undef,ho,.inr (.inr ⟨hw,rfl⟩),h⟩
theorem RingsAt.form2 {w:World} {B:Nat} {v:Value} {R:List (Sc×Value)} (h:RingsAt w B v R):∃ g n cap,v=.slice (some ⟨g,0,none⟩) n cap:=by
 obtain ⟨g,cap,h,_⟩:=h.form;exact ⟨_,_,_,h⟩
theorem Zjd {l:List ByteArray} {s x:ByteArray}:x∈addL l s↔x∈l∨x=s:=by
 unfold addL;split
 ·rename_i h;constructor;·exact .inl
  ·rintro (h1 | rfl);·exact h1
   ·exact (Lib.containsS_iff _ _).1 h
 ·simp
theorem Zi3 {ks:List ATree} {l:List ByteArray} {x:ByteArray}:x∈Z0l l ks↔x∈l∨x∈ks.map ATree.text:=by
 induction ks generalizing l with
 | nil=>simp [Z0l]
 | cons k ks ih =>
   have e:Z0l l (k :: ks)=Z0l (addL l k.text) ks:=rfl;rw [e,ih,Zjd,List.map_cons,List.mem_cons,or_assoc]
theorem Zal (ps bd:ATree) (n:ByteArray):Lib.containsS (Z0l [] ps.kids ++ [Zi] ++ Z0b true bd) n=Lib.containsS (Zi :: (ps.kids.map ATree.text ++ Z0b true bd)) n:=by
 rw [Bool.eq_iff_iff,Lib.containsS_iff,Lib.containsS_iff];simp only [List.mem_append,Zi3,List.mem_cons,List.not_mem_nil,or_false,false_or];constructor
 ·rintro ((h | h) | h);·exact .inr (.inl h)
  ·exact .inl h
  ·exact .inr (.inr h)
 ·rintro (h | h | h);·exact .inl (.inr h)
  ·exact .inl (.inl h)
  ·exact .inr h
section
variable {w0 we w:World} {nb ob kb mb q:Nat} {N:Nat→Nat} {L:List (Nat×Nat)} {m B:Nat} {fn ps bd:ATree} {R:List (Sc×Value)} {S:List Sc} {rv:Value} {st:Bool} {out:List Us} {A:Act}
theorem fw_c (hIH:Z58 w0 nb ob kb mb N L m) (hm:bd.many≤m + 1) (hWT:WT bd.tree) (hFT:FT bd.tree) (hT:TreeAt w0 B bd) (hnum:∀ x∈bd.subs,(x.b,N x.b)∈L) (hlen:out.length + bd.many≤100000) {cl:Bool} (hk:fn.kids=[ps,bd]) (hTf:TreeAt w0 B fn) (hfm:fn.many≤100000) (hinf:(fn.b,N fn.b)∈L) (hRl:R.length + 2 * bd.many≤1000001) (fr:Fw fn.b nb kb q st A) (t12:A.tmps.getD 12 undef=.pointer (some ⟨bd.b,0,none⟩)) (t13:A.tmps.getD 13 undef=.bool cl) (hM:WMid w0 nb ob kb mb N L we q rv R out w) (hE:LkEq (Z3k R) S) :
 (fwAt [1,1,0,0,1,1,1,1,1,1,1,1,1,0,1,1,1,1,1]).wp Tryz.prog (FQ w0 nb ob kb mb N L we out bd.kids (⟨N fn.b,Zi :: (ps.kids.map ATree.text ++ Z0b true bd),!st && cl⟩ :: S) st) A w:=by
 obtain ⟨i0,hi,hz0,hz1,hz2⟩:=info_parts Tryz.infoStr
 have hD:∀ (A':Act) (w':World) (rv':Value) (R':List (Sc×Value)),Fw fn.b nb kb q st A'→A'.tmps.getD 12 undef=.pointer (some ⟨bd.b,0,none⟩)→WMid w0 nb ob kb mb N L we q rv' R' out w'→LkEq (Z3k R') (⟨N fn.b,Zi :: (ps.kids.map ATree.text ++ Z0b true bd),!st && cl⟩ :: S)→R'.length=R.length + 1 →
  (fwAt [1,1,0,0,1,1,1,1,1,1,1,1,1,0,1,1,1,1,1,1]).wp Tryz.prog (FQ w0 nb ob kb mb N L we out bd.kids (⟨N fn.b,Zi :: (ps.kids.map ATree.text ++ Z0b true bd),!st && cl⟩ :: S) st) A' w':=fun A' w' rv' R' h1 h2 h3 h4 h5=>fw_d hIH hm hWT hFT hT hnum hlen (by omega) h1 h2 h3 h4
 have E:fwAt [1,1,0,0,1,1,1,1,1,1,1,1,1,0,1,1,1,1,1]=Code.seq (fwAt [1,1,0,0,1,1,1,1,1,1,1,1,1,0,1,1,1,1,1,0]) (fwAt [1,1,0,0,1,1,1,1,1,1,1,1,1,0,1,1,1,1,1,1]):=by kernel_rfl
 rw [E];clear E;obtain ⟨DD,hDD⟩:=zX (fwAt [1,1,0,0,1,1,1,1,1,1,1,1,1,0,1,1,1,1,1,1])
 rw [← hDD] at hD ⊢;clear hDD;obtain ⟨g,cap,rfl,hle,hmx⟩:∃ g cap,rv=.slice (some ⟨g,0,none⟩) R.length cap∧R.length≤cap∧cap≤maxLen:=by
  obtain ⟨g,cap,h1,_,h2,h3⟩:=hM.rings.form;exact ⟨g,cap,h1,h2,h3⟩
 obtain ⟨n,hn⟩:=zX R.length
 rw [← hn] at hM;obtain ⟨tm,df⟩:=A;obtain ⟨x,ex,hx⟩:=Zam tm fr.size;have e0:=(hx 0).trans fr.t0;have e2:=(hx 2).trans fr.t2;have e3:=(hx 3).trans fr.t3;have e5:=(hx 5).trans fr.t5;have e7:=(hx 7).trans fr.t7;have e9:=(hx 9).trans fr.t9;have e12:=(hx 12).trans t12;have e13:=(hx 13).trans t13;have ed:df=[]:=fr.defs;clear fr hx;subst ex;subst ed;rw [e0,e2,e3,e5,e7,e9,e12,e13];clear e0 e2 e3 e5 e7 e9 e12 e13;obtain ⟨Q,hQ⟩:=zX (FQ w0 nb ob kb mb N L we out bd.kids (⟨N fn.b,Zi :: (ps.kids.map ATree.text ++ Z0b true bd),!st && cl⟩ :: S) st)
 rw [← hQ] at hD ⊢;have HQP:Hid (∀ c a d v w,Q (.panic c) (Act.put a d v) w→Q (.panic c) a w):=lh fun c a d v w h=>by rw [hQ] at h; exact absurd h.1 (by simp)
 have HD:=lh hD;have HM:=lh hM;have HE:=lh hE;have HRL:=lh hRl;have HWD:=lh (show Below w.heap.size w w.drew from (Y8 _ _).drew);have HS:=lh (show ∀ W,Below w.heap.size w W→W.cell? ⟨nb,0,none⟩=some (.map (some mb))∧(Instr.lookup 45 (.map (some mb)) (Z30 fn.b) false).run Tryz.prog W=.ok (.int .i64 (N fn.b)) W from fun W hW=>⟨(hM.on hW).cells.1,(hM.on hW).st.look hinf⟩);have HPA:=lh (fun (W:World) (hW:Below w.heap.size w W)=>Ze5 W B fn ps bd (hTf.keep fun k _ hk=>(hM.on hW).st.bel.block k hk) hk hfm)
 have HNM:=lh (fun (W:World) (hW:Below w.heap.size w W)=>Ze2 W B bd (hT.keep fun k _ hk=>(hM.on hW).st.bel.block k hk) (by omega));have hml:ps.kids.length + bd.many≤100000:=by have h1:=Z8p hk; have h2:=Z4f ps; omega
 have HL5:=lh (show (Z0l [] ps.kids).length≤100000 from by have h:=Z2a [] ps.kids; simp only [List.length_nil] at h; omega);have HL9:=lh (show (Z0b true bd).length≤300000 from by have h:=Zan bd; omega);have SZD:w.drew.heap.size=w.heap.size:=rfl;unfold ATree.ptr at HPA HNM;clear hIH hm hWT hFT hT hnum hlen hRl t12 t13 hM hE hQ hle hmx hn hk hTf hfm hinf hD hml;refine wp_seq_k (fun K hK=>?_);have HK:=lh hK;clear hK;conv=>arg 2; whnf
 refine Z1b (.take 0 (.take 1 (.take 2 (.take 3 (.take 4 (.take 8 (.take 11 (.two 5 (.go 6 (.go 7 (.go 9 (.go 10 (.take 12 (.take 13 (.take 14 (.take 15 (.take 16 (.go 17 (.go 18 .nil))))))))))) 6 (.go 5 (.go 7 (.go 9 (.go 10 (.take 12 (.take 13 (.take 14 (.take 15 (.take 16 (.go 17 (.go 18 .nil))))))))))))))))))) 18 (fun W=>W.cell? ⟨nb,0,none⟩=some (.map (some mb))∧(Instr.lookup 45 (.map (some mb)) (Z30 fn.b) false).run Tryz.prog W=.ok (.int .i64 (N fn.b)) W) (by kernel_rfl) (by kernel_rfl) (fun c a d v w h=>HQP.out c a d v w h) (HS.out _ HWD.out) ?_
 iterate 7
  first
   | (refine Z05 ?_ (by rfl) (by rfl) (fun w'=>?_) ?_; rotate_left; (go_simp; first | done | with_reducible rfl))
   | (refine Z0a ?_ (by rfl) (by kernel_rfl) (by rfl) (fun w' hS'=>?_) ?_; rotate_left; (obtain ⟨s0,s1⟩:=hS'; go_simp; first | done | with_reducible rfl))
   | (refine Z0a (.int .i64 (N fn.b)) (by rfl) (by kernel_rfl) (by rfl) (fun w' hS'=>Z27 _ _ (by rfl) mb fn.b (N fn.b) L (by rfl) (by rfl) hS'.2) ?_)
  simp only [Act.put,List.getElem_toArray,List.getElem_cons_succ,List.getElem_cons_zero,List.setIfInBounds_toArray,List.set_cons_zero,List.set_cons_succ]
 refine Z54 ?_ ?_;rotate_left
 refine Zy (by rfl) (by rfl) (by rfl) (fun K hK=>?_);simp only [List.getElem_toArray,List.getElem_cons_succ,List.getElem_cons_zero];unfold Oper.wp execOp;go_simp
 have HB5:=lh (show Below w.heap.size w (w.alloc (.cells #[.string ⟨#[97,114,103,117,109,101,110,116,115]⟩] 9)).drew from ((Y8 _ _).alloc (Y5 _) _).drew);have NB0:=lh (show (w.alloc (.cells #[.string ⟨#[97,114,103,117,109,101,110,116,115]⟩] 9)).drew.heap[w.heap.size]?=some (.cells #[.string ⟨#[97,114,103,117,109,101,110,116,115]⟩] 9 (0,0)) from heap_alloc_new w _);refine hK _ _ (HS.out _ HB5.out) ?_;clear hK K;obtain ⟨w5,hw5⟩:=zX ((w.alloc (.cells #[.string ⟨#[97,114,103,117,109,101,110,116,115]⟩] 9)).drew)
 rw [← hw5] at HB5 NB0 ⊢;clear hw5;refine Zy (by rfl) (by rfl) (by rfl) (fun K hK=>?_);simp only [List.getElem_toArray,List.getElem_cons_succ,List.getElem_cons_zero];unfold Oper.wp execOp;go_simp
 refine (HPA.out _ HB5.out).mono ?_;rintro e w6 ⟨v5,rfl,ht5,hb5⟩;obtain ⟨p5,n5,c5,rfl⟩:=ht5.slice;have HB6:=lh (HB5.out.trans (hb5.mono HB5.out.size));have HT6:=lh (show Zr w6 w.heap.size _ _ from Z12 (base:=w5.heap.size) HB5.out.size ht5);have NB:=lh ((hb5.block _ (Y6.1 NB0.out).1).trans NB0.out);refine hK _ _ (HS.out _ HB6.out) ?_;clear hK K ht5 hb5 HB5 NB0;obtain ⟨b6,hb6⟩:=zX w.heap.size
 rw [← hb6] at NB ⊢;clear hb6;rotate_left
 refine Zy (by rfl) (by rfl) (by rfl) (fun K hK=>?_);simp only [List.getElem_toArray,List.getElem_cons_succ,List.getElem_cons_zero];unfold Oper.wp execOp;go_simp
 refine (HPA.out _ HWD.out).mono ?_;rintro e w5 ⟨v5,rfl,ht5,hb5⟩;obtain ⟨p5,n5,c5,rfl⟩:=ht5.slice;have HB5:=lh (HWD.out.trans (hb5.mono HWD.out.size));refine hK _ _ (HS.out _ HB5.out) ?_;clear hK K;refine Zy (by rfl) (by rfl) (by rfl) (fun K hK=>?_);simp only [List.getElem_toArray,List.getElem_cons_succ,List.getElem_cons_zero];unfold Oper.wp execOp;go_simp
 have HB6:=lh (HB5.out.alloc HB5.out.size (.cells #[.string ⟨#[97,114,103,117,109,101,110,116,115]⟩] 9));have HT6:=lh (Zr.bel (show Zr w5 w.heap.size (.slice p5 n5 c5) (Z0l [] ps.kids) from ht5) ((Y8 _ _).alloc (Y5 _) (.cells #[.string ⟨#[97,114,103,117,109,101,110,116,115]⟩] 9)));have NB:=lh (heap_alloc_new w5 (.cells #[.string ⟨#[97,114,103,117,109,101,110,116,115]⟩] 9));refine hK _ _ (HS.out _ HB6.out) ?_;clear hK K ht5 hb5;obtain ⟨b6,hb6⟩:=zX w5.heap.size
 obtain ⟨w6,hw6⟩:=zX (w5.alloc (.cells #[.string ⟨#[97,114,103,117,109,101,110,116,115]⟩] 9))
 rw [← hb6] at NB ⊢;rw [← hw6] at HB6 HT6 NB ⊢;clear hb6 hw6 HB5
 all_goals
  refine Zy (by rfl) (by rfl) (by rfl) (fun K hK=>?_)
  refine wp_append_lies _ (.tmp 180) (.tmp 181) 51 (by rfl) w.heap.size 9 i0 (.string ByteArray.empty) 1 16 Tryz.underlying51 hi hz0 hz1 hz2 rfl (by decide) (.slice p5 n5 c5) (Z0l [] ps.kids).length ((Z0l [] ps.kids).map Value.string) (by rfl) HT6.out ⟨b6,0,none⟩ 1 1 [.string ⟨#[97,114,103,117,109,101,110,116,115]⟩] (by rfl) rfl (Yi (cs:=#[.string ⟨#[97,114,103,117,109,101,110,116,115]⟩]) (t:=9) (fr:=(0,0)) NB.out) (by simp [Value.oneCell']) (by decide) (by have h:=HL5.out; unfold maxLen; omega) (by have h:=HL5.out; omega) HB6.out.size _ rfl ?_
  intro g7 cap7 w7 hown7 hgrow7 hat7 hlt7;have HB7:=lh (HB6.out.grown hgrow7 HB6.out.size fun k hk=>(Yh HT6.out k hk).1);have HT7:=lh (show Zr w7 w.heap.size (.slice (some ⟨g7,0,none⟩) ((Z0l [] ps.kids).length + 1) cap7) (Z0l [] ps.kids ++ [Zi]) from by unfold Zr; rw [Yq,Yw]; exact hown7);obtain ⟨n7,hn7⟩:=zX ((Z0l [] ps.kids).length + 1)
  rw [← hn7] at HT7 ⊢;clear hn7;refine hK _ _ (HS.out _ HB7.out) ?_;clear hK K hown7 hgrow7 hat7 hlt7 HT6 NB HB6;simp only [Act.put,List.getElem_toArray,List.getElem_cons_succ,List.getElem_cons_zero,List.setIfInBounds_toArray,List.set_cons_zero,List.set_cons_succ];refine Zy (by rfl) (by rfl) (by rfl) (fun K hK=>?_);simp only [List.getElem_toArray,List.getElem_cons_succ,List.getElem_cons_zero];unfold Oper.wp execOp;go_simp
  refine (HNM.out _ HB7.out).mono ?_;rintro e w9 ⟨v9,rfl,ht9,hb9⟩;obtain ⟨p9,n9,c9,hv9,hn9⟩:∃ p n c,v9=.slice p n c∧n=(Z0b true bd).length:=by
   rcases ht9.form with ⟨h1,h2⟩ | ⟨g,cap,h1,_,_⟩;·exact ⟨_,_,_,h1,by rw [h2]; rfl⟩
   ·exact ⟨_,_,_,h1,rfl⟩
  subst hv9;have HB9:=lh (HB7.out.trans (hb9.mono HB7.out.size));have HT8:=lh (HT7.out.bel hb9);have HT9:=lh ht9;have HN9:=lh hn9;have HB79:=lh hb9.size;refine hK _ _ (HS.out _ HB9.out) ?_;clear hK K ht9 hb9 HT7 hn9;by_cases hnn:Z0b true bd=[]
  ·have hn0 : n9 = 0 := by rw [HN9.out, hnn]; rfl
   subst hn0;have HT10:=lh (show Zr w9 w.heap.size (.slice (some ⟨g7,0,none⟩) n7 cap7) (Z0l [] ps.kids ++ [Zi] ++ Z0b true bd) from by rw [hnn,List.append_nil]; exact HT8.out);clear hnn;refine Zy (by rfl) (by rfl) (by rfl) (fun K hK=>?_);refine Z9g (.tmp 182) (.tmp 184) 51 (by rfl) w.heap.size 9 i0 1 Tryz.underlying51 hi (.slice (some ⟨g7,0,none⟩) n7 cap7) _ _ (by rfl) HT8.out p9 c9 (by rfl) ?_;refine hK _ _ (HS.out _ HB9.out) ?_;clear hK K
   simp only [Act.put,List.getElem_toArray,List.getElem_cons_succ,List.getElem_cons_zero,List.setIfInBounds_toArray,List.set_cons_zero,List.set_cons_succ];have HMX:=lh (HM.out.on HB9.out)
   have HP:=lh (show Calls Tryz.prog 18 #[.agg #[.int .i64 (N fn.b),.slice (some ⟨g7,0,none⟩) n7 cap7,.bool (cl && !st)],.pointer (some ⟨q,0,none⟩)] w9 _ from Z8a w9 w0.heap.size q _ R ⟨N fn.b,Z0l [] ps.kids ++ [Zi] ++ Z0b true bd,cl && !st⟩ (.slice (some ⟨g7,0,none⟩) n7 cap7) HMX.out.cell HMX.out.rings (Z12 (base:=w.heap.size) HM.out.st.bel.size HT10.out) HMX.out.st.bel.size (by have h1:=HRL.out; omega));(refine Z05 ?_ (by rfl) (by rfl) (fun w'=>?_) ?_; rotate_left; (go_simp; first | done | with_reducible rfl))
   simp only [Act.put,List.getElem_toArray,List.getElem_cons_succ,List.getElem_cons_zero,List.setIfInBounds_toArray,List.set_cons_zero,List.set_cons_succ];cases cl
   all_goals
    first
     | (iterate 2 (refine Zb1 (by rfl) (by rfl) ?_; simp only [Act.put,List.getElem_toArray,List.getElem_cons_succ,List.getElem_cons_zero,List.setIfInBounds_toArray,List.set_cons_zero,List.set_cons_succ]))
     | (iterate 2 ((refine Z05 ?_ (by rfl) (by rfl) (fun w'=>?_) ?_; rotate_left; (go_simp; first | done | with_reducible rfl)); simp only [Act.put,List.getElem_toArray,List.getElem_cons_succ,List.getElem_cons_zero,List.setIfInBounds_toArray,List.set_cons_zero,List.set_cons_succ]))
    iterate 2 ((refine Z05 ?_ (by rfl) (by rfl) (fun w'=>?_) ?_; rotate_left; (go_simp; first | done | with_reducible rfl)); simp only [Act.put,List.getElem_toArray,List.getElem_cons_succ,List.getElem_cons_zero,List.setIfInBounds_toArray,List.set_cons_zero,List.set_cons_succ])
    refine Zy (by rfl) (by rfl) (by rfl) (fun K hK=>?_);simp only [List.getElem_toArray,List.getElem_cons_succ,List.getElem_cons_zero];unfold Oper.wp execOp;go_simp
    refine HP.out.mono ?_;rintro e w3 ⟨v3,rfl,hr3,hb3⟩;obtain ⟨g3,n3,cap3,rfl⟩:=hr3.form2;have HM2b:=lh (HMX.out.on hb3);have HM3:=lh (HM2b.out.put hr3);obtain ⟨q0,q1,q2,q3⟩:=HM2b.out.cells;refine hK _ _ (HS.out _ (HB9.out.trans (hb3.mono HB9.out.size))) ?_;clear hK K hr3 HP;refine Z29 (by rfl) (by rfl) (by rfl) (fun K hK=>?_);simp only [List.getElem_toArray,List.getElem_cons_succ,List.getElem_cons_zero];unfold Oper.wp execOp;go_simp
    refine hK _ _ (Z2r ?_);clear hK K;refine HK.out _ _ ?_;refine HD.out _ _ _ _ ⟨rfl,rfl,rfl,rfl,rfl,rfl,rfl,rfl⟩ rfl HM3.out ?_ (by rw [Yq]; rfl);rw [Z51];exact HE.out.cons rfl (Zal ps bd) (by cases st <;> rfl)
  ·have hn0 : 0 < n9 := by rw [HN9.out]; exact List.length_pos_iff.2 hnn
   obtain ⟨g9, rfl⟩ : ∃ g, p9 = some ⟨g, 0, none⟩ := by
           rcases HT9.out.form with ⟨h1,h2⟩ | ⟨g,cap,h1,_,_⟩;·exact absurd h2 hnn
           ·simp only [Value.slice.injEq] at h1; exact ⟨g,h1.1⟩
   clear hnn;refine Zy (by rfl) (by rfl) (by rfl) (fun K hK=>?_)
   refine wp_append_lies _ (.tmp 182) (.tmp 184) 51 (by rfl) w.heap.size 9 i0 (.string ByteArray.empty) 1 16 Tryz.underlying51 hi hz0 hz1 hz2 rfl (by decide) (.slice (some ⟨g7,0,none⟩) n7 cap7) (Z0l [] ps.kids ++ [Zi]).length ((Z0l [] ps.kids ++ [Zi]).map Value.string) (by rfl) HT8.out ⟨g9,0,none⟩ n9 c9 ((Z0b true bd).map Value.string) (by rfl) (by rw [Yx,← HN9.out,Nat.mul_one]) (fun j u hu=>World.ownsRow.cells (w:=w9) (g:=g9) HT9.out rfl j u hu) (fun u hu=>by obtain ⟨z,_,rfl⟩:=List.mem_map.1 hu; rfl) hn0 (by rw [Yq]; have h:=HL5.out; have h2:=HN9.out; have h3:=HL9.out; unfold maxLen; simp only [List.length_cons,List.length_nil]; omega) (by rw [Yq]; have h:=HL5.out; have h2:=HN9.out; have h3:=HL9.out; simp only [List.length_cons,List.length_nil]; omega) HB9.out.size _ rfl ?_
   intro g10 cap10 w10 hown10 hgrow10 hat10 hlt10;have HB10:=lh (HB9.out.grown hgrow10 HB9.out.size fun k hk=>(Yh HT8.out k hk).1);have HT10:=lh (show Zr w10 w.heap.size (.slice (some ⟨g10,0,none⟩) ((Z0l [] ps.kids ++ [Zi]).length + n9) cap10) (Z0l [] ps.kids ++ [Zi] ++ Z0b true bd) from Zr.join (by rw [← HN9.out]; exact hown10));obtain ⟨n10,hn10⟩:=zX ((Z0l [] ps.kids ++ [Zi]).length + n9)
   rw [← hn10] at HT10 ⊢;clear hn10;refine hK _ _ (HS.out _ HB10.out) ?_;clear hK K hown10 hgrow10 hat10 hlt10;simp only [Act.put,List.getElem_toArray,List.getElem_cons_succ,List.getElem_cons_zero,List.setIfInBounds_toArray,List.set_cons_zero,List.set_cons_succ];have HMX:=lh (HM.out.on HB10.out)
   have HP:=lh (show Calls Tryz.prog 18 #[.agg #[.int .i64 (N fn.b),.slice (some ⟨g10,0,none⟩) n10 cap10,.bool (cl && !st)],.pointer (some ⟨q,0,none⟩)] w10 _ from Z8a w10 w0.heap.size q _ R ⟨N fn.b,Z0l [] ps.kids ++ [Zi] ++ Z0b true bd,cl && !st⟩ (.slice (some ⟨g10,0,none⟩) n10 cap10) HMX.out.cell HMX.out.rings (Z12 (base:=w.heap.size) HM.out.st.bel.size HT10.out) HMX.out.st.bel.size (by have h1:=HRL.out; omega));(refine Z05 ?_ (by rfl) (by rfl) (fun w'=>?_) ?_; rotate_left; (go_simp; first | done | with_reducible rfl))
   simp only [Act.put,List.getElem_toArray,List.getElem_cons_succ,List.getElem_cons_zero,List.setIfInBounds_toArray,List.set_cons_zero,List.set_cons_succ];cases cl
   all_goals
    first
     | (iterate 2 (refine Zb1 (by rfl) (by rfl) ?_; simp only [Act.put,List.getElem_toArray,List.getElem_cons_succ,List.getElem_cons_zero,List.setIfInBounds_toArray,List.set_cons_zero,List.set_cons_succ]))
     | (iterate 2 ((refine Z05 ?_ (by rfl) (by rfl) (fun w'=>?_) ?_; rotate_left; (go_simp; first | done | with_reducible rfl)); simp only [Act.put,List.getElem_toArray,List.getElem_cons_succ,List.getElem_cons_zero,List.setIfInBounds_toArray,List.set_cons_zero,List.set_cons_succ]))
    iterate 2 ((refine Z05 ?_ (by rfl) (by rfl) (fun w'=>?_) ?_; rotate_left; (go_simp; first | done | with_reducible rfl)); simp only [Act.put,List.getElem_toArray,List.getElem_cons_succ,List.getElem_cons_zero,List.setIfInBounds_toArray,List.set_cons_zero,List.set_cons_succ])
    refine Zy (by rfl) (by rfl) (by rfl) (fun K hK=>?_);simp only [List.getElem_toArray,List.getElem_cons_succ,List.getElem_cons_zero];unfold Oper.wp execOp;go_simp
    refine HP.out.mono ?_;rintro e w3 ⟨v3,rfl,hr3,hb3⟩;obtain ⟨g3,n3,cap3,rfl⟩:=hr3.form2;have HM2b:=lh (HMX.out.on hb3);have HM3:=lh (HM2b.out.put hr3);obtain ⟨q0,q1,q2,q3⟩:=HM2b.out.cells;refine hK _ _ (HS.out _ (HB10.out.trans (hb3.mono HB10.out.size))) ?_;clear hK K hr3 HP;refine Z29 (by rfl) (by rfl) (by rfl) (fun K hK=>?_);simp only [List.getElem_toArray,List.getElem_cons_succ,List.getElem_cons_zero];unfold Oper.wp execOp;go_simp
    refine hK _ _ (Z2r ?_);clear hK K;refine HK.out _ _ ?_;refine HD.out _ _ _ _ ⟨rfl,rfl,rfl,rfl,rfl,rfl,rfl,rfl⟩ rfl HM3.out ?_ (by rw [Yq]; rfl);rw [Z51];exact HE.out.cons rfl (Zal ps bd) (by cases st <;> rfl)
end
section
variable {w0 we w:World} {nb ob kb mb q:Nat} {N:Nat→Nat} {L:List (Nat×Nat)} {m B:Nat} {fn ps bd:ATree} {R:List (Sc×Value)} {S:List Sc} {rv:Value} {st:Bool} {out:List Us} {A:Act}
theorem fw_b (hIH:Z58 w0 nb ob kb mb N L m) (hm:bd.many≤m + 1) (hWT:WT bd.tree) (hFT:FT bd.tree) (hT:TreeAt w0 B bd) (hnum:∀ x∈bd.subs,(x.b,N x.b)∈L) (hlen:out.length + bd.many≤100000) (hk:fn.kids=[ps,bd]) (hTf:TreeAt w0 B fn) (hfm:fn.many≤100000) (hinf:(fn.b,N fn.b)∈L) (hRl:R.length + 2 * bd.many≤1000001) (fr:Fw fn.b nb kb q st A) (hM:WMid w0 nb ob kb mb N L we q rv R out w) (hE:LkEq (Z3k R) S) :
 (fwAt [1,1,0,0,1,1,1,1,1,1,1,1,1,0,1]).wp Tryz.prog (FQ w0 nb ob kb mb N L we out bd.kids (⟨N fn.b,Zi :: (ps.kids.map ATree.text ++ Z0b true bd),!(st || Zt bd.text Zn) && rEvL bd.kids⟩ :: S) (st || Zt bd.text Zn)) A w:=by
 have hC:∀ (A':Act) (w':World),Fw fn.b nb kb q (st || Zt bd.text Zn) A'→A'.tmps.getD 12 undef=.pointer (some ⟨bd.b,0,none⟩)→A'.tmps.getD 13 undef=.bool (rEvL bd.kids)→WMid w0 nb ob kb mb N L we q rv R out w' →
  (fwAt [1,1,0,0,1,1,1,1,1,1,1,1,1,0,1,1,1,1,1]).wp Tryz.prog (FQ w0 nb ob kb mb N L we out bd.kids (⟨N fn.b,Zi :: (ps.kids.map ATree.text ++ Z0b true bd),!(st || Zt bd.text Zn) && rEvL bd.kids⟩ :: S) (st || Zt bd.text Zn)) A' w':=fun A' w' h1 h2 h3 h4=>fw_c hIH hm hWT hFT hT hnum hlen hk hTf hfm hinf hRl h1 h2 h3 h4 hE
 have E:fwAt [1,1,0,0,1,1,1,1,1,1,1,1,1,0,1]=Code.seq (fwAt [1,1,0,0,1,1,1,1,1,1,1,1,1,0,1,0]) (Code.seq (fwAt [1,1,0,0,1,1,1,1,1,1,1,1,1,0,1,1,0]) (Code.seq (fwAt [1,1,0,0,1,1,1,1,1,1,1,1,1,0,1,1,1,0]) (Code.seq (fwAt [1,1,0,0,1,1,1,1,1,1,1,1,1,0,1,1,1,1,0]) (fwAt [1,1,0,0,1,1,1,1,1,1,1,1,1,0,1,1,1,1,1])))):=by kernel_rfl
 rw [E];clear E;obtain ⟨CC,hCC⟩:=zX (fwAt [1,1,0,0,1,1,1,1,1,1,1,1,1,0,1,1,1,1,1])
 rw [← hCC] at hC ⊢;clear hCC;obtain ⟨tm,df⟩:=A;obtain ⟨x,ex,hx⟩:=Zam tm fr.size;have e0:=(hx 0).trans fr.t0;have e2:=(hx 2).trans fr.t2;have e3:=(hx 3).trans fr.t3;have e5:=(hx 5).trans fr.t5;have e7:=(hx 7).trans fr.t7;have e9:=(hx 9).trans fr.t9;have ed:df=[]:=fr.defs;clear fr hx;subst ex;subst ed;rw [e0,e2,e3,e5,e7,e9];clear e0 e2 e3 e5 e7 e9;obtain ⟨Q,hQ⟩:=zX (FQ w0 nb ob kb mb N L we out bd.kids (⟨N fn.b,Zi :: (ps.kids.map ATree.text ++ Z0b true bd),!(st || Zt bd.text Zn) && rEvL bd.kids⟩ :: S) (st || Zt bd.text Zn))
 rw [← hQ] at hC ⊢;have HC:=lh hC;have HM:=lh hM;have HT:=lh (show ∀ W,Below w.heap.size w W→TreeAt W B bd from fun W hW=>hT.keep fun k _ hk=>(hM.on hW).st.bel.block k hk);have HEV:=lh (fun x (hx:x∈bd.kids) (W:World) (hW:Below w.heap.size w W)=>Zb3 x.many x (Y5 _) (Z8l hWT hx) W B ((HT.out W hW).kid hx));obtain ⟨gk,cp,c3,_,c5,hcp,_,_⟩:=(hTf.keep fun k _ hk=>hM.st.bel.block k hk:TreeAt w B fn).two hk;have HST:=lh (Z9r w B bd (HT.out w (Y8 _ _)));obtain ⟨pk,cpk,hkv,hkge,hkmx⟩:=hT.vOf;have HKV:=lh hkv
 have HC3:=lh (show ∀ W,Below w.heap.size w W→W.cell? ⟨bd.b,3,none⟩=some (.slice pk bd.kids.length cpk) from fun W hW=>by rw [← hkv]; exact (HT.out W hW).c3);obtain ⟨nk,hnk⟩:=zX bd.kids.length
 rw [← hnk] at HC3 hkge;have HNK:=lh hnk;unfold maxLen at hkmx;have d3:=HC3.out w (Y8 _ _);obtain ⟨sb,hsb⟩:=zX (Zt bd.text Zn)
 rw [← hsb] at HC HST;unfold ATree.ptr at HEV HST;clear hIH hm hWT hFT hT hnum hlen hRl hM hE hQ hk hTf hfm hinf hC hkv hnk hsb;cases st
 all_goals
  refine wp_seq_k (fun K hK=>?_);have HK:=lh hK;clear hK;conv=>arg 2; whnf
  go_wp2;refine HK.out _ _ ?_;clear HK K;refine wp_seq_k (fun K hK=>?_);have HK:=lh hK;clear hK;conv=>arg 2; whnf
  go_wp2_with fail
  first
   | (refine HST.out.mono ?_
      rintro e w2 ⟨rfl,hw2⟩;rw [hw2];clear hw2 w2;go_wp2)
   | skip
  refine HK.out _ _ ?_;clear HK K HST;refine wp_seq_k (fun K hK=>?_);have HK:=lh hK;clear hK;conv=>arg 2; whnf
  go_wp2;refine HK.out _ _ ?_;clear HK K;refine wp_seq_k (fun K hK=>?_);have HK:=lh hK;clear hK;conv=>arg 2; whnf
  go_wp2_with fail
  go_loopw [13,165] (fun c i wr=>∃ (k:Nat),k≤nk∧c=.bool (rEvL (bd.kids.take k))∧i=.int .i64 k∧Hid (Below w.heap.size w wr)) (fun _ i _=>nk - (intOf i).toNat)
  case atStart=>exact ⟨0,Yp _,rfl,rfl,lh (Y8 _ _)⟩
  case round=>
   obtain ⟨k,hk,rfl,rfl,HB⟩:=hrel;by_cases hkn:k < nk
   ·obtain ⟨x, hx⟩ : ∃ x, bd.kids[k]? = some x := ⟨_, Yd (by rw [← HNK.out]; exact hkn)⟩
    have hrow:=(HT.out wr HB.out).rowOf;have hp:∃ g,pk=some ⟨g,0,none⟩:=by
     rcases Z7 hrow with ⟨_,h2⟩ | ⟨g0,cap0,hv0,_⟩;·have:=HNK.out; omega
     ·have:=HKV.out.symm.trans hv0;simp only [Value.slice.injEq] at this;exact ⟨g0,this.1⟩
    obtain ⟨g0,rfl⟩:=hp;have cx:=Ze hrow (g:=g0) (by rw [HKV.out]; rfl) (i:=k) (x:=x.ptr) (by rw [Yo,hx]; rfl);have HCALL:=lh (HEV.out x (Yl hx) wr HB.out);have HNX:=lh (show rEvL (bd.kids.take (k + 1))=(rEvL (bd.kids.take k) || rEv x) from by rw [Zk hx,Z8q]; simp [rEvL]);unfold ATree.ptr at cx;clear hrow hx;obtain ⟨cc,hcc⟩:=zX (rEvL (bd.kids.take k))
    rw [← hcc] at HNX ⊢;clear hcc;cases cc with
    | true =>
      go_wp2;go_roundw
      case rel=>exact ⟨k + 1,by omega,by rw [HNX.out]; rfl,by go_num,HB⟩
      case measure=>simp [intOf]; omega
    | false =>
      go_wp2_with fail
      refine HCALL.out.mono ?_;rintro e w3 ⟨rfl,hb3⟩;have HB3:=lh (HB.out.trans (hb3.mono HB.out.size));clear hb3 HCALL;go_wp2;go_roundw
      case rel=>exact ⟨k + 1,by omega,by rw [HNX.out]; rfl,by go_num,HB3⟩
      case measure=>simp [intOf]; omega
   ·have hk2 : k = nk := by omega
    subst hk2;have HALL:=lh (show bd.kids.take k=bd.kids from Ym (by rw [← HNK.out]; exact Y5 _));go_wp2;refine HK.out _ _ ?_;exact HC.out _ _ ⟨rfl,rfl,rfl,rfl,rfl,rfl,rfl,rfl⟩ rfl (by rw [HALL.out]; rfl) (HM.out.on HB.out)
end
section
variable {w0 we w:World} {nb ob kb mb q:Nat} {N:Nat→Nat} {L:List (Nat×Nat)} {m B:Nat} {fn ps bd:ATree} {R:List (Sc×Value)} {S:List Sc} {rv:Value} {st:Bool} {out:List Us} {A:Act}
theorem Zma (hIH:Z58 w0 nb ob kb mb N L m) (hm:bd.many≤m + 1) (hWT:WT bd.tree) (hFT:FT bd.tree) (hT:TreeAt w0 B bd) (hnum:∀ x∈bd.subs,(x.b,N x.b)∈L) (hlen:out.length + bd.many≤100000) (hk:fn.kids=[ps,bd]) (hTf:TreeAt w0 B fn) (hfm:fn.many≤100000) (hinf:(fn.b,N fn.b)∈L) (hRl:R.length + 2 * bd.many≤1000000) (fr:Fw fn.b nb kb q st A) (hM:WMid w0 nb ob kb mb N L we q rv R out w) (hE:LkEq (Z3k R) S) (h1:fn.kind=5) :
 (fwAt [1,1,0,0,1,1,1,1,1,1,1,1,1,0]).wp Tryz.prog (FQ w0 nb ob kb mb N L we out bd.kids (⟨N fn.b,Zi :: (ps.kids.map ATree.text ++ Z0b true bd),!(st || Zt bd.text Zn) && rEvL bd.kids⟩ :: S) (st || Zt bd.text Zn)) A w:=by
 have hB:∀ (A':Act) (w':World) (rv':Value) (R':List (Sc×Value)),Fw fn.b nb kb q st A'→WMid w0 nb ob kb mb N L we q rv' R' out w'→LkEq (Z3k R') (S)→R'.length≤R.length + 1 →
  (fwAt [1,1,0,0,1,1,1,1,1,1,1,1,1,0,1]).wp Tryz.prog (FQ w0 nb ob kb mb N L we out bd.kids (⟨N fn.b,Zi :: (ps.kids.map ATree.text ++ Z0b true bd),!(st || Zt bd.text Zn) && rEvL bd.kids⟩ :: S) (st || Zt bd.text Zn)) A' w':=fun A' w' rv' R' h1 h2 h3 h4=>fw_b hIH hm hWT hFT hT hnum hlen hk hTf hfm hinf (by omega) h1 h2 h3
 have E:fwAt [1,1,0,0,1,1,1,1,1,1,1,1,1,0]=Code.seq (fwAt [1,1,0,0,1,1,1,1,1,1,1,1,1,0,0]) (fwAt [1,1,0,0,1,1,1,1,1,1,1,1,1,0,1]):=by kernel_rfl
 rw [E];clear E;obtain ⟨BB,hBB⟩:=zX (fwAt [1,1,0,0,1,1,1,1,1,1,1,1,1,0,1])
 rw [← hBB] at hB ⊢;clear hBB;obtain ⟨tm,df⟩:=A;obtain ⟨x,ex,hx⟩:=Zam tm fr.size;have e0:=(hx 0).trans fr.t0;have e2:=(hx 2).trans fr.t2;have e3:=(hx 3).trans fr.t3;have e5:=(hx 5).trans fr.t5;have e7:=(hx 7).trans fr.t7;have e9:=(hx 9).trans fr.t9;have ed:df=[]:=fr.defs;clear fr hx;subst ex;subst ed;rw [e0,e2,e3,e5,e7,e9];clear e0 e2 e3 e5 e7 e9;obtain ⟨Q,hQ⟩:=zX (FQ w0 nb ob kb mb N L we out bd.kids (⟨N fn.b,Zi :: (ps.kids.map ATree.text ++ Z0b true bd),!(st || Zt bd.text Zn) && rEvL bd.kids⟩ :: S) (st || Zt bd.text Zn))
 rw [← hQ] at hB ⊢;have HQP:Hid (∀ c a d v w,Q (.panic c) (Act.put a d v) w→Q (.panic c) a w):=lh fun c a d v w h=>by rw [hQ] at h; exact absurd h.1 (by simp)
 have HB:=lh hB;have HM:=lh hM;have HE:=lh hE;have HRL:=lh hRl;have hTw:TreeAt w B fn:=hTf.keep fun k _ hk=>hM.st.bel.block k hk;have d0:=hTw.c0;have d1:=hTw.c1;rw [h1] at d0;clear d1 h1 HQP hIH hm hWT hFT hT hnum hlen hRl hM hE hQ hk hTf hfm hinf hB hTw;refine wp_seq_k (fun K hK=>?_);have HK:=lh hK;clear hK;conv=>arg 2; whnf
 go_wp2;refine HK.out _ _ ?_;exact HB.out _ _ _ _ ⟨rfl,rfl,rfl,rfl,rfl,rfl,rfl,rfl⟩ HM.out HE.out (Nat.le_succ _)
theorem Zm1 (hIH:Z58 w0 nb ob kb mb N L m) (hm:bd.many≤m + 1) (hWT:WT bd.tree) (hFT:FT bd.tree) (hT:TreeAt w0 B bd) (hnum:∀ x∈bd.subs,(x.b,N x.b)∈L) (hlen:out.length + bd.many≤100000) (hk:fn.kids=[ps,bd]) (hTf:TreeAt w0 B fn) (hfm:fn.many≤100000) (hinf:(fn.b,N fn.b)∈L) (hRl:R.length + 2 * bd.many≤1000000) (fr:Fw fn.b nb kb q st A) (hM:WMid w0 nb ob kb mb N L we q rv R out w) (hE:LkEq (Z3k R) S) (h1:fn.kind=37) (h2:fn.text=ByteArray.empty) :
 (fwAt [1,1,0,0,1,1,1,1,1,1,1,1,1,0]).wp Tryz.prog (FQ w0 nb ob kb mb N L we out bd.kids (⟨N fn.b,Zi :: (ps.kids.map ATree.text ++ Z0b true bd),!(st || Zt bd.text Zn) && rEvL bd.kids⟩ :: S) (st || Zt bd.text Zn)) A w:=by
 have hB:∀ (A':Act) (w':World) (rv':Value) (R':List (Sc×Value)),Fw fn.b nb kb q st A'→WMid w0 nb ob kb mb N L we q rv' R' out w'→LkEq (Z3k R') (S)→R'.length≤R.length + 1 →
  (fwAt [1,1,0,0,1,1,1,1,1,1,1,1,1,0,1]).wp Tryz.prog (FQ w0 nb ob kb mb N L we out bd.kids (⟨N fn.b,Zi :: (ps.kids.map ATree.text ++ Z0b true bd),!(st || Zt bd.text Zn) && rEvL bd.kids⟩ :: S) (st || Zt bd.text Zn)) A' w':=fun A' w' rv' R' h1 h2 h3 h4=>fw_b hIH hm hWT hFT hT hnum hlen hk hTf hfm hinf (by omega) h1 h2 h3
 have E:fwAt [1,1,0,0,1,1,1,1,1,1,1,1,1,0]=Code.seq (fwAt [1,1,0,0,1,1,1,1,1,1,1,1,1,0,0]) (fwAt [1,1,0,0,1,1,1,1,1,1,1,1,1,0,1]):=by kernel_rfl
 rw [E];clear E;obtain ⟨BB,hBB⟩:=zX (fwAt [1,1,0,0,1,1,1,1,1,1,1,1,1,0,1])
 rw [← hBB] at hB ⊢;clear hBB;obtain ⟨tm,df⟩:=A;obtain ⟨x,ex,hx⟩:=Zam tm fr.size;have e0:=(hx 0).trans fr.t0;have e2:=(hx 2).trans fr.t2;have e3:=(hx 3).trans fr.t3;have e5:=(hx 5).trans fr.t5;have e7:=(hx 7).trans fr.t7;have e9:=(hx 9).trans fr.t9;have ed:df=[]:=fr.defs;clear fr hx;subst ex;subst ed;rw [e0,e2,e3,e5,e7,e9];clear e0 e2 e3 e5 e7 e9;obtain ⟨Q,hQ⟩:=zX (FQ w0 nb ob kb mb N L we out bd.kids (⟨N fn.b,Zi :: (ps.kids.map ATree.text ++ Z0b true bd),!(st || Zt bd.text Zn) && rEvL bd.kids⟩ :: S) (st || Zt bd.text Zn))
 rw [← hQ] at hB ⊢;have HQP:Hid (∀ c a d v w,Q (.panic c) (Act.put a d v) w→Q (.panic c) a w):=lh fun c a d v w h=>by rw [hQ] at h; exact absurd h.1 (by simp)
 have HB:=lh hB;have HM:=lh hM;have HE:=lh hE;have HRL:=lh hRl;have hTw:TreeAt w B fn:=hTf.keep fun k _ hk=>hM.st.bel.block k hk;have d0:=hTw.c0;have d1:=hTw.c1;rw [h1] at d0;rw [h2] at d1;clear h1 h2 HQP hIH hm hWT hFT hT hnum hlen hRl hM hE hQ hk hTf hfm hinf hB hTw;refine wp_seq_k (fun K hK=>?_);have HK:=lh hK;clear hK;conv=>arg 2; whnf
 go_wp2;refine HK.out _ _ ?_;exact HB.out _ _ _ _ ⟨rfl,rfl,rfl,rfl,rfl,rfl,rfl,rfl⟩ HM.out HE.out (Nat.le_succ _)
theorem Zm6 (hIH:Z58 w0 nb ob kb mb N L m) (hm:bd.many≤m + 1) (hWT:WT bd.tree) (hFT:FT bd.tree) (hT:TreeAt w0 B bd) (hnum:∀ x∈bd.subs,(x.b,N x.b)∈L) (hlen:out.length + bd.many≤100000) (hk:fn.kids=[ps,bd]) (hTf:TreeAt w0 B fn) (hfm:fn.many≤100000) (hinf:(fn.b,N fn.b)∈L) (hRl:R.length + 2 * bd.many≤1000000) (fr:Fw fn.b nb kb q st A) (hM:WMid w0 nb ob kb mb N L we q rv R out w) (hE:LkEq (Z3k R) S) (h1:fn.kind=37) (h2:fn.text≠ByteArray.empty) :
 (fwAt [1,1,0,0,1,1,1,1,1,1,1,1,1,0]).wp Tryz.prog (FQ w0 nb ob kb mb N L we out bd.kids (⟨N fn.b,Zi :: (ps.kids.map ATree.text ++ Z0b true bd),!(st || Zt bd.text Zn) && rEvL bd.kids⟩ :: ⟨N fn.b,[fn.text],false⟩ :: S) (st || Zt bd.text Zn)) A w:=by
 have hB:∀ (A':Act) (w':World) (rv':Value) (R':List (Sc×Value)),Fw fn.b nb kb q st A'→WMid w0 nb ob kb mb N L we q rv' R' out w'→LkEq (Z3k R') (⟨N fn.b,[fn.text],false⟩ :: S)→R'.length≤R.length + 1 →
  (fwAt [1,1,0,0,1,1,1,1,1,1,1,1,1,0,1]).wp Tryz.prog (FQ w0 nb ob kb mb N L we out bd.kids (⟨N fn.b,Zi :: (ps.kids.map ATree.text ++ Z0b true bd),!(st || Zt bd.text Zn) && rEvL bd.kids⟩ :: ⟨N fn.b,[fn.text],false⟩ :: S) (st || Zt bd.text Zn)) A' w':=fun A' w' rv' R' h1 h2 h3 h4=>fw_b hIH hm hWT hFT hT hnum hlen hk hTf hfm hinf (by omega) h1 h2 h3
 have E:fwAt [1,1,0,0,1,1,1,1,1,1,1,1,1,0]=Code.seq (fwAt [1,1,0,0,1,1,1,1,1,1,1,1,1,0,0]) (fwAt [1,1,0,0,1,1,1,1,1,1,1,1,1,0,1]):=by kernel_rfl
 rw [E];clear E;obtain ⟨BB,hBB⟩:=zX (fwAt [1,1,0,0,1,1,1,1,1,1,1,1,1,0,1])
 rw [← hBB] at hB ⊢;clear hBB;obtain ⟨tm,df⟩:=A;obtain ⟨x,ex,hx⟩:=Zam tm fr.size;have e0:=(hx 0).trans fr.t0;have e2:=(hx 2).trans fr.t2;have e3:=(hx 3).trans fr.t3;have e5:=(hx 5).trans fr.t5;have e7:=(hx 7).trans fr.t7;have e9:=(hx 9).trans fr.t9;have ed:df=[]:=fr.defs;clear fr hx;subst ex;subst ed;rw [e0,e2,e3,e5,e7,e9];clear e0 e2 e3 e5 e7 e9
 obtain ⟨Q,hQ⟩:=zX (FQ w0 nb ob kb mb N L we out bd.kids (⟨N fn.b,Zi :: (ps.kids.map ATree.text ++ Z0b true bd),!(st || Zt bd.text Zn) && rEvL bd.kids⟩ :: ⟨N fn.b,[fn.text],false⟩ :: S) (st || Zt bd.text Zn))
 rw [← hQ] at hB ⊢;have HQP:Hid (∀ c a d v w,Q (.panic c) (Act.put a d v) w→Q (.panic c) a w):=lh fun c a d v w h=>by rw [hQ] at h; exact absurd h.1 (by simp)
 have HB:=lh hB;have HM:=lh hM;have HE:=lh hE;have HRL:=lh hRl;have hTw:TreeAt w B fn:=hTf.keep fun k _ hk=>hM.st.bel.block k hk;have d0:=hTw.c0;have d1:=hTw.c1;rw [h1] at d0;obtain ⟨tx,htx⟩:=zX fn.text
 rw [← htx] at d1 HB h2;have n0:(tx.toList == (⟨#[]⟩:ByteArray).toList)=false:=by rw [Z26]; simp [Zt]; exact h2
 have n1:(tx.toList == [])=false:=by
  rwa [show (⟨#[]⟩:ByteArray).toList=[] by kernel_rfl] at n0
 have HS:=lh (show ∀ W,Below w.heap.size w W→W.cell? ⟨nb,0,none⟩=some (.map (some mb))∧W.cell? ⟨fn.b,1,none⟩=some (.string tx)∧(Instr.lookup 45 (.map (some mb)) (Z30 fn.b) false).run Tryz.prog W=.ok (.int .i64 (N fn.b)) W from fun W hW=>by
  have h:=hM.on hW;have h1:=(hTf.keep fun k _ hk=>h.st.bel.block k hk:TreeAt W B fn).c1;exact ⟨h.cells.1,by rw [h1,htx],h.st.look hinf⟩)
 have HB2:=lh (show Below w.heap.size w (w.alloc (.cells #[.string tx] 9)).drew from ((Y8 _ _).alloc (Y5 _) _).drew);have HMX:=lh (hM.on HB2.out);have HTX:=lh (show Zr (w.alloc (.cells #[.string tx] 9)).drew w0.heap.size (.slice (some ⟨w.heap.size,0,none⟩) 1 1) [tx] from Zr.one (w:=w) (B:=w0.heap.size) hM.st.bel.size tx)
 have HP:=lh (show Calls Tryz.prog 18 #[.agg #[.int .i64 (N fn.b),.slice (some ⟨w.heap.size,0,none⟩) 1 1,.bool false],.pointer (some ⟨q,0,none⟩)] (w.alloc (.cells #[.string tx] 9)).drew _ from Z8a (w.alloc (.cells #[.string tx] 9)).drew w0.heap.size q _ R ⟨N fn.b,[tx],false⟩ (.slice (some ⟨w.heap.size,0,none⟩) 1 1) HMX.out.cell HMX.out.rings HTX.out HMX.out.st.bel.size (by have h1:=HRL.out; omega));clear h1 h2 htx n0 hIH hm hWT hFT hT hnum hlen hRl hM hE hQ hk hTf hfm hinf hB hTw;refine wp_seq_k (fun K hK=>?_);have HK:=lh hK;clear hK;conv=>arg 2; whnf
 go_wp2_with fail
 refine Z1b (.take 0 (.take 1 (.take 2 (.take 3 (.take 4 (.take 5 (.take 6 (.take 7 (.go 8 (.take 9 (.go 10 (.go 11 .nil)))))))))))) 11 (fun W=>W.cell? ⟨nb,0,none⟩=some (.map (some mb))∧W.cell? ⟨fn.b,1,none⟩=some (.string tx)∧(Instr.lookup 45 (.map (some mb)) (Z30 fn.b) false).run Tryz.prog W=.ok (.int .i64 (N fn.b)) W) (by kernel_rfl) (by kernel_rfl) (fun c a d v w h=>HQP.out c a d v w h) (HS.out _ (Y8 _ _).drew) ?_
 iterate 8
  first
   | (refine Z05 ?_ (by rfl) (by rfl) (fun w'=>?_) ?_; rotate_left; (go_simp; first | done | with_reducible rfl))
   | (refine Z0a ?_ (by rfl) (by kernel_rfl) (by rfl) (fun w' hS'=>?_) ?_; rotate_left; (obtain ⟨s0,s1,s2⟩:=hS'; go_simp; first | done | with_reducible rfl))
   | (refine Z0a (.int .i64 (N fn.b)) (by rfl) (by kernel_rfl) (by rfl) (fun w' hS'=>Z27 _ _ (by rfl) mb fn.b (N fn.b) L (by rfl) (by rfl) hS'.2.2) ?_)
  simp only [Act.put,List.getElem_toArray,List.getElem_cons_succ,List.getElem_cons_zero,List.setIfInBounds_toArray,List.set_cons_zero,List.set_cons_succ]
 refine Zy (by rfl) (by rfl) (by rfl) (fun K hK=>?_);simp only [List.getElem_toArray,List.getElem_cons_succ,List.getElem_cons_zero];unfold Oper.wp execOp;go_simp
 refine hK _ _ (HS.out _ HB2.out) ?_;clear hK K;(refine Z05 ?_ (by rfl) (by rfl) (fun w'=>?_) ?_; rotate_left; (go_simp; first | done | with_reducible rfl))
 simp only [Act.put,List.getElem_toArray,List.getElem_cons_succ,List.getElem_cons_zero,List.setIfInBounds_toArray,List.set_cons_zero,List.set_cons_succ];refine Zy (by rfl) (by rfl) (by rfl) (fun K hK=>?_);simp only [List.getElem_toArray,List.getElem_cons_succ,List.getElem_cons_zero];unfold Oper.wp execOp;go_simp
 refine HP.out.mono ?_;rintro e w3 ⟨v3,rfl,hr3,hb3⟩;obtain ⟨g3,n3,cap3,rfl⟩:=hr3.form2;have HM2b:=lh (HMX.out.on hb3);have HM3:=lh (HM2b.out.put hr3);obtain ⟨q0,q1,q2,q3⟩:=HM2b.out.cells;refine hK _ _ (HS.out _ (HB2.out.trans (hb3.mono HB2.out.size))) ?_;clear hK K hr3 HP;refine Z29 (by rfl) (by rfl) (by rfl) (fun K hK=>?_);simp only [List.getElem_toArray,List.getElem_cons_succ,List.getElem_cons_zero];unfold Oper.wp execOp;go_simp
 refine hK _ _ (Z2r ?_);clear hK K;refine HK.out _ _ ?_;refine HB.out _ _ _ _ ⟨rfl,rfl,rfl,rfl,rfl,rfl,rfl,rfl⟩ HM3.out ?_ (by rw [Yq]; exact Y5 _);rw [Z51];exact HE.out.cons rfl (fun _=>rfl) rfl
end
theorem Zi9 {a ps bd:ATree} (h:FT a.tree) (hk:a.kids=[ps,bd]) (h1:a.kind=5∨a.kind=37):bd.kind=6:=by
 obtain ⟨b,v,k,t,n,ks⟩:=a;simp only [ATree.tree] at h;simp only [ATree.kids] at hk;subst hk;obtain ⟨p,q,e,h6⟩:=h.1 (by simpa [ATree.kind] using h1);simp only [Z0t,List.cons.injEq,and_true] at e;obtain ⟨b2,v2,k2,t2,n2,ks2⟩:=bd;rw [← e.2] at h6;exact h6
theorem Zdh {bd:ATree} (h:bd.kind=6):Z1w bd=Zt bd.text Zn:=by simp [Z1w,h]
theorem Zew {bd:ATree} (h:bd.kind=6):Z5w bd=rEvL bd.kids:=by
 rw [Z7k,Zc7];simp [Z1z,Z1a,h]
theorem Zfz {N:Nat→Nat} {a ps bd:ATree} {S:List Sc} {st:Bool} (hk:a.kids=[ps,bd]) (h1:a.kind=5∨a.kind=37) (h6:bd.kind=6) :
 Z0x N a S st=Z1c N bd.kids (⟨N a.b,Zi :: (ps.kids.map ATree.text ++ Z0b true bd),!(st || Zt bd.text Zn) && rEvL bd.kids⟩ :: (if a.kind=37∧a.text≠ByteArray.empty then ⟨N a.b,[a.text],false⟩ :: S else S)) (st || Zt bd.text Zn):=by
 rw [← Zdh h6,← Zew h6];obtain ⟨b,v,k,t,n,ks⟩:=a;obtain ⟨b2,v2,k2,t2,n2,ks2⟩:=bd;simp only [ATree.kids] at hk;simp only [ATree.kind] at h1;subst hk;rw [Z0x.eq_def];have e1:k≠23:=by omega
 have e2:k≠6:=by omega
 have e3:k≠13:=by omega
 have e4:k≠9:=by omega
 simp only [e1,e2,e3,e4,h1,if_false,if_true];rfl
theorem Zle {w0:World} {nb ob kb mb:Nat} {N:Nat→Nat} {L:List (Nat×Nat)} {m:Nat} (hIH:Z58 w0 nb ob kb mb N L m)
 (a:ATree) (B:Nat) (w:World) (R:List (Sc×Value)) (S:List Sc) (rv:Value) (st:Bool) (out:List Us) (hm:a.many≤m + 1) (hWT:WT a.tree) (hFT:FT a.tree) (hT:TreeAt w0 B a) (hnum:∀ x∈a.subs,(x.b,N x.b)∈L) (hlen:out.length + a.many≤100000) (hRl:R.length + 2 * a.many≤1000000) (hF:WSt w0 nb ob kb mb N L out w) (hR:RingsAt w w0.heap.size rv R) (hE:LkEq (Z3k R) S) (h1:a.kind=5∨a.kind=37) :
 Calls Tryz.prog 17 #[a.ptr,rv,.bool st,.pointer (some ⟨nb,0,none⟩),.pointer (some ⟨ob,0,none⟩),.pointer (some ⟨kb,0,none⟩)] w fun e w'=>e=.returned (.tuple #[])∧WSt w0 nb ob kb mb N L (out ++ Z0x N a S st) w'∧WFr w w'∧(Z0x N a S st).length≤a.many:=by
 obtain ⟨ps,bd,hk⟩:=WT.two hWT h1;have h6:=Zi9 hFT hk h1;have hmm:ps.many + bd.many < a.many:=Z8p hk;have hmem:bd∈a.kids:=by rw [hk]; simp
 have hps:=Z5z ps;obtain ⟨g,cap,rfl,hg,hle,hmx⟩:=hR.form;have hM:=WMid.start hF hR;have hT1:TreeAt (w.alloc (.cells #[.slice (some ⟨g,0,none⟩) R.length cap] 56)) B a:=hT.keep fun k _ hk=>hM.st.bel.block k hk
 have hfn:∀ (A:Act),Fw a.b nb kb w.heap.size st A→(fwAt [1,1,0,0,1,1,1,1,1,1,1,1,1,0]).wp Tryz.prog (FQ w0 nb ob kb mb N L w out bd.kids (⟨N a.b,Zi :: (ps.kids.map ATree.text ++ Z0b true bd),!(st || Zt bd.text Zn) && rEvL bd.kids⟩ :: (if a.kind=37∧a.text≠ByteArray.empty then ⟨N a.b,[a.text],false⟩ :: S else S)) (st || Zt bd.text Zn)) A (w.alloc (.cells #[.slice (some ⟨g,0,none⟩) R.length cap] 56)):=by
  intro A fr;by_cases h5:a.kind=5
  ·rw [Y9 (by omega)];exact Zma hIH (by omega) (Z8l hWT hmem) (hFT.kid hmem) (hT.kid hmem) (fun y hy=>hnum y (Z3f hmem hy)) (by omega) hk hT (by omega) (hnum a (Z1m a)) (by omega) fr hM hE h5
  ·have h37 : a.kind = 37 := by omega
   by_cases ht:a.text=ByteArray.empty
   ·rw [Y9 (fun h=>h.2 ht)];exact Zm1 hIH (by omega) (Z8l hWT hmem) (hFT.kid hmem) (hT.kid hmem) (fun y hy=>hnum y (Z3f hmem hy)) (by omega) hk hT (by omega) (hnum a (Z1m a)) (by omega) fr hM hE h37 ht
   ·rw [Yb ⟨h37,ht⟩];exact Zm6 hIH (by omega) (Z8l hWT hmem) (hFT.kid hmem) (hT.kid hmem) (fun y hy=>hnum y (Z3f hmem hy)) (by omega) hk hT (by omega) (hnum a (Z1m a)) (by omega) fr hM hE h37 ht
 have hin:Z1a a=true:=by simp [Z1a,h1]
 have HISF:=lh (Z3m _ B a hT1);rw [hin] at HISF;have HDEF:=lh (Zfz (N:=N) (S:=S) (st:=st) hk h1 h6);have HLE:=lh (show Z07 bd.kids≤a.many from by have h:bd.many=Z07 bd.kids + 1:=(by obtain ⟨b,v,k,t,n,ks⟩:=bd; rfl); omega);have d0:=hT1.c0;have HFN:=lh hfn;unfold ATree.ptr at HISF ⊢;obtain ⟨kd,hkd⟩:=zX a.kind
 rw [← hkd] at d0 h1;have n1:(kd == 23)=false:=by simp; omega
 have n2:(kd == 6)=false:=by simp; omega
 have n3:(kd == 13)=false:=by simp; omega
 have n4:(kd == 9)=false:=by simp; omega
 clear hIH hm hWT hFT hT hnum hlen hRl hF hR hE h1 hk h6 hmm hmem hps hM hT1 hfn hin hkd hg;go_enter Tryz.func17,Tryz.ntmps17
 go_wp2_with fail
 refine HISF.out.mono ?_;rintro e w2 ⟨rfl,hw2⟩;rw [hw2];clear hw2 w2 HISF;go_simp
 iterate 8 go_step
 refine wp_mono (HFN.out _ ⟨rfl,rfl,rfl,rfl,rfl,rfl,rfl,rfl⟩) ?_;rintro e a' w' ⟨rfl,hd,h1,h2,h3⟩;try simp only [Exit.inBlock,Exit.then]
 refine bodyPost_ret (results_none rfl _ _ _) hd ?_;rw [HDEF.out];exact ⟨rfl,h1,h2,Ya h3 HLE.out⟩
theorem Zk3 {w0:World} {nb ob kb mb:Nat} {N:Nat→Nat} {L:List (Nat×Nat)}:∀ m,Z58 w0 nb ob kb mb N L m
 | 0=>fun a B w R S rv st out hm=>absurd hm (by have:=Z5z a; omega)
 | m + 1 => fun a B w R S rv st out hm hWT hFT hT hnum hlen hRl hF hR hE => by
   have ih:=Zk3 (w0:=w0) (nb:=nb) (ob:=ob) (kb:=kb) (mb:=mb) (N:=N) (L:=L) m;by_cases h23:a.kind=23;·exact Zkr a B w R S rv st out hT (hnum a (Z1m a)) (by omega) (by omega) hF hR hE h23
   by_cases h9:a.kind=9;·exact Zkz ih a B w R S rv st out hm hWT hFT hT hnum hlen hRl hF hR hE h9
   by_cases h13:a.kind=13;·exact Zjw ih a B w R S rv st out hm hWT hFT hT hnum hlen hRl hF hR hE h13
   by_cases h6:a.kind=6;·exact Zjk ih a B w R S rv st out hm hWT hFT hT hnum hlen hRl hF hR hE h6
   by_cases h5:a.kind=5∨a.kind=37;·exact Zle ih a B w R S rv st out hm hWT hFT hT hnum hlen hRl hF hR hE h5
   ·exact Zjq ih a B w R S rv st out hm hWT hFT hT hnum hlen hRl hF hR hE h23 h6 h13 h9 (fun h=>h5 (.inl h)) (fun h=>h5 (.inr h))
end Go.Proofs.YtfilfhpfndaniaaGreatDoor
