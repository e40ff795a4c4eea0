/- The document's Where. -/
import Derived.Test.YtfilfhpfndaniaaGreatDoorJ20
namespace Go.Proofs.YtfilfhpfndaniaaGreatDoor
open Go Go.RowKit
set_option maxRecDepth 100000
set_option maxHeartbeats 20000000
set_option linter.unusedVariables false
theorem Zch {w:World} {b:Nat} {cs:Array Value} {t:TypeId} (h:w.heap[b]?=some (.cells cs t (0,0))) (o:Nat):w.frozen? ⟨b,o,none⟩=false:=by simp [World.frozen?,h]
theorem Zd7 {w w1:World} {mb:Nat} {N:Nat→Nat} {L:List (Nat×Nat)} (hb:Below w.heap.size w w1) (hmap:PMap w1 mb L) (has:∀ x∈L,Z3s w x.1) (hnd:(L.map (·.1)).Nodup) :
 WSt w w1.heap.size (w1.heap.size + 1) (w1.heap.size + 1 + 1) mb N L [] (((w1.alloc (.cells #[.map (some mb)] 45)).alloc (.cells #[.slice none 0 0] 27)).alloc (.cells #[Z63 w1.heap.size (w1.heap.size + 1) (w1.heap.size + 1 + 1)] 55)):=by
 obtain ⟨A1,hA1⟩:=zX (w1.alloc (.cells #[.map (some mb)] 45))
 obtain ⟨A2,hA2⟩:=zX (A1.alloc (.cells #[.slice none 0 0] 27))
 obtain ⟨A3,hA3⟩:=zX (A2.alloc (.cells #[Z63 w1.heap.size (w1.heap.size + 1) (w1.heap.size + 1 + 1)] 55))
 rw [← hA1,← hA2,← hA3];have s1:A1.heap.size=w1.heap.size + 1:=by rw [hA1]; simp
 have s2:A2.heap.size=w1.heap.size + 1 + 1:=by rw [hA2]; simp [s1]
 have old1:∀ k,k < w1.heap.size→A1.heap[k]?=w1.heap[k]?:=fun k hk=>by rw [hA1]; exact heap_alloc_old w1 _ hk
 have old2:∀ k,k < A1.heap.size→A2.heap[k]?=A1.heap[k]?:=fun k hk=>by rw [hA2]; exact heap_alloc_old A1 _ hk
 have old3:∀ k,k < A2.heap.size→A3.heap[k]?=A2.heap[k]?:=fun k hk=>by rw [hA3]; exact heap_alloc_old A2 _ hk
 have b1:A1.heap[w1.heap.size]?=some (.cells #[.map (some mb)] 45 (0,0)):=by rw [hA1]; exact heap_alloc_new w1 _
 have b2:A2.heap[w1.heap.size + 1]?=some (.cells #[.slice none 0 0] 27 (0,0)):=by rw [hA2,← s1]; exact heap_alloc_new A1 _
 have b3:A3.heap[w1.heap.size + 1 + 1]?=some (.cells #[Z63 w1.heap.size (w1.heap.size + 1) (w1.heap.size + 1 + 1)] 55 (0,0)):=by rw [hA3,← s2]; exact heap_alloc_new A2 _
 have hbel:Below w.heap.size w A3:=by
  rw [hA3,hA2,hA1];have h1:w.heap.size≤w1.heap.size:=hb.size;exact ((hb.alloc h1 _).alloc (by simp; omega) _).alloc (by simp; omega) _
 obtain ⟨es,clock,hm1,hes⟩:=hmap;have hml:=(Y6.1 hm1).1
 exact ⟨hbel,(old3 _ (by omega)).trans ((old2 _ (by omega)).trans b1),b3,⟨_,(old3 _ (by omega)).trans b2,World.ownsRow_nil _ _ _ _⟩,by have:=hb.size; omega,
  ⟨es,clock,(old3 _ (by omega)).trans ((old2 _ (by omega)).trans ((old1 _ hml).trans hm1)),hes⟩,has,hnd⟩
theorem Zg2 (w:World) (B:Nat) (a:ATree) (hT:TreeAt w B a) (hWT:WT a.tree) (hFT:FT a.tree) (h1:a.kind=1) (hd:(a.subs.map (·.b)).Nodup) (hmx:a.many≤1500) :
 Calls Tryz.prog 6 #[a.ptr] w fun e w'=>∃ v,e=.returned v∧w'.ownsRow w.heap.size 32 3 v (ofF a).length ((ofF a).flatMap Us.cells)∧Below w.heap.size w w':=by
 obtain ⟨i0,hi,hz0,hz1,hz2⟩:=info_parts Tryz.infoStr;have hkl:=Z78 a;have hst:Z1w a=Zt a.text Zn:=by simp [Z1w,h1]
 have HNU:=lh (Zce w B a hT hd (by omega));have HLT:=lh (fun w1 (h:TreeAt w1 B a)=>Z8z w1 B a h (by omega));have HST:=lh (fun w1 (h:TreeAt w1 B a)=>Z9r w1 B a h);have HK:=lh (fun nb ob kb mb=>Zk3 (w0:=w) (nb:=nb) (ob:=ob) (kb:=kb) (mb:=mb) (N:=numOf a) (L:=Z2g numG a []) a.many);have HSUB:=lh (Zbw a);have HCE:=lh (Zcs hT);have HND:=lh (Zc2 hd);have HT:=lh hT;have HWT:=lh hWT;have HFT:=lh hFT;unfold ofF;rw [hst];obtain ⟨Q,hQ⟩:=zX (a.kids.filter Z2j)
 rw [← hQ] at HLT ⊢;have hle:Q.length≤a.kids.length:=by rw [hQ]; exact List.length_filter_le _ _
 have HLK:=lh (show ∀ x,x∈Q→x∈a.kids from fun x hx=>by rw [hQ] at hx; exact (List.mem_filter.1 hx).1);clear hT hWT hFT h1 hd hst hQ;unfold ATree.ptr at HNU HLT HST ⊢;go_enter Tryz.func6,Tryz.ntmps6
 go_wp2_with fail
 refine HNU.out.mono ?_;rintro e w1 ⟨mb,rfl,hmap,hb1,hle⟩;have HMAP:=lh hmap;have HB1:=lh hb1;have HLE:=lh hle;have HS0:=lh (Zd7 (N:=numOf a) hb1 hmap HCE.out HND.out);unfold Z63 at HS0;have e1:(((w1.alloc (.cells #[.map (some mb)] 45)).alloc (.cells #[.slice none 0 0] 27)).alloc (.cells #[.nilFunc] 55)).cell? ⟨w1.heap.size + 1 + 1,0,none⟩=some .nilFunc:=by
  have h:=World.cell?_alloc_new ((w1.alloc (.cells #[.map (some mb)] 45)).alloc (.cells #[.slice none 0 0] 27)) #[.nilFunc] 55 0;rwa [World.size_alloc,World.size_alloc] at h
 have e2:(((w1.alloc (.cells #[.map (some mb)] 45)).alloc (.cells #[.slice none 0 0] 27)).alloc (.cells #[.nilFunc] 55)).frozen? ⟨w1.heap.size + 1 + 1,0,none⟩=false:=by
  have h:=heap_alloc_new ((w1.alloc (.cells #[.map (some mb)] 45)).alloc (.cells #[.slice none 0 0] 27)) (.cells #[.nilFunc] 55);rw [World.size_alloc,World.size_alloc] at h;exact Zch h 0
 have hrun:(store ⟨w1.heap.size + 1 + 1,0,none⟩ (.func (.func 17) #[] #[.pointer (some ⟨w1.heap.size,0,none⟩),.pointer (some ⟨w1.heap.size + 1,0,none⟩),.pointer (some ⟨w1.heap.size + 1 + 1,0,none⟩)])).run Tryz.prog (((w1.alloc (.cells #[.map (some mb)] 45)).alloc (.cells #[.slice none 0 0] 27)).alloc (.cells #[.nilFunc] 55))=.ok () ((((w1.alloc (.cells #[.map (some mb)] 45)).alloc (.cells #[.slice none 0 0] 27)).alloc (.cells #[.nilFunc] 55)).setCell ⟨w1.heap.size + 1 + 1,0,none⟩ (.func (.func 17) #[] #[.pointer (some ⟨w1.heap.size,0,none⟩),.pointer (some ⟨w1.heap.size + 1,0,none⟩),.pointer (some ⟨w1.heap.size + 1 + 1,0,none⟩)])):=by
  rw [run_store _ _ _ _ _ rfl,e1,e2];rfl
 clear hmap hb1 hle HNU;go_wp2_with fail
 obtain ⟨w2,hw2⟩:=zX ((((w1.alloc (.cells #[.map (some mb)] 45)).alloc (.cells #[.slice none 0 0] 27)).alloc (.cells #[.func (.func 17) #[] #[.pointer (some ⟨w1.heap.size,0,none⟩),.pointer (some ⟨w1.heap.size + 1,0,none⟩),.pointer (some ⟨w1.heap.size + 1 + 1,0,none⟩)]] 55)))
 rw [← hw2] at HS0 ⊢;obtain ⟨nb,hnb⟩:=zX w1.heap.size
 rw [← hnb] at HS0 ⊢;obtain ⟨ob,hob⟩:=zX (nb + 1)
 rw [← hob] at HS0 ⊢;obtain ⟨kb,hkb⟩:=zX (ob + 1)
 rw [← hkb] at HS0 ⊢;clear hw2 e1 e2 hrun hnb hob hkb;refine (HLT.out w2 (HT.out.keep fun k _ hk=>HS0.out.bel.block k hk)).mono ?_;rintro e w3 ⟨v3,rfl,hn3,hb3⟩;obtain ⟨p2,cp2,rfl,hge2,hmx2⟩:∃ p cp,v3=.slice p Q.length cp∧Q.length≤cp∧cp≤maxLen:=by
  rcases hn3.form with ⟨h1,h2⟩ | ⟨g,cap,h1,h2,h3⟩;·exact ⟨none,0,by rw [h1,h2]; rfl,by rw [h2]; exact Y5 _,by unfold maxLen; omega⟩
  ·exact ⟨_,_,h1,h2,h3⟩
 have HS3:=lh (HS0.out.on hb3);have N2:=lh (show Z11 w3 w2.heap.size (.slice p2 Q.length cp2) Q from hn3);obtain ⟨z,hz⟩:=zX w2.heap.size
 have HZ:=lh (show w.heap.size≤z from by rw [hz]; exact HS0.out.bel.size);have HZ3:=lh (show z≤w3.heap.size from by rw [hz]; exact hb3.size);rw [← hz] at N2;obtain ⟨nq,hq1⟩:=zX Q.length
 have hqq:nq≤9223372036854775807:=by unfold maxLen at hmx2; omega
 rw [← hq1] at hge2 N2 hle ⊢;have HQ1:=lh hq1;clear hn3 hb3 hq1 HLT hz HMAP HB1 HLE HS0;go_wp2_with fail
 go_loopw [6,19] (fun v i wr=>∃ (k:Nat) (v':Value),v'=v∧k≤nq∧i=.int .i64 k∧Hid (Zr wr w3.heap.size v' ((Q.take k).map ATree.text))∧Hid (Z11 wr z (.slice p2 nq cp2) Q)∧Hid (Below w3.heap.size w3 wr)) (fun _ i _=>nq - (intOf i).toNat)
 case atStart=>exact ⟨0,_,rfl,Yp _,rfl,lh (Zr.nil _ _),N2,lh (Y8 _ _)⟩
 case round=>
  obtain ⟨k,v,rfl,hk,rfl,TX,NO,HB⟩:=hrel;clear N2;by_cases hkn:k < nq
  ·obtain ⟨x, hx⟩ : ∃ x, Q[k]? = some x := ⟨_, Yd (by rw [← HQ1.out]; exact hkn)⟩
   obtain ⟨g0,hp⟩:∃ g,p2=some ⟨g,0,none⟩:=by
    rcases NO.out.form with ⟨h1,h2⟩ | ⟨g,cap,h1,_⟩;·rw [h2] at hx; simp at hx
    ·simp only [Value.slice.injEq] at h1; exact ⟨g,h1.1⟩
   subst hp;have cx:=NO.out.cell rfl hx;have hTx:=(HT.out.keep fun k _ hk=>(HS3.out.on HB.out).bel.block k hk:TreeAt wr B a).kid (HLK.out x (Yl hx));have c1:=hTx.c1;have hsz:=HB.out.size;have HX:=lh hx;obtain ⟨L,hL⟩:=zX ((Q.take k).map ATree.text)
   have hll:L.length≤k:=by rw [hL]; simp; omega
   rw [← hL] at TX;have HLL:=lh hL;have TX2:=TX;unfold Zr at TX;clear hTx hx hL
   go_wp2_with (at_builtin; go_must (refine wpList_append_lies _ rfl (.tmp 23) (.tmp 28) 51 rfl w3.heap.size 9 i0 (.string ByteArray.empty) 1 16 Tryz.underlying51 hi hz0 hz1 hz2 rfl (by decide) v L.length (L.map Value.string) rfl (TX.out.alloc _) ⟨wr.heap.size,0,none⟩ 1 1 [.string x.text] rfl rfl (fun j u hu=>cell_one_new wr _ _ j u hu) (by intro u hu; simp at hu; subst hu; rfl) (by first | omega | (simp; omega)) (by unfold maxLen; omega) (by first | omega | (simp; omega)) (by first | omega | (simp; omega)) (wr.heap.size + 1) (by simp) ?_); intro g cap w5 hown2 hgrow2 hat2 hgl2; have HG:=lh hgrow2; have HW:=lh hown2; clear hgrow2 hown2 hat2 hgl2)
   go_roundw
   case rel=>
    refine ⟨k + 1,_,rfl,by omega,by go_num,lh ?_,lh ?_,lh ?_⟩
    ·rw [Zk HX.out,Yw,← HLL.out];exact Z86 HW.out
    ·exact NO.out.far TX2.out fun j hj hv=>(HG.out.block j (by simp; omega) (fun e=>hv e.symm)).trans (Below.heap_alloc _ _ _ hj)
    ·exact (HB.out.alloc hsz _).grown HG.out (by simp; omega) fun j hj=>(Yh TX.out j hj).1
   case measure=>simp [intOf]; omega
  ·have hk2 : k = nq := by omega
   subst hk2;have HTX:=lh (show Zr wr w.heap.size v (Q.map ATree.text) from by have:=TX.out; rw [Ym (by rw [← HQ1.out]; exact Y5 _)] at this; exact Zr.base this (Ya HZ.out HZ3.out));have HS4:=lh (HS3.out.on HB.out);obtain ⟨pv,nv,cv,rfl⟩:=HTX.out.slice;obtain ⟨SB,hSB⟩:=zX (Zt a.text Zn)
   have HSB:=lh hSB;rw [← hSB] at HST;obtain ⟨pk,cpk,hkv,hkge,hkmx⟩:=HT.out.vOf;have HKV:=lh hkv;have c3:=(HT.out.keep fun k _ hk=>HS4.out.bel.block k hk:TreeAt wr B a).c3;rw [hkv] at c3;obtain ⟨nk,hnk⟩:=zX a.kids.length
   rw [← hnk] at c3 hkge;have HNK:=lh hnk;unfold maxLen at hkmx;have HMANY:=lh (show a.many=Z07 a.kids + 1 from by obtain ⟨b,v,k,t,n,ks⟩:=a; rfl);clear TX NO hkv hnk hSB HLK HS3;go_wp2_with fail
   go_loopw [36] (fun i wr=>∃ (k:Nat),k≤nk∧i=.int .i64 k∧Hid (WSt w nb ob kb mb (numOf a) (Z2g numG a []) (Z1c (numOf a) (a.kids.take k) [⟨0,Q.map ATree.text,false⟩] SB) wr)∧Hid (Zr wr w.heap.size (.slice pv nv cv) (Q.map ATree.text))∧Hid ((Z1c (numOf a) (a.kids.take k) [⟨0,Q.map ATree.text,false⟩] SB).length≤Z07 (a.kids.take k))) (fun i _=>nk - (intOf i).toNat)
   case atStart=>exact ⟨0,Yp _,rfl,lh (by simpa [Z1c] using HS4.out),HTX,lh (by simp [Z1c])⟩
   case round=>
    obtain ⟨k,hk,rfl,HI,HTI,HL⟩:=hrel;by_cases hkn:k < nk
    ·obtain ⟨x, hx⟩ : ∃ x, a.kids[k]? = some x := ⟨_, Yd (by rw [← HNK.out]; exact hkn)⟩
     have hT2:TreeAt wr B a:=HT.out.keep fun k _ hk=>HI.out.bel.block k hk;have hrow:=hT2.rowOf;have hp:∃ g,pk=some ⟨g,0,none⟩:=by
      rcases Z7 hrow with ⟨_,h2⟩ | ⟨g0,cap0,hv0,_⟩;·have:=HNK.out; omega
      ·have:=HKV.out.symm.trans hv0;simp only [Value.slice.injEq] at this;exact ⟨g0,this.1⟩
     obtain ⟨g0,rfl⟩:=hp;have cx:=Ze hrow (g:=g0) (by rw [HKV.out]; rfl) (i:=k) (x:=x.ptr) (by rw [Yo,hx]; rfl);obtain ⟨y0,y1⟩:=HI.out.cells;unfold Z63 at y1;have hma:=Z5o hx;have HBA:=lh (show Below wr.heap.size wr (wr.alloc (.cells #[.int .i64 0,.slice pv nv cv,.bool false] 58)).drew from ((Y8 _ _).alloc (Y5 _) _).drew);have HS5:=lh (HI.out.on HBA.out)
     have HSS:=lh (show ∀ W,Below wr.heap.size wr W→W.cell? ⟨kb,0,none⟩=some (.func (.func 17) #[] #[.pointer (some ⟨nb,0,none⟩),.pointer (some ⟨ob,0,none⟩),.pointer (some ⟨kb,0,none⟩)]) from fun W hW=>(HI.out.on hW).cells.2)
     have HRA:=lh (show RingsAt (wr.alloc (.cells #[.int .i64 0,.slice pv nv cv,.bool false] 58)).drew w.heap.size (.slice (some ⟨wr.heap.size,0,none⟩) 1 1) [((⟨0,Q.map ATree.text,false⟩:Sc),(.slice pv nv cv:Value))] from ⟨⟨by simp [Z2u],.inr ⟨wr.heap.size,1,#[.int .i64 0,.slice pv nv cv,.bool false],rfl,HI.out.bel.size,heap_alloc_new wr _,Y5 _,by unfold maxLen; omega,by simp,by simp [Z2u]⟩⟩,fun p hp=>by
      obtain rfl:=List.mem_singleton.1 hp;exact HTI.out.bel HBA.out,by simp⟩)
     have hcall:=(HK.out nb ob kb mb).at (a:=a) (x:=x) (Yl hx) (Nat.le_succ _) HWT.out HFT.out HT.out HSUB.out (wr.alloc (.cells #[.int .i64 0,.slice pv nv cv,.bool false] 58)).drew _ [⟨0,Q.map ATree.text,false⟩] _ SB _ (by have h1:=HL.out; have h3:=HMANY.out; omega) (by simp only [List.length_cons,List.length_nil]; have h3:=HMANY.out; omega) HS5.out HRA.out (fun _ _=>rfl);unfold ATree.ptr at cx hcall;have HCALL:=lh hcall;have HXX:=lh hx;clear hT2 hrow hx hcall c3 y0 hma;go_wp2_with fail
     refine Z1b (.take 0 (.take 1 (.take 2 (.take 3 (.take 5 (.two 4 (.go 6 (.go 7 .nil)) 6 (.go 4 (.go 7 .nil)))))))) 7 (fun W=>W.cell? ⟨kb,0,none⟩=some (.func (.func 17) #[] #[.pointer (some ⟨nb,0,none⟩),.pointer (some ⟨ob,0,none⟩),.pointer (some ⟨kb,0,none⟩)])) (by kernel_rfl) (by kernel_rfl) (fun _ _ d _ _ h=>by cases d <;> exact h) (HSS.out _ (Y8 _ _).drew) ?_
     iterate 5
      first
       | (refine Z05 ?_ (by rfl) (by rfl) (fun w'=>?_) ?_; rotate_left; (go_simp; first | done | with_reducible rfl))
       | (refine Z0a ?_ (by rfl) (by kernel_rfl) (by rfl) (fun w' hS'=>?_) ?_; rotate_left; (have s0:=hS'; go_simp; first | done | with_reducible rfl))
      simp only [Act.put,List.getElem_toArray,List.getElem_cons_succ,List.getElem_cons_zero,List.setIfInBounds_toArray,List.set_cons_zero,List.set_cons_succ]
     refine Z54 ?_ ?_;rotate_left
     refine Zy (by rfl) (by rfl) (by rfl) (fun K hK=>?_);simp only [List.getElem_toArray,List.getElem_cons_succ,List.getElem_cons_zero];unfold Oper.wp execOp;go_simp
     refine (HST.out wr.drew (HT.out.keep fun k _ hk=>HI.out.bel.block k hk)).mono ?_;rintro e w5 ⟨rfl,hw5⟩;rw [hw5];clear hw5 w5;refine hK _ _ (HSS.out _ (Y8 _ _).drew) ?_;clear hK K;refine Zy (by rfl) (by rfl) (by rfl) (fun K hK=>?_);simp only [List.getElem_toArray,List.getElem_cons_succ,List.getElem_cons_zero];unfold Oper.wp execOp;go_simp
     refine hK _ _ (HSS.out _ HBA.out) ?_;clear hK K;rotate_left
     refine Zy (by rfl) (by rfl) (by rfl) (fun K hK=>?_);simp only [List.getElem_toArray,List.getElem_cons_succ,List.getElem_cons_zero];unfold Oper.wp execOp;go_simp
     refine hK _ _ (HSS.out _ HBA.out) ?_;clear hK K;refine Zy (by rfl) (by rfl) (by rfl) (fun K hK=>?_);simp only [List.getElem_toArray,List.getElem_cons_succ,List.getElem_cons_zero];unfold Oper.wp execOp;go_simp
     refine (HST.out ((wr.alloc (.cells #[.int .i64 0,.slice pv nv cv,.bool false] 58)).drew) (HT.out.keep fun k _ hk=>HS5.out.bel.block k hk)).mono ?_;rintro e w5 ⟨rfl,hw5⟩;rw [hw5];clear hw5 w5;refine hK _ _ (HSS.out _ HBA.out) ?_;clear hK K
     all_goals
      refine Z29 (by rfl) (by rfl) (by rfl) (fun K hK=>?_);simp only [List.getElem_toArray,List.getElem_cons_succ,List.getElem_cons_zero];unfold Oper.wp execOp;go_simp
      refine HCALL.out.mono ?_;rintro e w6 ⟨rfl,hs6,hf6,hl6⟩;have HS6:=lh hs6;have HL6:=lh hl6;have HT6:=lh ((HRA.out.wfr hf6).txt _ (List.mem_singleton.2 rfl));clear hs6 hf6 hl6;refine hK _ _ (Z2r ?_);clear hK K;go_wp2;go_roundw
      case rel=>
       refine ⟨k + 1,by omega,by go_num,lh ?_,HT6,lh ?_⟩;·rw [Zk HXX.out,Z25]; exact HS6.out
       ·rw [Zk HXX.out,Z25,Yq];have h1:=HL.out;have h2:=HL6.out;have h3:Z07 (a.kids.take k ++ [x])=Z07 (a.kids.take k) + x.many:=by
         rw [← Z1d,Z3p,Yq,Z1d];simp only [Z0y,List.append_nil,Z2p]
        omega
      case measure=>simp [intOf]; omega
    ·have hk2 : k = nk := by omega
     subst hk2;have HALL:=lh (show a.kids.take k=a.kids from Ym (by rw [← HNK.out]; exact Y5 _));obtain ⟨ov,hb,hrow⟩:=HI.out.cell;have f1:wr.cell? ⟨ob,0,none⟩=some ov:=by simp [World.cell?,hb]
     have HROW:=lh hrow;have HBE:=lh HI.out.bel;clear c3 hb hrow;go_wp2;go_ret;have h1:=HROW.out;rw [HALL.out,HSB.out] at h1;exact ⟨ov,rfl,h1,HBE.out⟩
theorem Z24 {a b:ATree} (h:a.tree=b.tree):a.kind=b.kind∧a.text=b.text∧a.n=b.n∧Z0t a.kids=Z0t b.kids:=by
 cases a; cases b;simp only [ATree.tree,Tree.mk.injEq] at h;exact h
theorem Zig {l m:List ATree} (h:Z0t l=Z0t m):l.length=m.length:=by
 have:=congrArg List.length h;rwa [Z2l,Z2l,Yx,Yx] at this
theorem Zis {l m:List ATree} {k:Nat} {x y:ATree} (h:Z0t l=Z0t m) (hx:l[k]?=some x) (hy:m[k]?=some y):x.tree=y.tree:=by
 rw [Z2l,Z2l] at h;have:=congrArg (fun r=>r[k]?) h;simp only [List.getElem?_map,hx,hy,Option.map_some,Option.some.injEq] at this;exact this
theorem Zj4 (n0:Nat):∀ (a b:ATree),a.many≤n0→a.many≤100000→a.tree=b.tree→∀ (w:World) (B1 B2:Nat),TreeAt w B1 a→TreeAt w B2 b →
 Calls Tryz.prog 11 #[a.ptr,b.ptr] w fun e w'=>e=.returned (.bool true)∧Below w.heap.size w w':=by
 induction n0 with
 | zero=>intro a b h; cases a; simp [ATree.many] at h
 | succ n0 ih=>
 intro a b hn hmx hab w B1 B2 hT1 hT2;have HIH:=lh ih;obtain ⟨e1,e2,e3,e4⟩:=Z24 hab;have e5:=Zig e4;obtain ⟨p,cp,hv,hge,hgm⟩:=hT1.vOf;obtain ⟨q,cq,hw,hhe,hhm⟩:=hT2.vOf;have a0:=hT1.c0;have a1:=hT1.c1;have a3:=hT1.c3;have b0:=hT2.c0;have b1:=hT2.c1;have b3:=hT2.c3;have a2:w.cell? ⟨a.b,2,none⟩=some (.int .i64 a.n):=by simp [World.cell?,hT1.blkOf]
 have b2:w.cell? ⟨b.b,2,none⟩=some (.int .i64 b.n):=by simp [World.cell?,hT2.blkOf]
 rw [← e1] at b0;rw [← e2] at b1;rw [← e3] at b2;rw [hv] at a3;rw [hw,← e5] at b3;rw [← e5] at hhe;have hkm:=Z4f a;have hlen:a.kids.length≤100000:=by omega
 have HT1:=lh hT1;have HT2:=lh hT2;have HV:=lh hv;have HW:=lh hw;have HE4:=lh e4;have HNN:=lh hn;have HMX:=lh hmx;unfold ATree.ptr;obtain ⟨n,hnn⟩:=zX a.kids.length
 rw [← hnn] at a3 b3 hge hhe hlen e5;have HN:=lh hnn;have HN2:=lh e5;obtain ⟨kd,hkd⟩:=zX a.kind
 obtain ⟨tx,htx⟩:=zX a.text
 obtain ⟨nn,hnv⟩:=zX a.n
 rw [← hkd] at a0 b0;rw [← htx] at a1 b1;rw [← hnv] at a2 b2;have hkk:(kd == kd)=true:=beq_self_eq_true _;have htt:(tx.toList == tx.toList)=true:=beq_self_eq_true _;have hvv:(nn == nn)=true:=beq_self_eq_true _;have hll:((n:Int) == (n:Int))=true:=beq_self_eq_true _;clear hab hn hmx e1 e2 e3 e4 e5 hv hw hkm hnn hkd htx hnv hT1 hT2 ih;go_enter Tryz.func11,Tryz.ntmps11
 go_wp2_with fail
 refine Z1 [(true,0),(true,1),(true,2),(true,3),(true,4),(true,5),(true,6),(true,7),(true,8),(true,9),(true,10),(true,11),(true,12),(true,13),(true,14),(true,15),(true,16),(true,17),(true,18),(true,19),(true,20),(true,21),(true,22),(true,23),(true,24),(true,25),(true,26),(true,27),(true,28),(true,29),(true,30),(true,31),(true,32),(true,33),(true,34),(true,35),(true,36),(true,37),(true,38),(true,39),(true,40),(true,41)] [42,43] (fun W=>W.cell? ⟨a.b,0,none⟩=some (.int .i64 kd)∧W.cell? ⟨b.b,0,none⟩=some (.int .i64 kd)∧W.cell? ⟨a.b,1,none⟩=some (.string tx)∧W.cell? ⟨b.b,1,none⟩=some (.string tx)∧W.cell? ⟨a.b,2,none⟩=some (.int .i64 nn)∧W.cell? ⟨b.b,2,none⟩=some (.int .i64 nn)∧W.cell? ⟨a.b,3,none⟩=some (.slice p n cp)∧W.cell? ⟨b.b,3,none⟩=some (.slice q n cq)) (by kernel_rfl) (by kernel_rfl) (fun _ _ d _ _ h=>by cases d <;> exact h) ⟨a0,b0,a1,b1,a2,b2,a3,b3⟩ (fun hS0=>?_)
 simp only [Zh,zD,zE,zF,zG,zH,zI]
 iterate 42
  first
   | (refine Z2 ?_ (by rfl) (fun w' hS'=>?_) ?_; rotate_left; (obtain ⟨s0,s1,s2,s3,s4,s5,s6,s7⟩:=hS'; go_simp; first | done | with_reducible rfl); simp only [Act.put,zA,zB,zC])
   | (refine Z3 (by rfl) ?_; simp only [Act.put,zA,zB,zC])
 refine Z6 ?_;go_wp2_with fail
 go_loopw [64] (fun i wr=>∃ (k:Nat),k≤n∧i=.int .i64 k∧Hid (Below w.heap.size w wr)) (fun i _=>n - (intOf i).toNat)
 case atStart=>exact ⟨0,Yp _,rfl,lh (by repeat (first | exact Y8 _ _ | refine Below.drew ?_))⟩
 case round=>
  obtain ⟨k,hk,rfl,HB⟩:=hrel;by_cases hkn:k < n
  ·obtain ⟨x, hx⟩ : ∃ x, a.kids[k]? = some x := ⟨_, Yd (by rw [← HN.out]; exact hkn)⟩
   obtain ⟨y,hy⟩:∃ y,b.kids[k]?=some y:=⟨_,Yd (by rw [← HN2.out]; exact hkn)⟩
   have hTa:=HT1.out.bel HB.out;have hTb:=HT2.out.bel HB.out;have hra:=hTa.rowOf;have hrb:=hTb.rowOf;rcases Z7 hra with ⟨_,h2⟩ | ⟨g0,cap0,hv0,_⟩;·rw [← HN.out] at h2; omega
   rcases Z7 hrb with ⟨_,h2⟩ | ⟨g1,cap1,hv1,_⟩;·rw [← HN2.out] at h2; omega
   have hp:p=some ⟨g0,0,none⟩:=by
    have:=HV.out.symm.trans hv0;simp only [Value.slice.injEq] at this;exact this.1
   have hq:q=some ⟨g1,0,none⟩:=by
    have:=HW.out.symm.trans hv1;simp only [Value.slice.injEq] at this;exact this.1
   subst hp hq;have cx:=Ze hra (g:=g0) (by rw [hv0]; rfl) (i:=k) (x:=x.ptr) (by rw [Yo,hx]; rfl);have cy:=Ze hrb (g:=g1) (by rw [hv1]; rfl) (i:=k) (x:=y.ptr) (by rw [Yo,hy]; rfl);unfold ATree.ptr at cx cy;have j3:wr.cell? ⟨a.b,3,none⟩=some (.slice (some ⟨g0,0,none⟩) n cp):=(Yj (HB.out.block a.b HT1.out.lt)).trans a3;have l3:wr.cell? ⟨b.b,3,none⟩=some (.slice (some ⟨g1,0,none⟩) n cq):=(Yj (HB.out.block b.b HT2.out.lt)).trans b3;have hxm:=Z36 (Yl hx)
   have HC:=lh (fun (W:World) (hW:Below wr.heap.size wr W)=>HIH.out x y (by have:=HNN.out; omega) (by have:=HMX.out; omega) (Zis HE4.out hx hy) W B1 B2 ((hTa.kid (Yl hx)).bel hW) ((hTb.kid (Yl hy)).bel hW));unfold ATree.ptr at HC;clear hTa hTb hra hrb hv0 hv1 hx hy hxm a0 a1 a2 a3 b0 b1 b2 b3;go_wp2_with fail
   refine Z1 [(true,0),(true,1),(true,2),(true,3),(true,4),(true,5),(true,6),(true,7),(true,8),(true,9),(true,10),(true,11),(true,12),(true,13)] [14,15] (fun W=>W.cell? ⟨a.b,3,none⟩=some (.slice (some ⟨g0,0,none⟩) n cp)∧W.cell? ⟨b.b,3,none⟩=some (.slice (some ⟨g1,0,none⟩) n cq)∧W.cell? ⟨g0,k,none⟩=some (.pointer (some ⟨x.b,0,none⟩))∧W.cell? ⟨g1,k,none⟩=some (.pointer (some ⟨y.b,0,none⟩))) (by kernel_rfl) (by kernel_rfl) (fun _ _ d _ _ h=>by cases d <;> exact h) ⟨j3,l3,cx,cy⟩ (fun hS0=>?_)
   simp only [Zh,zD,zE,zF,zG,zH,zI]
   iterate 14
    first
     | (refine Z2 ?_ (by rfl) (fun w' hS'=>?_) ?_; rotate_left; (obtain ⟨s0,s1,s2,s3⟩:=hS'; go_simp; first | done | with_reducible rfl); simp only [Act.put,zA,zB,zC])
     | (refine Z3 (by rfl) ?_; simp only [Act.put,zA,zB,zC])
   refine Z6 ?_;go_wp2_with fail
   refine (HC.out _ (by repeat (first | exact Y8 _ _ | refine Below.drew ?_))).mono ?_;rintro e w1 ⟨rfl,hb1⟩;have HB1:=lh (show Below w.heap.size w w1 from HB.out.trans (Below.mono (show Below wr.heap.size wr w1 from ((Y8 wr.heap.size wr).drew).trans hb1) HB.out.size));clear hb1 HC;go_wp2;go_roundw
   case rel=>exact ⟨k + 1,by omega,by go_num,HB1⟩
   case measure=>simp [intOf]; omega
  ·have hk2 : k = n := by omega
   subst hk2;go_wp2;go_ret;exact ⟨rfl,HB.out⟩
mutual
theorem Zfy:∀ (a b:ATree),a.tree=b.tree→∀ l,Z2g Z2f a l=Z2g Z2f b l
 | .mk b1 v1 k1 t1 n1 ks1, .mk b2 v2 k2 t2 n2 ks2, h, l => by
   simp only [ATree.tree,Tree.mk.injEq] at h;obtain ⟨rfl,rfl,_,h⟩:=h;rw [Z6o,Z6o];have e1:Z1a (.mk b1 v1 k1 t1 n1 ks1)=Z1a (.mk b2 v2 k1 t1 n2 ks2):=rfl;have e2:ownV (.mk b1 v1 k1 t1 n1 ks1) l=ownV (.mk b2 v2 k1 t1 n2 ks2) l:=rfl;rw [e1,e2];simp only [ATree.kids];rw [Z6z ks1 ks2 h]
theorem Z6z:∀ (l1 l2:List ATree),Z0t l1=Z0t l2→∀ l,Z16 Z2f l1 l=Z16 Z2f l2 l
 | [],[],_,l=>rfl
 | [],_ :: _,h,_=>by simp [Z0t] at h
 | _ :: _,[],h,_=>by simp [Z0t] at h
 | a :: l1, b :: l2, h, l => by
   simp only [Z0t,List.cons.injEq] at h;simp only [Z16];rw [Zfy a b h.1,Z6z l1 l2 h.2]
end
theorem Zet {a b:ATree} (h:a.tree=b.tree):Z57 a=Z57 b:=Z6z _ _ (Z24 h).2.2.2 _
theorem Z4y (p:ATree→Bool) (hp:∀ a b:ATree,a.kind=b.kind→p a=p b):∀ (l1 l2:List ATree),Z0t l1=Z0t l2→(l1.filter p).map ATree.text=(l2.filter p).map ATree.text
 | [],[],_=>rfl
 | [],_ :: _,h=>by simp [Z0t] at h
 | _ :: _,[],h=>by simp [Z0t] at h
 | a :: l1, b :: l2, h => by
   simp only [Z0t,List.cons.injEq] at h;have ih:=Z4y p hp l1 l2 h.2;obtain ⟨e1,e2,_,_⟩:=Z24 h.1;have e3:=hp a b e1;simp only [List.filter_cons];rw [e3];split;·simp only [List.map_cons,ih,e2]
   ·exact ih
theorem Zdo (a b:ATree) (h:a.kind=b.kind):Z20 a=Z20 b:=by unfold Z20; rw [h]
theorem Zb4 (a b:ATree) (h:a.kind=b.kind):Z2j a=Z2j b:=by unfold Z2j; rw [h]
theorem Z7a (l:List ByteArray) (ks:List ATree):Z0l l ks=(ks.map ATree.text).foldl addL l:=by
 unfold Z0l;rw [List.foldl_map]
theorem Z98 {a b:ATree} (h:a.tree=b.tree) (body:Bool):Z0b body a=Z0b body b:=by
 have hk:=(Z24 h).2.2.2;unfold Z0b;rw [Z7a,Z7a,Z7a,Z7a,Z4y Z20 Zdo _ _ hk,Z4y Z2j Zb4 _ _ hk,Zet h]
mutual
theorem Z99:∀ (a b:ATree),a.tree=b.tree→a.subs.map ATree.tree=b.subs.map ATree.tree
 | .mk b1 v1 k1 t1 n1 ks1, .mk b2 v2 k2 t2 n2 ks2, h => by
   simp only [ATree.subs,List.map_cons];rw [h];simp only [ATree.tree,Tree.mk.injEq] at h;rw [Z8g ks1 ks2 h.2.2.2]
theorem Z8g:∀ (l1 l2:List ATree),Z0t l1=Z0t l2→(Z0y l1).map ATree.tree=(Z0y l2).map ATree.tree
 | [],[],_=>rfl
 | [],_ :: _,h=>by simp [Z0t] at h
 | _ :: _,[],h=>by simp [Z0t] at h
 | a :: l1, b :: l2, h => by
   simp only [Z0t,List.cons.injEq] at h;simp only [Z0y,List.map_append];rw [Z99 a b h.1,Z8g l1 l2 h.2]
end
theorem Z4r {a b:ATree} (h:a.tree=b.tree):a.subs.length=b.subs.length:=by
 have:=congrArg List.length (Z99 a b h);simpa using this
theorem Z11.parts {w:World} {B:Nat} {v:Value} {l:List ATree} (h:Z11 w B v l):∃ p cp,v=.slice p l.length cp∧l.length≤cp∧cp≤9223372036854775807:=by
 rcases h.form with ⟨h1,h2⟩ | ⟨g,cap,h1,h2,h3⟩;·exact ⟨none,0,by rw [h1,h2]; rfl,by rw [h2]; exact Y5 _,by omega⟩
 ·unfold maxLen at h3; exact ⟨_,_,h1,h2,by omega⟩
theorem Zr.parts {w:World} {B:Nat} {v:Value} {l:List ByteArray} (h:Zr w B v l):∃ p cp,v=.slice p l.length cp∧l.length≤cp∧cp≤9223372036854775807:=by
 rcases h.form with ⟨h1,h2⟩ | ⟨g,cap,h1,h2,h3⟩;·exact ⟨none,0,by rw [h1,h2]; rfl,by rw [h2]; exact Y5 _,by omega⟩
 ·unfold maxLen at h3; exact ⟨_,_,h1,h2,by omega⟩
theorem Z9e {a b:ATree} (h:a.tree=b.tree):Z1z a=Z1z b:=by
 obtain ⟨h1,_,_,h4⟩:=Z24 h;unfold Z1z;rw [h1];congr 1
 rcases hk:a.kids with _ | ⟨x,l⟩ <;> rcases hk2:b.kids with _ | ⟨y,r⟩ <;> rw [hk,hk2] at h4 <;> simp only [Z0t,List.cons.injEq,reduceCtorEq] at h4 ⊢
 obtain ⟨e1,e2,_,_⟩:=Z24 h4.1;rw [e1,e2]
mutual
theorem Zbn:∀ (a b:ATree),a.tree=b.tree→rEv a=rEv b
 | .mk b v k t n ks, .mk b2 v2 k2 t2 n2 ks2, h => by
   obtain ⟨h1,_,_,h4⟩:=Z24 h;rw [Zc7,Zc7,Z9e h];simp only [ATree.kind,ATree.kids] at h1 h4 ⊢;subst h1;rw [Zcl ks ks2 h4];rfl
theorem Zcl:∀ (l m:List ATree),Z0t l=Z0t m→rEvL l=rEvL m
 | [],[],_=>rfl
 | a :: l, b :: m, h => by
   simp only [Z0t,List.cons.injEq] at h;simp only [rEvL,Zbn a b h.1,Zcl l m h.2]
 | [],b :: m,h=>by simp [Z0t] at h
 | a :: l,[],h=>by simp [Z0t] at h
end
theorem Zgh {l m:List ATree} (h:Z0t l=Z0t m):l.map ATree.text=m.map ATree.text:=by
 have hf:∀ l:List ATree,l.filter (fun _=>true)=l:=fun l=>List.filter_eq_self.2 (fun _ _=>rfl);have:=Z4y (fun _=>true) (fun _ _ _=>rfl) _ _ h;rwa [hf,hf] at this
theorem Z6j {N M:Nat→Nat} {m:Nat} (ih:∀ (a b:ATree) (S:List Sc) (st:Bool),a.many≤m→a.tree=b.tree→a.subs.map (fun x=>N x.b)=b.subs.map (fun x=>M x.b)→Z0x N a S st=Z0x M b S st) :
 ∀ (l1 l2:List ATree) (S:List Sc) (st:Bool),Z07 l1≤m→Z0t l1=Z0t l2→(Z0y l1).map (fun x=>N x.b)=(Z0y l2).map (fun x=>M x.b)→Z1c N l1 S st=Z1c M l2 S st
 | [],[],S,st,_,_,_=>by simp [Z1c]
 | a :: l1, b :: l2, S, st, hm, h, hn => by
   simp only [Z0t,List.cons.injEq] at h;simp only [Z0y,List.map_append] at hn;have hl:=List.append_inj hn (by simp [Z4r h.1]);simp only [Z07] at hm;simp only [Z1c];rw [ih a b S st (by omega) h.1 hl.1,Z6j ih l1 l2 S st (by omega) h.2 hl.2]
 | [],b :: l2,S,st,_,h,_=>by simp [Z0t] at h
 | a :: l1,[],S,st,_,h,_=>by simp [Z0t] at h
theorem Zai {N M:Nat→Nat}:∀ (m:Nat) (a b:ATree) (S:List Sc) (st:Bool),a.many≤m→a.tree=b.tree→a.subs.map (fun x=>N x.b)=b.subs.map (fun x=>M x.b)→Z0x N a S st=Z0x M b S st
 | 0,a,b,S,st,hm,_,_=>absurd hm (by have:=Z5z a; omega)
 | m + 1, .mk b1 v1 k t n ks1, .mk b2 v2 k2 t2 n2 ks2, S, st, hm, h, hn => by
   have ih:=Zai (N:=N) (M:=M) m;have hnm:=Z98 h false;obtain ⟨h1,h2,h3,h4⟩:=Z24 h;simp only [ATree.kind,ATree.text,ATree.n,ATree.kids] at h1 h2 h3 h4;subst h1 h2 h3;simp only [ATree.subs,List.map_cons,List.cons.injEq,ATree.b] at hn;obtain ⟨hb,hn⟩:=hn;simp only [ATree.many] at hm;have hmk:Z07 ks1≤m:=by omega
   have HK:=fun S st=>Z6j ih ks1 ks2 S st hmk h4 hn;rw [Z0x.eq_def,Z0x.eq_def M];simp only;by_cases c1:k=23;·rw [Yb c1,Yb c1,hb]
   rw [Y9 c1,Y9 c1];by_cases c2:k=6;·rw [Yb c2,Yb c2,HK,hnm,hb]
   rw [Y9 c2,Y9 c2];by_cases c3:k=13;·rw [Yb c3,Yb c3,HK,hb]
   rw [Y9 c3,Y9 c3];by_cases c4:k=9
   ·rw [Yb c4, Yb c4];rcases ks1 with _ | ⟨x1, _ | ⟨y1, r1⟩⟩ <;> rcases ks2 with _ | ⟨x2, _ | ⟨y2, r2⟩⟩ <;> simp only [Z0t, List.cons.injEq, reduceCtorEq, and_false] at h4 ⊢
    simp only [Z0y,List.map_append] at hn;have hl:=List.append_inj hn (by simp [Z4r h4.1]);have hl2:=List.append_inj hl.2 (by simp [Z4r h4.2.1]);simp only [Z07] at hmk;rw [ih x1 x2 S st (by omega) h4.1 hl.1,ih y1 y2 _ st (by omega) h4.2.1 hl2.1]
   rw [Y9 c4,Y9 c4];by_cases c5:k=5∨k=37
   ·rw [Yb c5, Yb c5];rcases ks1 with _ | ⟨x1, _ | ⟨⟨c1, w1, d1, s1, m1, ls1⟩, r1⟩⟩ <;> rcases ks2 with _ | ⟨x2, _ | ⟨⟨c2, w2, d2, s2, m2, ls2⟩, r2⟩⟩ <;> simp only [Z0t, List.cons.injEq, reduceCtorEq, and_false] at h4 ⊢
    simp only [Z0y,List.map_append] at hn;have hl:=List.append_inj hn (by simp [Z4r h4.1]);have hl2:=List.append_inj hl.2 (by simp [Z4r h4.2.1]);simp only [ATree.subs,List.map_cons,List.cons.injEq] at hl2;have e1:=Z98 h4.2.1 true;have e2:=Zgh (Z24 h4.1).2.2.2;have e3:=Zbn _ _ h4.2.1;rw [← Z7k,← Z7k] at e3;have e4:Z1w (.mk c1 w1 d1 s1 m1 ls1)=Z1w (.mk c2 w2 d2 s2 m2 ls2):=by
     obtain ⟨q1,q2,_,_⟩:=Z24 h4.2.1;unfold Z1w;rw [q1,q2]
    have e5:=(Z24 h4.2.1).2.2.2;simp only [ATree.kids] at e5;simp only [Z07,ATree.many] at hmk;rw [Z6j ih ls1 ls2 _ _ (by omega) e5 hl2.1.2,e1,e2,e3,e4,hb]
   rw [Y9 c5,Y9 c5,HK]
theorem Zck {a:ATree} (hd:(a.subs.map ATree.b).Nodup):a.subs.map (fun x=>numOf a x.b)=List.range a.subs.length:=by
 apply List.ext_getElem;·simp
 ·intro i h1 h2;simp only [List.getElem_map, List.getElem_range, numOf];have hi : i < (a.subs.map ATree.b).length := by simpa using h1
  have hi2:i < a.subs.length:=by simpa using h1
  have e:(a.subs.map ATree.b)[i]=(a.subs[i]'hi2).b:=by simp
  rw [← e];exact List.Nodup.idxOf_getElem hd i hi
theorem Zjg {a b:ATree} (h:a.tree=b.tree) (ha:(a.subs.map ATree.b).Nodup) (hb:(b.subs.map ATree.b).Nodup):ofF a=ofF b:=by
 have hn:a.subs.map (fun x=>numOf a x.b)=b.subs.map (fun x=>numOf b x.b):=by rw [Zck ha,Zck hb,Z4r h]
 obtain ⟨h1,h2,_,h4⟩:=Z24 h;unfold ofF;rw [Z4y Z2j (fun _ _=>Zb4 _ _) _ _ h4];have e:Z1w a=Z1w b:=by unfold Z1w; rw [h1,h2]
 rw [e];rw [Z6i a,Z6i b,List.map_cons,List.map_cons,List.cons.injEq] at hn;exact Z6j (fun x y S st=>Zai _ x y S st) a.kids b.kids _ _ (Y5 _) h4 hn.2
theorem Z8b {text:ByteArray} {j k:Nat} {t:Tok} (h:Z1h text j=.ok (t,k)):t.kind≠6∧(t.kind=2→Z3l t.text=true)∧(t.kind=5→t.text=text.extract j (j + Zw text j)∧Z0s (Z9 text j)=false):=by
 unfold Z1h at h;simp only at h;split at h
 ·rename_i hl;split at h
  ·rename_i hw;simp only [Except.ok.injEq,Prod.mk.injEq] at h;obtain ⟨rfl,_⟩:=h;exact ⟨by simp,fun _=>hw,(fun h=>by simp at h)⟩
  ·split at h;·cases h
   ·simp only [Except.ok.injEq,Prod.mk.injEq] at h;obtain ⟨rfl,_⟩:=h;exact ⟨by simp,(fun h=>by simp at h),(fun h=>by simp at h)⟩
 ·rename_i hl;split at h
  ·split at h;·cases h
   ·split at h;·cases h
    ·simp only [Except.ok.injEq,Prod.mk.injEq] at h;obtain ⟨rfl,_⟩:=h;exact ⟨by simp,(fun h=>by simp at h),(fun h=>by simp at h)⟩
  ·split at h
   ·split at h;·cases h
    ·split at h;·cases h
     ·simp only [Except.ok.injEq,Prod.mk.injEq] at h;obtain ⟨rfl,_⟩:=h;exact ⟨by simp,(fun h=>by simp at h),(fun h=>by simp at h)⟩
   ·split at h;·cases h
    ·simp only [Except.ok.injEq,Prod.mk.injEq] at h;obtain ⟨rfl,_⟩:=h;exact ⟨by simp,(fun h=>by simp at h),fun _=>⟨rfl,by simpa using hl⟩⟩
theorem Zh3 {s:ByteArray} (h:Z3l s=true):Z3a s=0:=by
 refine Decidable.byContradiction fun hs=>?_;have key:s=s_or∨s=Z6r∨s=Z4o∨s=Z4n∨s=Z56∨s=Z5y∨s=Z6q:=by
  unfold Z3a Zt at hs;simp only [decide_eq_true_eq] at hs;by_cases h1:s=s_or;·exact .inl h1
  by_cases h2:s=Z6r;·exact .inr (.inl h2)
  by_cases h3:s=Z4o;·exact .inr (.inr (.inl h3))
  by_cases h4:s=Z4n;·exact .inr (.inr (.inr (.inl h4)))
  by_cases h5:s=Z56;·exact .inr (.inr (.inr (.inr (.inl h5))))
  by_cases h6:s=Z5y;·exact .inr (.inr (.inr (.inr (.inr (.inl h6)))))
  by_cases h7:s=Z6q;·exact .inr (.inr (.inr (.inr (.inr (.inr h7)))))
  simp [h1,h2,h3,h4,h5,h6,h7] at hs
 have no:∀ x,Z3l x=false→s=x→False:=fun x h1 h2=>by rw [h2,h1] at h; cases h
 rcases key with e | e | e | e | e | e | e;all_goals exact no _ (by kernel_rfl) e
theorem Zcr {s:ByteArray} (h:Z33 s≠0):Z0s (Z9 s 0)=true∧0 < s.size:=by
 unfold Z33 at h;by_cases h1:Zt s Z4z=true
 ·have : s = Z4z := by simpa [Zt] using h1
  subst this; exact ⟨by kernel_rfl,by decide⟩
 by_cases h2:Zt s Z3z=true
 ·have : s = Z3z := by simpa [Zt] using h2
  subst this; exact ⟨by kernel_rfl,by decide⟩
 by_cases h3:Zt s Z5r=true
 ·have : s = Z5r := by simpa [Zt] using h3
  subst this; exact ⟨by kernel_rfl,by decide⟩
 by_cases h4:Zt s Z1o=true
 ·have : s = Z1o := by simpa [Zt] using h4
  subst this; exact ⟨by kernel_rfl,by decide⟩
 simp [h1,h2,h3,h4] at h
theorem Zfe {text:ByteArray} {j k:Nat} {t:Tok} (hj:j < text.size) (h:Z1h text j=.ok (t,k)):Zkk t:=by
 obtain ⟨_,h2,h5⟩:=Z8b h;refine ⟨fun hk=>Zh3 (h2 hk),fun hk=>?_⟩;obtain ⟨ht,hl⟩:=h5 hk;refine Decidable.byContradiction fun hc=>?_;obtain ⟨hb,hs⟩:=Zcr hc;have hsz:0 < Zw text j:=by
  unfold Zw;split;·omega
  ·split;·omega
   ·split <;> omega
 have hp:Z9 t.text 0=Z9 text j:=by
  rw [ht];have hle:(text.extract j (j + Zw text j)).size≤Zw text j:=by rw [ByteArray.size_extract]; omega
  by_cases hk:j + Zw text j≤text.size;·rw [Zu text (by omega) hk]; rfl
  ·have e:text.extract j (j + Zw text j)=text.extract j text.size:=by
    apply ByteArray.ext;simp only [ByteArray.data_extract];apply Array.ext
    ·simp only [Array.size_extract];have:text.size=text.data.size:=rfl;omega
    ·intro i h1 h2; simp only [Array.getElem_extract]
   rw [e,Zu text (by omega) (Y5 _)]; rfl
 rw [hp,hl] at hb;cases hb
theorem Z73 {text:ByteArray}:∀ (r:List Tok) (i:Nat),i≤text.size→Zi6 text i r→(∃ l e,r=l ++ [e]∧e.kind=6∧∀ t∈l,t.kind≠6)∧r.length + i≤text.size + 1∧Zx r:=by
 intro r;induction r with
 | nil=>intro i _ h; exact h.elim
 | cons t r ih =>
   intro i hi h;cases r with
   | nil =>
     obtain ⟨h1,h2⟩:=h;refine ⟨⟨[],t,rfl,by rw [h2],fun t ht=>by cases ht⟩,by simp; omega,fun x hx=>?_⟩;simp only [List.mem_singleton] at hx;subst hx;rw [h2];exact ⟨fun h=>by simp at h,fun h=>by simp at h⟩
   | cons u r =>
     obtain ⟨k,h1,h2,h3⟩:=h;obtain ⟨c1,c2,_⟩:=Z3q text h1 h2;obtain ⟨s1,_,_,_⟩:=Z2m Z1t text (text.size - i) i (Y5 _) hi;obtain ⟨⟨l,e,h4,h5,h6⟩,h7,h8⟩:=ih k c2 h3;refine ⟨⟨t :: l,e,by rw [h4]; rfl,h5,fun x hx=>?_⟩,?_,fun x hx=>?_⟩
     ·rcases List.mem_cons.1 hx with rfl | hx;·exact (Z8b h2).1
      ·exact h6 x hx
     ·simp only [List.length_cons] at h7 ⊢; omega
     ·rcases List.mem_cons.1 hx with rfl | hx;·exact Zfe h1 h2
      ·exact h8 x hx
theorem Ze8 (text:ByteArray):∀ (f i:Nat) (acc:List UInt8),(Z0q text f i acc).2.1=0→(Z0q text f i acc).1.length≤500:=by
 intro f;induction f with
 | zero=>intro i acc h; simp [Z0q] at h
 | succ f ih =>
   intro i acc h;unfold Z0q at h ⊢;by_cases c1:text.size≤i∨Z9 text i=10;·rw [Yb c1] at h; simp at h
   rw [Y9 c1] at h ⊢;by_cases c2:Z9 text i=39
   ·rw [Yb c2] at h ⊢;by_cases c3 : 500 < acc.length;·rw [Yb c3] at h; simp at h
    ·rw [Y9 c3]; simp only; omega
   rw [Y9 c2] at h ⊢;by_cases c4:Z9 text i=92
   ·rw [Yb c4] at h ⊢;by_cases c5 : i + 1 < text.size
    ·rw [Yb c5] at h ⊢;cases he : Z71 (Z9 text (i + 1)) with
     | none=>rw [he] at h; simp at h
     | some e=>rw [he] at h; simp only at h ⊢; exact ih _ _ h
    ·rw [Y9 c5] at h; simp at h
   ·rw [Y9 c4] at h ⊢;exact ih _ _ h
theorem Z9f (text:ByteArray) (a b:Nat):(text.extract a b).size≤text.size:=by
 rw [ByteArray.size_extract]; omega
theorem Ziw {text:ByteArray} {j k:Nat} {t:Tok} (h:Z1h text j=.ok (t,k)):t.text.size≤text.size + 500:=by
 have hx:=Z9f text;unfold Z1h at h;simp only at h;split at h
 ·split at h
  ·simp only [Except.ok.injEq,Prod.mk.injEq] at h;obtain ⟨rfl,_⟩:=h;have:=hx j (Z02 Z55 text (text.size - j) j); simp only; omega
  ·split at h;·cases h
   ·simp only [Except.ok.injEq,Prod.mk.injEq] at h;obtain ⟨rfl,_⟩:=h;have:=hx j (Z02 Z55 text (text.size - j) j); simp only; omega
 ·split at h
  ·split at h;·cases h
   ·split at h;·cases h
    ·simp only [Except.ok.injEq,Prod.mk.injEq] at h;obtain ⟨rfl,_⟩:=h;exact Yp _
  ·split at h
   ·split at h;·cases h
    ·split at h;·cases h
     ·rename_i _ h2;simp only [Except.ok.injEq,Prod.mk.injEq] at h;obtain ⟨rfl,_⟩:=h;have h3:=Ze8 text (text.size + 1 - (j + 1)) (j + 1) [] (by simpa [Z0n] using h2);have h4:(⟨(Z0n text (j + 1)).1.toArray⟩:ByteArray).size=(Z0n text (j + 1)).1.length:=by
       show (Z0n text (j + 1)).1.toArray.size=_;simp
      simp only;rw [h4];have h5:(Z0n text (j + 1)).1.length≤500:=h3;omega
   ·split at h;·cases h
    ·simp only [Except.ok.injEq,Prod.mk.injEq] at h;obtain ⟨rfl,_⟩:=h;have:=hx j (j + Zw text j); simp only; omega
theorem Zj6 {text:ByteArray} {j k:Nat} {t:Tok} (hj:j < text.size) (h:Z1h text j=.ok (t,k)):t.kind=5→t.text≠⟨#[43,45]⟩:=by
 intro hk he;obtain ⟨_,_,h5⟩:=Z8b h;obtain ⟨ht,hl⟩:=h5 hk;have hle:(text.extract j (j + Zw text j)).size≤Zw text j:=by rw [ByteArray.size_extract]; omega
 have hsz:t.text.size=2:=by rw [he]; rfl
 have h2:2≤Zw text j:=by rw [← ht] at hle; omega
 have hp:Z9 t.text 0=Z9 text j:=by
  rw [ht];by_cases hk:j + Zw text j≤text.size;·rw [Zu text (by omega) hk]; rfl
  ·have e:text.extract j (j + Zw text j)=text.extract j text.size:=by
    apply ByteArray.ext;simp only [ByteArray.data_extract];apply Array.ext
    ·simp only [Array.size_extract];have:text.size=text.data.size:=rfl;omega
    ·intro i h1 h2; simp only [Array.getElem_extract]
   rw [e,Zu text (by omega) (Y5 _)]; rfl
 have h43:Z9 text j=43:=by rw [← hp,he]; decide
 have h1:Zw text j=1:=by
  unfold Zw;rw [Y9 (by rw [h43]; intro h; exact absurd h.1 (by decide)),Y9 (by rw [h43]; intro h; exact absurd h.1 (by decide)),Y9 (by rw [h43]; intro h; exact absurd h.1 (by decide))]
 omega
theorem Zev {text:ByteArray}:∀ (r:List Tok) (i:Nat),i≤text.size→Zi6 text i r→(∀ t∈r,t.kind=5→t.text≠⟨#[43,45]⟩)∧∀ t∈r,t.text.size≤text.size + 500:=by
 intro r;induction r with
 | nil=>intro i _ h; exact h.elim
 | cons t r ih =>
   intro i hi h;cases r with
   | nil =>
     obtain ⟨h1,h2⟩:=h;refine ⟨fun x hx=>?_,fun x hx=>?_⟩
     ·simp only [List.mem_singleton] at hx;subst hx;rw [h2];exact fun h=>by simp at h
     ·simp only [List.mem_singleton] at hx;subst hx;rw [h2];exact Yp _
   | cons u r =>
     obtain ⟨k,h1,h2,h3⟩:=h;obtain ⟨c1,c2,_⟩:=Z3q text h1 h2;obtain ⟨h7,h8⟩:=ih k c2 h3;refine ⟨fun x hx=>?_,fun x hx=>?_⟩
     ·rcases List.mem_cons.1 hx with rfl | hx;·exact Zj6 h1 h2
      ·exact h7 x hx
     ·rcases List.mem_cons.1 hx with rfl | hx;·exact Ziw h2
      ·exact h8 x hx
end Go.Proofs.YtfilfhpfndaniaaGreatDoor
