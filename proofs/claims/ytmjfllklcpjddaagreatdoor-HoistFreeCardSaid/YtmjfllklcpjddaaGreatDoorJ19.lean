/- The document's Free, whole. -/
import Derived.Test.YtmjfllklcpjddaaGreatDoorJ18
namespace Go.Proofs.YtmjfllklcpjddaaGreatDoor
open Go Go.RowKit Go.ChangeMaps Go.MapKept
set_option maxRecDepth 100000
set_option maxHeartbeats 20000000
set_option linter.unusedVariables false
theorem Zhr (w0:World) (fb kb mb B:Nat):∀ m,Zjm w0 fb kb mb B m:=by
 intro m;induction m with
 | zero=>intro a w kv l K hm; obtain ⟨b,vv,k,t,n,ks⟩:=a; simp [ATree.many] at hm
 | succ m ih=>exact Zet ih
mutual
theorem Za1:∀ (a:ATree) (K:List ByteArray),(Z2h a K).length≤a.many
 | .mk b v k t n ks, K => by
   rw [Z2h.eq_def];simp only [ATree.many];have h:=fun K=>Z7d ks K;split
   ·rw [Yq];have:=h K;split <;> simp <;> omega
   ·split;·have := h (Z1k true (.mk b v k t n ks) ++ K); omega
    ·split;·have := h (Z1k false (.mk b v k t n ks) ++ K); omega
     ·split;·have := h ([t] ++ K); omega
      ·split
       ·match ks, h with
        | [],_=>simp
        | [_],_=>simp
        | ps :: .mk b2 v2 k2 t2 n2 bks :: r, _ =>
          have:=Z7d bks (Za7 K k t ps (.mk b2 v2 k2 t2 n2 bks));simp only [Z0w,ATree.many];omega
       ·have:=h K; omega
theorem Z7d:∀ (l:List ATree) (K:List ByteArray),(Z2j l K).length≤Z0w l
 | [],_=>by simp [Z2j]
 | a :: l, K => by
   have h1:=Za1 a K;have h2:=Z7d l K;simp only [Z2j,List.length_append,Z0w];omega
end
theorem Zk2 {α β:Type} {f:α→β} {l:List α} (h:(l.map f).Nodup) {x y:α} (hx:x∈l) (hy:y∈l) (e:f x=f y):x=y:=by
 induction l with
 | nil=>cases hx
 | cons z l ih =>
   simp only [List.map_cons,List.nodup_cons] at h;simp only [List.mem_cons] at hx hy;rcases hx with hx | hx <;> rcases hy with hy | hy
   ·rw [hx,hy]
   ·exact absurd (List.mem_map.2 ⟨y,hy,by rw [← e,hx]⟩) h.1
   ·exact absurd (List.mem_map.2 ⟨x,hx,by rw [e,hy]⟩) h.1
   ·exact ih h.2 hx hy
theorem Zjs {w:World} {b:Nat} (h:b < w.heap.size) (o:Obj):(setBlock w b o).heap[b]?=some o:=by simp [setBlock,h]
theorem Zdx {w:World} {b i:Nat} (h:i≠b) (o:Obj):(setBlock w b o).heap[i]?=w.heap[i]?:=by
 simp only [setBlock];rw [Array.getElem?_setIfInBounds_ne (Ne.symm h)]
theorem Zhh {w:World} {b:Nat} {cs:Array Value} {t:TypeId} (h:w.heap[b]?=some (.cells cs t (0,0))) (o:Nat):w.frozen? ⟨b,o,none⟩=false:=by simp [World.frozen?,h]
theorem Zcz (W:World) (t:TypeId) (fn:Fn) (x y:Array Value):(store ⟨W.heap.size,0,none⟩ (.func fn x y)).run Tryz.prog (W.alloc (.cells #[.nilFunc] t))=.ok () (W.alloc (.cells #[.func fn x y] t)):=by
 have e1:(W.alloc (.cells #[.nilFunc] t)).cell? ⟨W.heap.size,0,none⟩=some .nilFunc:=World.cell?_alloc_new W #[.nilFunc] t 0;have e2:(W.alloc (.cells #[.nilFunc] t)).frozen? ⟨W.heap.size,0,none⟩=false:=Zhh (heap_alloc_new W _) 0;rw [run_store _ _ _ _ _ rfl,e1,e2];simp [World.setCell_alloc_new]
theorem Ze5 (W:World) (t:TypeId) (b:Nat):(store ⟨W.heap.size,0,none⟩ (.map (some b))).run Tryz.prog (W.alloc (.cells #[.map none] t))=.ok () (W.alloc (.cells #[.map (some b)] t)):=by
 have e1:(W.alloc (.cells #[.map none] t)).cell? ⟨W.heap.size,0,none⟩=some (.map none):=World.cell?_alloc_new W #[.map none] t 0;have e2:(W.alloc (.cells #[.map none] t)).frozen? ⟨W.heap.size,0,none⟩=false:=Zhh (heap_alloc_new W _) 0;rw [run_store _ _ _ _ _ rfl,e1,e2];simp [World.setCell_alloc_new]
def Zis (w:World):World:=((w.alloc (.map #[] 0)).alloc (.cells #[.map (some w.heap.size)] 42)).alloc (.cells #[.func (.func 13) #[] #[.pointer (some ⟨w.heap.size + 1,0,none⟩),.pointer (some ⟨w.heap.size + 1 + 1,0,none⟩)]] 43)
theorem Zey (w:World):ZS w (w.heap.size + 1) (w.heap.size + 1 + 1) w.heap.size [] (Zis w):=by
 unfold Zis;obtain ⟨A1,hA1⟩:=zX (w.alloc (.map #[] 0))
 rw [← hA1];obtain ⟨A2,hA2⟩:=zX (A1.alloc (.cells #[.map (some w.heap.size)] 42))
 rw [← hA2];obtain ⟨A3,hA3⟩:=zX (A2.alloc (.cells #[.func (.func 13) #[] #[.pointer (some ⟨w.heap.size + 1,0,none⟩),.pointer (some ⟨w.heap.size + 1 + 1,0,none⟩)]] 43))
 rw [← hA3];have s1:A1.heap.size=w.heap.size + 1:=by rw [hA1]; simp
 have s2:A2.heap.size=w.heap.size + 1 + 1:=by rw [hA2]; simp [s1]
 have old2:∀ k,k < A1.heap.size→A2.heap[k]?=A1.heap[k]?:=fun k hk=>by rw [hA2]; exact heap_alloc_old A1 _ hk
 have old3:∀ k,k < A2.heap.size→A3.heap[k]?=A2.heap[k]?:=fun k hk=>by rw [hA3]; exact heap_alloc_old A2 _ hk
 have b2:=heap_alloc_new A1 (.cells #[.map (some w.heap.size)] 42);have b3:=heap_alloc_new A2 (.cells #[.func (.func 13) #[] #[.pointer (some ⟨w.heap.size + 1,0,none⟩),.pointer (some ⟨w.heap.size + 1 + 1,0,none⟩)]] 43);rw [← hA2,s1] at b2;rw [← hA3,s2] at b3;have hm:SMap A1 w.heap.size (hasV []):=by
  have h:=SMap.made w;rw [← hA1] at h;rw [show hasV []=fun _=>none from by funext x; rfl];exact h
 refine ⟨Y5 _,?_,(old3 _ (by omega)).trans b2,b3,(hm.kept (old2 _ (by omega))).kept (old3 _ (by omega))⟩;rw [hA3,hA2,hA1];exact (((Y8 _ _).alloc (Y5 _) _).alloc (by simp) _).alloc (by simp; omega) _
theorem Zgk (w:World) (B:Nat) (a:ATree) (hT:TreeAt w B a) (hA:WA a) (hmx:a.many≤100000) :
 Calls Tryz.prog 7 #[a.ptr] w fun e w'=>∃ v M,e=.returned v∧Zp w' w.heap.size v (Z5o M)∧M.Nodup∧(∀ s,s∈M↔s∈Z2h a [])∧Below w.heap.size w w':=by
 have hlen:(Z2h a []).length≤100000:=by have:=Za1 a []; omega
 have hs0:=Zey w;have HF:=lh (Zhr w (w.heap.size + 1) (w.heap.size + 1 + 1) w.heap.size B a.many a (Zis w) (.slice none 0 0) [] [] (Y5 _) hmx hA hT hs0 (Zp.nil _ _) (by simp; omega));unfold Zkm at HF;obtain ⟨T,hTT⟩:=zX (Z2h a [])
 rw [← hTT] at HF hlen ⊢;simp only [List.nil_append] at HF;have HS:=lh (fun (W:World) (z g cap:Nat) (L:List ByteArray) (hl:L.length≤100000) (h:Zp W z (.slice (some ⟨g,0,none⟩) L.length cap) L)=>
  (Tryz.sort_Strings g 0 cap (L.map fun s=>s.data.toList) W (Z9b h) (Yh h g rfl).2 (by rw [Yv]; omega)).mono fun e w' ⟨h1,h2⟩=>(⟨h1,Za8 h h2⟩:e=Ending.returned (.tuple #[])∧Zp w' z (.slice (some ⟨g,0,none⟩) L.length cap) (Z5o L)∧Below z W w'∧∀ k,k < W.heap.size→k≠g→w'.heap[k]?=W.heap[k]?))
 simp only [List.length_map] at HS;have e1:=hs0.cells.2;have r1:=Ze5 (w.alloc (.map #[] 0)) 42 w.heap.size;rw [World.size_alloc] at r1;have r2:=Zcz ((w.alloc (.map #[] 0)).alloc (.cells #[.map (some w.heap.size)] 42)) 43 (.func 13) #[] #[.pointer (some ⟨w.heap.size + 1,0,none⟩),.pointer (some ⟨w.heap.size + 1 + 1,0,none⟩)];rw [World.size_alloc,World.size_alloc] at r2;have hmf:∀ (fn:Fn) (first cap:Array Value) (w:World),(Instr.makeFunc fn first cap).run Tryz.prog w=.ok (.func fn first cap) w:=fun _ _ _ _=>rfl;unfold Zis at HF e1;unfold ATree.ptr at HF ⊢
 clear hT hA hmx hs0 hTT;go_enter Tryz.func7,Tryz.ntmps7
 have hmk:(Instr.makeMap 42 none).run Tryz.prog w=.ok (.map (some w.heap.size)) (w.alloc (.map #[] 0)):=run_makeMap _ w;go_wp2_with fail
 refine HF.out.mono ?_;rintro e w4 ⟨rfl,hs4,_⟩;have HB4:=lh hs4.bel;obtain ⟨mb,hmb⟩:=zX w.heap.size
 have f4:w4.cell? ⟨w.heap.size + 1,0,none⟩=some (.map (some mb)):=by rw [hmb]; exact hs4.cells.1
 have HM:SMap w4 mb (hasV T):=by rw [hmb]; exact hs4.map
 obtain ⟨es,clock,hes,hst,hks,hg⟩:=HM;have hml:mb < w4.heap.size:=(Y6.1 hes).1;have HML:=lh hml;have hrg:=run_range_map (P:=Tryz.prog) w4 42 9 4 mb es clock Tryz.underlying42 hes;have HES:=lh hes;have HST:=lh hst;have HKS:=lh hks;have HG:=lh hg;have HTL:=lh hlen;clear hs4 hes hst hks hg hmb HF e1 r1 r2 hmk hml hlen;go_wp2_with fail
 go_loopw [5] (fun v wr=>∃ (seen:Array Nat) (c0:Nat) (v':Value) (L:List ByteArray),v'=v∧Hid (Below w4.heap.size w4 wr)∧Hid (wr.heap[w4.heap.size]?=some (.mapIter (some mb) clock seen c0))∧clock≤c0∧Hid (Zp wr (w4.heap.size + 1) v' L)∧Hid (L.Nodup∧∀ s,s∈L↔∃ x∈es.toList,seen.contains x.born=true∧x.key=.string s)) (fun _ wr=>(Go.leftOf es (wr.iterSeen w4.heap.size)).size)
 case atStart=>exact ⟨#[],clock,_,[],rfl,lh ((Y8 _ _).alloc (Y5 _) _),lh (heap_alloc_new _ _),Y5 _,lh (Zp.nil _ _),lh ⟨List.nodup_nil,by simp⟩⟩
 case round=>
  obtain ⟨seen,c0,v',L,rfl,HB,HR,hc,HT,HL⟩:=hrel;have hmemT:∀ s,s∈L→s∈T:=by
   intro s hs;obtain ⟨x,hx,_,hk⟩:=(HL.out.2 s).1 hs;have h:=(HG.out s x.val).2 ⟨x,hx,hk,rfl⟩;unfold hasV at h;split at h;·rename_i h2; exact (Lib.containsS_iff ..).1 h2
   ·cases h
  have hLl:L.length≤100000:=by have:=Z90 L T HL.out.1 hmemT; have:=HTL.out; omega
  have law:=run_next_at (P:=Tryz.prog) wr 0 w4.heap.size mb clock c0 seen es clock HR.out ((HB.out.block mb HML.out).trans HES.out) HST.out.1 hc;rcases law with ⟨h0,hrun⟩ | ⟨e,he,w5,hw5,hrun⟩
  ·have hnx:∀ ty,(Instr.next (.pointer (some ⟨w4.heap.size,0,none⟩)) false ty).run Tryz.prog wr=_:=fun _=>hrun;have has:=all_seen es seen h0;have hM:∀ s,s∈L↔s∈T:=by
    intro s;refine ⟨hmemT s,fun hs=>(HL.out.2 s).2 ?_⟩;have h:hasV T s=some (.bool true):=by unfold hasV; rw [Yb ((Lib.containsS_iff ..).2 hs)]
    obtain ⟨x,hx,hk,_⟩:=(HG.out s _).1 h;exact ⟨x,hx,has x hx,hk⟩
   have HMM:=lh hM;have HMT:=lh hmemT;clear hrun h0 has hM hmemT;rcases HT.out.form with ⟨h1,h2⟩ | ⟨g,cap,h1,_⟩
   ·subst h1;have HN0 := lh h2;have HSN := lh (fun W => Tryz.sort_Strings_none none 0 W);clear h2;go_wp2_with fail
    refine (HSN.out _).mono ?_;rintro e w6 ⟨rfl,hw6⟩;rw [hw6];clear hw6 w6;go_wp2;go_ret;refine ⟨_,L,rfl,?_,HL.out.1,HMM.out,HB4.out.trans (HB.out.mono HB4.out.size)⟩;rw [HN0.out,show Z5o []=[] from by simp [Z5o]];exact Zp.nil _ _
   ·subst h1;have HSN := lh (HS.out wr (w4.heap.size + 1) g cap L hLl HT.out);obtain ⟨nn, hnn⟩ := zX L.length
    rw [← hnn] at HSN ⊢;have HNN:=lh hnn;clear hnn;go_wp2_with fail
    refine HSN.out.mono ?_;rintro e w6 ⟨rfl,ht6,hb6,_⟩;have HT6:=lh ht6;have HB6:=lh (HB4.out.trans ((HB.out.trans (hb6.mono (Nat.le_succ _))).mono HB4.out.size));clear ht6 hb6;go_wp2;go_ret;refine ⟨_,L,rfl,?_,HL.out.1,HMM.out,HB6.out⟩;rw [HNN.out];have h:=HT6.out;rw [HNN.out] at h;exact Zan h (by have:=HB4.out.size; omega)
  ·have hm:=(mem_left he).1;have hns:=(mem_left he).2;obtain ⟨s,hkey⟩:∃ s,e.key=.string s:=by
    have h:=HKS.out e hm;cases hk:e.key with
    | string s=>exact ⟨s,rfl⟩
    | _=>rw [hk] at h; exact h.elim
   obtain ⟨w6,hw6⟩:=zX (setBlock w5 w4.heap.size (.mapIter (some mb) clock (seen.push e.born) clock))
   have hr5:w5.heap[w4.heap.size]?=some (.mapIter (some mb) clock seen c0):=by rcases hw5 with rfl | rfl <;> exact HR.out
   have hb5:Below w4.heap.size w4 w5:=by rcases hw5 with rfl | rfl <;> first | exact HB.out | exact HB.out.drew
   have hr6:w6.heap[w4.heap.size]?=some (.mapIter (some mb) clock (seen.push e.born) clock):=by rw [hw6]; exact Zjs (Y6.1 hr5).1 _
   have hb6:Below w4.heap.size w4 w6:=by
    rw [hw6];exact ⟨hb5.os,hb5.tape,hb5.output,by have:=hb5.size; simpa [setBlock] using this,fun k hk=>(Zdx (by omega) _).trans (hb5.block k hk)⟩
   have ht6:Zp w6 (w4.heap.size + 1) v' L:=Zh HT.out fun k hk=>by
    have hlt:=Yh HT.out k hk;rw [hw6,Zdx (by omega)];rcases hw5 with rfl | rfl <;> rfl
   have hen:=run_entry_at (P:=Tryz.prog) w6 w4.heap.size mb clock seen es clock e hr6 ((hb6.block mb HML.out).trans HES.out) hm HST.out.2.1;rw [← hw6] at hrun;rw [hkey] at hrun hen;have hnx:∀ ty,(Instr.next (.pointer (some ⟨w4.heap.size,0,none⟩)) false ty).run Tryz.prog wr=_:=fun _=>hrun;have hnot:s ∉ L:=by
    intro hs;obtain ⟨x,hx,hsx,hk⟩:=(HL.out.2 s).1 hs;have:=Zk2 HST.out.2.2 hx hm (hk.trans hkey.symm);subst this;rw [hns] at hsx; cases hsx
   have HNEW:=lh (show (L ++ [s]).Nodup∧∀ t,t∈L ++ [s]↔∃ x∈es.toList,(seen.push e.born).contains x.born=true∧x.key=.string t from by
    refine ⟨by rw [List.nodup_append]; exact ⟨HL.out.1,by simp,fun x hx y hy=>by simp at hy; subst hy; exact fun h=>hnot (h ▸ hx)⟩,fun t=>?_⟩;rw [List.mem_append,HL.out.2,List.mem_singleton];constructor
    ·rintro (⟨x, hx, h1, h2⟩ | rfl);·exact ⟨x, hx, by rw [contains_push, h1]; rfl, h2⟩
     ·exact ⟨e,hm,by rw [contains_push]; simp,hkey⟩
    ·rintro ⟨x, hx, h1, h2⟩;rw [contains_push] at h1;rcases (Bool.or_eq_true _ _).mp h1 with h1 | h1;·exact .inl ⟨x, hx, h1, h2⟩
     ·right;have:=born_inj HST.out.2.1 hx hm (beq_iff_eq.1 h1);subst this;rw [hkey] at h2;exact (Value.string.inj h2).symm)
   have HE:=lh he;have HR6:=lh hr6;have HB6:=lh hb6;have hiter:w4.heap.size < w6.heap.size:=(Y6.1 hr6).1;have HBA:Hid (Below w6.heap.size w6 (w6.alloc (.cells #[.string s] 9))):=lh ((Y8 _ _).alloc (Y5 _) _);have HT6:=lh (ht6.bel HBA.out);have HT7:=lh (zone (w:=w6) (B:=0) (Yp _) s);have hsz6:w4.heap.size + 1≤(w6.alloc (.cells #[.string s] 9)).heap.size:=by simp; omega
   have hl6:L.length + [s].length≤3000000000000:=by simp; omega
   clear hr5 hb5 hr6 hb6 ht6 hw6 hkey hrun he hw5 hm hns hnot hmemT;go_wp2_with (at_builtin; (refine Z0q (w6.alloc (.cells #[.string s] 9)) (w4.heap.size + 1) rfl (.tmp 20) (.tmp 22) rfl HT6.out rfl HT7.out rfl hsz6 hl6 ?_); intro v7 w7 ht7 hb7; have HT8:=lh ht7; have HB7:=lh hb7; clear ht7 hb7)
   have hr7:w7.heap[w4.heap.size]?=some (.mapIter (some mb) clock (seen.push e.born) clock):=(HB7.out.block _ (Nat.lt_succ_self _)).trans ((HBA.out.block _ hiter).trans HR6.out);have HR7:=lh hr7;clear hr7;go_roundw
   case rel=>exact ⟨seen.push e.born,clock,_,L ++ [s],rfl,lh ((HB6.out.trans (HBA.out.mono (Nat.le_of_lt hiter))).trans (HB7.out.mono (Nat.le_succ _))),HR7,Y5 _,HT8,HNEW⟩
   case measure=>
    have e1:w7.iterSeen w4.heap.size=seen.push e.born:=by unfold World.iterSeen; rw [HR7.out]
    have e2:wr.iterSeen w4.heap.size=seen:=by unfold World.iterSeen; rw [HR.out]
    rw [e1,e2];exact left_shrinks es seen e HE.out
end Go.Proofs.YtmjfllklcpjddaaGreatDoor
namespace Go.Proofs.YtmjfllklcpjddaaGreatDoor
open Go Go.RowKit
set_option maxRecDepth 100000
set_option maxHeartbeats 20000000
set_option linter.unusedVariables false
theorem Zcs (text:ByteArray):∀ (f i:Nat) (acc:List UInt8),(Z0h text f i acc).2.1=0→(Z0h text f i acc).1.length≤500:=by
 intro f;induction f with
 | zero=>intro i acc h; simp [Z0h] at h
 | succ f ih =>
   intro i acc h;unfold Z0h at h ⊢;by_cases c1:text.size≤i∨Z8 text i=10;·rw [Yb c1] at h; simp at h
   rw [Y9 c1] at h ⊢;by_cases c2:Z8 text i=39
   ·rw [Yb c2] at h ⊢;by_cases c3 : 500 < acc.length;·rw [Yb c3] at h; simp at h
    ·rw [Y9 c3]; simp only; omega
   rw [Y9 c2] at h ⊢;by_cases c4:Z8 text i=92
   ·rw [Yb c4] at h ⊢;by_cases c5 : i + 1 < text.size
    ·rw [Yb c5] at h ⊢;cases he : Z6d (Z8 text (i + 1)) with
     | none=>rw [he] at h; simp at h
     | some e=>rw [he] at h; simp only at h ⊢; exact ih _ _ h
    ·rw [Y9 c5] at h; simp at h
   ·rw [Y9 c4] at h ⊢;exact ih _ _ h
theorem Z8s (text:ByteArray) (a b:Nat):(text.extract a b).size≤text.size:=by
 rw [ByteArray.size_extract]; omega
theorem Zin {text:ByteArray} {j k:Nat} {t:Tok} (h:Z11 text j=.ok (t,k)):t.text.size≤text.size + 500:=by
 have hx:=Z8s text;unfold Z11 at h;simp only at h;split at h
 ·split at h
  ·simp only [Except.ok.injEq,Prod.mk.injEq] at h;obtain ⟨rfl,_⟩:=h;have:=hx j (Zz Z4c text (text.size - j) j); simp only; omega
  ·split at h;·cases h
   ·simp only [Except.ok.injEq,Prod.mk.injEq] at h;obtain ⟨rfl,_⟩:=h;have:=hx j (Zz Z4c text (text.size - j) j); simp only; omega
 ·split at h
  ·split at h;·cases h
   ·split at h;·cases h
    ·simp only [Except.ok.injEq,Prod.mk.injEq] at h;obtain ⟨rfl,_⟩:=h;exact Yp _
  ·split at h
   ·split at h;·cases h
    ·split at h;·cases h
     ·rename_i _ h2;simp only [Except.ok.injEq,Prod.mk.injEq] at h;obtain ⟨rfl,_⟩:=h;have h3:=Zcs text (text.size + 1 - (j + 1)) (j + 1) [] (by simpa [Z0f] using h2);have h4:(⟨(Z0f text (j + 1)).1.toArray⟩:ByteArray).size=(Z0f text (j + 1)).1.length:=by
       show (Z0f text (j + 1)).1.toArray.size=_;simp
      simp only;rw [h4];have h5:(Z0f text (j + 1)).1.length≤500:=h3;omega
   ·split at h;·cases h
    ·simp only [Except.ok.injEq,Prod.mk.injEq] at h;obtain ⟨rfl,_⟩:=h;have:=hx j (j + Zt text j); simp only; omega
theorem Zj0 {text:ByteArray} {j k:Nat} {t:Tok} (hj:j < text.size) (h:Z11 text j=.ok (t,k)):t.kind=5→t.text≠⟨#[43,45]⟩:=by
 intro hk he;obtain ⟨_,_,h5⟩:=Z7h h;obtain ⟨ht,hl⟩:=h5 hk;have hle:(text.extract j (j + Zt text j)).size≤Zt text j:=by rw [ByteArray.size_extract]; omega
 have hsz:t.text.size=2:=by rw [he]; rfl
 have h2:2≤Zt text j:=by rw [← ht] at hle; omega
 have hp:Z8 t.text 0=Z8 text j:=by
  rw [ht];by_cases hk:j + Zt text j≤text.size;·rw [Zq text (by omega) hk]; rfl
  ·have e:text.extract j (j + Zt text j)=text.extract j text.size:=by
    apply ByteArray.ext;simp only [ByteArray.data_extract];apply Array.ext
    ·simp only [Array.size_extract];have:text.size=text.data.size:=rfl;omega
    ·intro i h1 h2; simp only [Array.getElem_extract]
   rw [e,Zq text (by omega) (Y5 _)]; rfl
 have h43:Z8 text j=43:=by rw [← hp,he]; decide
 have h1:Zt text j=1:=by
  unfold Zt;rw [Y9 (by rw [h43]; intro h; exact absurd h.1 (by decide)),Y9 (by rw [h43]; intro h; exact absurd h.1 (by decide)),Y9 (by rw [h43]; intro h; exact absurd h.1 (by decide))]
 omega
theorem Zfc {text:ByteArray}:∀ (r:List Tok) (i:Nat),i≤text.size→Zen text i r→(∀ t∈r,t.kind=5→t.text≠⟨#[43,45]⟩)∧∀ t∈r,t.text.size≤text.size + 500:=by
 intro r;induction r with
 | nil=>intro i _ h; exact h.elim
 | cons t r ih =>
   intro i hi h;cases r with
   | nil =>
     obtain ⟨h1,h2⟩:=h;refine ⟨fun x hx=>?_,fun x hx=>?_⟩
     ·simp only [List.mem_singleton] at hx;subst hx;rw [h2];exact fun h=>by simp at h
     ·simp only [List.mem_singleton] at hx;subst hx;rw [h2];exact Yp _
   | cons u r =>
     obtain ⟨k,h1,h2,h3⟩:=h;obtain ⟨c1,c2,_⟩:=Z2r text h1 h2;obtain ⟨h7,h8⟩:=ih k c2 h3;refine ⟨fun x hx=>?_,fun x hx=>?_⟩
     ·rcases List.mem_cons.1 hx with rfl | hx;·exact Zj0 h1 h2
      ·exact h7 x hx
     ·rcases List.mem_cons.1 hx with rfl | hx;·exact Zin h2
      ·exact h8 x hx
end Go.Proofs.YtmjfllklcpjddaaGreatDoor
