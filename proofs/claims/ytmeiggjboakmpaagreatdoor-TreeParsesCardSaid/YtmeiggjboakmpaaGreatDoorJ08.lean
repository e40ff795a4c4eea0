/- strings.Replacer at three bytes. -/
import Derived.Test.YtmeiggjboakmpaaGreatDoorJ07
import Derived.Deep.WholeRow
import Derived.Laws.Cover3
import Derived.Lib.OwnKind
import Derived.Shelf.Strings.Count
import Derived.Laws.CopyOwn
import Derived.Shelf.Strconv.Itoa3
namespace Go.Proofs.YtmeiggjboakmpaaGreatDoor
open Go Go.RowKit
set_option maxRecDepth 100000
set_option maxHeartbeats 20000000
set_option linter.unusedVariables false
theorem Tryz.infoStrO:(Tryz.prog.info? 9).map (fun i=>(i.zero,i.size,i.bytes))=some (some (.string ByteArray.empty),1,16):=by kernel_rfl
def pairsL:List ByteArray:=[⟨#[92]⟩,⟨#[92,92]⟩,⟨#[39]⟩,⟨#[92,39]⟩,⟨#[10]⟩,⟨#[92,110]⟩]
theorem Z9j {w:World} {base:Nat} {e:TypeId} {v:Value} {n:Nat} {xs:List Value} (h:w.ownsRow base e 1 v n xs) {g:Nat} (hg:v.ownBlock=some g) {i:Nat} {x:Value} (hx:xs[i]?=some x):w.cell? ⟨g,i,none⟩=some x:=by
 have:=h.cells hg i x hx;rwa [show ((⟨g,0,none⟩:Addr).add i)=⟨g,i,none⟩ by unfold Addr.add; split <;> simp_all] at this
theorem Zhk {w w':World} (h:w.grownBy w' none):Below w.heap.size w w':=⟨h.os,h.tape,h.output,h.size,fun k hk=>h.block k hk (by simp)⟩
theorem Ze7 (g:Nat) (w:World) (hc:∀ j s,pairsL[j]?=some s→w.cell? ⟨g,j,none⟩=some (.string s)) :
 Calls Tryz.prog 107 #[.slice (some ⟨g,0,none⟩) 6 6] w fun e w'=>∃ rb ov,e=.returned (.pointer (some ⟨rb,0,none⟩))∧w'.heap[rb]?=some (.cells #[.int .u32 0,.int .i32 0,.int .u32 0,.nilIface,ov] 182 (0,0)) ∧
  w'.ownsRow w.heap.size 9 1 ov 6 (pairsL.map Value.string)∧w.heap.size≤rb∧ov.ownBlock≠some rb∧Below w.heap.size w w':=by
 obtain ⟨i0,hi,hz0,hz1,hz2⟩:=info_parts Tryz.infoStrO;go_enter Tryz.func107,Tryz.ntmps107
 go_wp2_with (at_builtin; refine wpList_append_own _ rfl _ _ 76 rfl w.heap.size 9 i0 (.string ByteArray.empty) 1 16 Tryz.underlying76 hi hz0 hz1 hz2 rfl (by decide) (.slice none 0 0) 0 [] rfl (World.ownsRow_nil w _ _ _) ⟨g,0,none⟩ 6 6 (pairsL.map Value.string) rfl rfl ?c1 ?c2 ?c3 ?c4 ?c5 ?_)
 case c1=>
  intro j u hj;rw [Yo] at hj;obtain ⟨s,hs,rfl⟩:=Option.map_eq_some_iff.1 hj;rw [show (⟨g,0,none⟩:Addr).add j=⟨g,j,none⟩ by unfold Addr.add; split <;> simp_all];exact hc j s hs
 case c2=>intro u hu; obtain ⟨s,_,rfl⟩:=List.mem_map.1 hu; rfl
 case c3=>unfold maxLen; omega
 case c4=>omega
 case c5=>exact Y5 _
 intro v' w2 hown' hgrow _;obtain ⟨g2,cap,rfl⟩:∃ g2 cap,v'=.slice (some ⟨g2,0,none⟩) 6 cap:=by
  rcases Zp hown' with ⟨_,h⟩ | ⟨g2,cap,h,_⟩;·cases h
  ·exact ⟨g2,cap,h⟩
 have HO:=lh hown';have HG:=lh hgrow;clear hown' hgrow;go_wp2;go_ret;have hb:Below w.heap.size w w2:=Zhk HG.out;refine ⟨w2.heap.size,_,rfl,(Go.MapKept.heap_alloc w2 _).1,HO.out.alloc _,hb.size,?_,hb.alloc hb.size _⟩;have:=(Yh HO.out g2 rfl).2;simp only [Value.ownBlock,ne_eq,Option.some.injEq];omega
def ordR (i:Nat):Option (Nat×UInt8):=if i=10 then some (0,110) else if i=39 then some (1,39) else if i=92 then some (2,92) else none
def Zed:List ByteArray:=[⟨#[10]⟩,⟨#[39]⟩,⟨#[92]⟩]
def Z5y (B bb k:Nat) (w:World) (i:Nat) (v:Value):Prop:=
 match ordR i with
 | some (q,e)=>if q < k then ∃ g cap,v=.slice (some ⟨g,0,none⟩) 2 cap∧2≤cap∧g≠bb∧B≤g∧(∃ cs fz,w.heap[g]?=some (.cells cs 5 fz))∧w.cell? ⟨g,0,none⟩=some (.int .u8 92)∧w.cell? ⟨g,1,none⟩=some (.int .u8 e.toNat) else v=.slice none 0 0
 | none=>v=.slice none 0 0
structure RepK (B bb k:Nat) (tv:Value) (C:Array Value) (w:World):Prop where
 blk:w.heap[bb]?=some (.cells C 216 (0,0))
 sz:C.size=257
 last:C[256]?=some tv
 row:w.ownsRow B 9 1 tv k ((Zed.take k).map Value.string)
 ne:tv.ownBlock≠some bb
 low:B≤bb
 at':∀ i,i < 256→∃ v,C[i]?=some v∧Z5y B bb k w i v
theorem Zaj:Tryz.zeroCells216=Array.replicate 257 (.slice none 0 0):=by kernel_rfl
theorem Z5u (w:World) (a:Option Addr) (l c:Nat):(binOp .eql 67 (.slice a l c) (.slice none 0 0)).run Tryz.prog w=.ok (.bool a.isNone) w:=by
 simp [binOp,run_equal_slice_nil w 67 5 a l c Tryz.underlying67,Result.andThen]
theorem Zai (w:World) (a:Option Addr) (l c:Nat):(binOp .neq 67 (.slice a l c) (.slice none 0 0)).run Tryz.prog w=.ok (.bool (!a.isNone)) w:=run_neq_slice_nil w 67 5 a l c Tryz.underlying67
theorem Z7j (w:World) (v:Value) (t:TypeId):(w.alloc (.cells #[v] t)).cell? ⟨w.heap.size,0,none⟩=some v:=by
 have h:=(Go.MapKept.heap_alloc w (.cells #[v] t)).1;unfold World.cell?;simp only [h];rfl
theorem Zae (w:World) (c:Nat) (hc:c < 256:=by decide):(convert 67 9 (.slice (some ⟨w.heap.size,0,none⟩) 1 1)).run Tryz.prog (w.alloc (.cells #[.int .u8 c] 5))=.ok (.string ⟨#[UInt8.ofNat c]⟩) (w.alloc (.cells #[.int .u8 c] 5)):=by
 have h:=run_convert_bytes_back (P:=Tryz.prog) (w.alloc (.cells #[.int .u8 c] 5)) 67 9 5 ⟨w.heap.size,0,none⟩ 1 [UInt8.ofNat c] Tryz.underlying67 Tryz.underlying5 Yr (fun j hj=>by
  have:j=0:=by simpa using hj
  subst this;rw [show (⟨w.heap.size,0,none⟩:Addr).add 0=⟨w.heap.size,0,none⟩ by unfold Addr.add; simp,Z7j];simp [Nat.mod_eq_of_lt hc])
 exact h
theorem Zi9:(Tryz.prog.info? 216).map (·.size)=some 257:=by kernel_rfl
theorem Zgm (w:World) (v:Value) (hv:v.oneCell'=true):(storeCells ⟨w.heap.size,0,none⟩ (Tryz.zeroCells216.toList.set 256 v) 0).run Tryz.prog (w.alloc (.cells Tryz.zeroCells216 216)) =
 .ok () (w.alloc (.cells ((Array.replicate 257 (Value.slice none 0 0)).setIfInBounds 256 v) 216)):=by
 have h:=run_storeCells_new (P:=Tryz.prog) w 216 Tryz.zeroCells216 ((Array.replicate 257 (Value.slice none 0 0)).setIfInBounds 256 v) (by rw [Zi9]; simp) (by rw [Zaj]; simp) (by
  rw [← Array.all_toList,Array.toList_setIfInBounds,List.all_eq_true];intro x hx;rcases List.mem_or_eq_of_mem_set hx with h | h
  ·simp at h;rw [h]; rfl
  ·rw [h]; exact hv)
 rw [Array.toList_setIfInBounds] at h;rw [Zaj];rw [Zaj] at h;exact h
theorem RepK.start {w:World} {B:Nat} {tv:Value} (hB:B≤w.heap.size) (hr:w.ownsRow B 9 1 tv 0 []) :
 RepK B w.heap.size 0 tv ((Array.replicate 257 (Value.slice none 0 0)).setIfInBounds 256 tv) (w.alloc (.cells ((Array.replicate 257 (Value.slice none 0 0)).setIfInBounds 256 tv) 216)) where
 blk:=(Go.MapKept.heap_alloc w _).1
 sz:=by simp
 last:=by simp
 row:=hr.alloc _
 ne:=by
  intro e;have:=(Yh hr _ e).2;omega
 low:=hB
 at' i hi:=by
  refine ⟨.slice none 0 0,?_,?_⟩
  ·rw [Array.getElem?_setIfInBounds];rw [Y9 (by omega)];simp [Array.getElem?_replicate];omega
  ·unfold Z5y;split;·rw [Y9 (by omega)]
   ·rfl
theorem Z5y.keep {B bb k:Nat} {w w':World} {i:Nat} {v:Value} (h:Z5y B bb k w i v) (hk:∀ (g:Nat) (cs:Array Value) (fz:Nat×Nat),w.heap[g]?=some (Obj.cells cs 5 fz)→w'.heap[g]?=w.heap[g]?):Z5y B bb k w' i v:=by
 unfold Z5y at h ⊢;split
 ·rename_i q e he;rw [he] at h;simp only at h;split
  ·rename_i hq;rw [Yb hq] at h;obtain ⟨g,cap,h1,h2,h3,h4,⟨cs,fz,h5⟩,h6,h7⟩:=h;have hg:=hk g cs fz h5;exact ⟨g,cap,h1,h2,h3,h4,⟨cs,fz,hg.trans h5⟩,(Yj hg).trans h6,(Yj hg).trans h7⟩
  ·rename_i hq;rw [Y9 hq] at h;exact h
 ·rename_i he;rw [he] at h;exact h
theorem RepK.more {B bb k:Nat} {tv:Value} {C:Array Value} {w w1 w2:World} (h:RepK B bb k tv C w) (hB:B≤w.heap.size) (hb:Below w.heap.size w w1) (hg:w1.grownBy w2 tv.ownBlock)
 {g':Nat} (hf:tv.ownBlock=some g'∨w1.heap.size≤g') :
 w2.cell? ⟨bb,256,none⟩=some tv∧w2.frozen? ⟨bb,256,none⟩=false∧w2.heap[bb]?=some (.cells C 216 (0,0))∧Below B w w2∧(∀ i v,Z5y B bb k w i v→Z5y B bb k w2 i v)∧g'≠bb:=by
 have hlt:bb < w.heap.size:=(Y6.1 h.blk).1;have hb2:w2.heap[bb]?=some (.cells C 216 (0,0)):=by
  rw [hg.block bb (Ye hlt hb.size) (fun e=>h.ne e.symm),hb.block bb hlt];exact h.blk
 refine ⟨by simp [World.cell?,hb2,h.last],Lib.frozen_of_heap hb2 256,hb2,(hb.mono hB).grown hg (Ya hB hb.size) (fun j hj=>(Yh h.row j hj).1),fun i v hs=>Z5y.keep hs fun g cs fz hgc=>?_,fun e=>?_⟩
 ·have hgl:g < w.heap.size:=(Y6.1 hgc).1;have e1:=hb.block g hgl;refine (hg.block g (Ye hgl hb.size) fun e=>?_).trans e1;obtain ⟨c,f,hk⟩:=Lib.ownsRow_kind h.row g e.symm;rw [hgc] at hk;have:=(Obj.cells.inj (Yk hk)).2.1;exact absurd this (by decide)
 ·subst e;rcases hf with h1 | h1;·exact h.ne h1
  ·have:=hb.size; omega
theorem Z5r {w:World} {g:Nat} {cs:Array Value} {t:TypeId} {fr:Nat×Nat} (h:w.heap[g]?=some (.cells cs t fr)) (i:Nat) (v:Value):(w.setCell ⟨g,i,none⟩ v).heap[g]?=some (.cells (cs.setIfInBounds i v) t fr):=by
 obtain ⟨hlt,he⟩:=Y6.1 h;unfold World.setCell;simp [Array.getElem?_modify,h]
theorem Z8d (s:ByteArray) (cap j:Nat) (hj:j < s.size):(bytesRow s cap)[j]?=some (.int .u8 ((s.data[j]'hj).toNat:Int)):=by
 unfold bytesRow;rw [Array.getElem?_append_left (by simp; exact hj)];simp only [Array.getElem?_map];rw [Array.getElem?_eq_getElem hj];rfl
theorem RepK.next {B bb k:Nat} {tv:Value} {C:Array Value} {w w2:World} (h:RepK B bb k tv C w) (o:Nat) (e:UInt8) (ho:ordR o=some (k,e)) (ho2:o < 256) (hsep:∀ i q e',i≠o→ordR i=some (q,e')→q≠k) {g2 cp2:Nat}
 (r1:w2.heap[bb]?=some (.cells C 216 (0,0))) (r2:Below B w w2) (r3:∀ i v,Z5y B bb k w i v→Z5y B bb k w2 i v) (r4:g2≠bb)
 (hr:w2.ownsRow B 9 1 (.slice (some ⟨g2,0,none⟩) (k + 1) cp2) (k + 1) ((Zed.take (k + 1)).map Value.string)) (hB:B≤w2.heap.size) (cap:Nat) (hcap:2≤cap) (fz:Nat×Nat) :
 ∃ C', RepK B bb (k + 1) (.slice (some ⟨g2, 0, none⟩) (k + 1) cp2) C' (((w2.setCell ⟨bb, 256, none⟩ (.slice (some ⟨g2, 0, none⟩) (k + 1) cp2)).setCell ⟨bb, o, none⟩ (.slice (some ⟨w2.heap.size, 0, none⟩) 2 cap)).alloc (.cells (bytesRow ⟨#[92, e]⟩ cap) 5 fz)).drew ∧
   Below B w (((w2.setCell ⟨bb,256,none⟩ (.slice (some ⟨g2,0,none⟩) (k + 1) cp2)).setCell ⟨bb,o,none⟩ (.slice (some ⟨w2.heap.size,0,none⟩) 2 cap)).alloc (.cells (bytesRow ⟨#[92,e]⟩ cap) 5 fz)).drew:=by
 obtain ⟨tv',htv⟩:=zX ((.slice (some ⟨g2,0,none⟩) (k + 1) cp2:Value))
 have hob:tv'.ownBlock≠some bb:=by rw [htv]; simpa [Value.ownBlock] using r4
 rw [← htv] at hr ⊢;have hlt:bb < w2.heap.size:=(Y6.1 r1).1;have s1:=Z5r r1 256 tv';have s2:=Z5r s1 o (.slice (some ⟨w2.heap.size,0,none⟩) 2 cap);obtain ⟨W1,hW1⟩:=zX ((w2.setCell ⟨bb,256,none⟩ tv').setCell ⟨bb,o,none⟩ (.slice (some ⟨w2.heap.size,0,none⟩) 2 cap))
 rw [← hW1] at s2 ⊢;have z1:W1.heap.size=w2.heap.size:=by rw [hW1]; simp
 have oth:∀ j,j≠bb→W1.heap[j]?=w2.heap[j]?:=fun j hj=>by rw [hW1,Yg _ _ _ _ hj,Yg _ _ _ _ hj]
 have past:∀ j,j < w2.heap.size→((W1.alloc (.cells (bytesRow ⟨#[92,e]⟩ cap) 5 fz)).drew).heap[j]?=W1.heap[j]?:=fun j hj=>Below.heap_alloc W1 _ j (by omega);have new:((W1.alloc (.cells (bytesRow ⟨#[92,e]⟩ cap) 5 fz)).drew).heap[w2.heap.size]?=some (.cells (bytesRow ⟨#[92,e]⟩ cap) 5 fz):=by
  have:=(Go.MapKept.heap_alloc W1 (.cells (bytesRow ⟨#[92,e]⟩ cap) 5 fz)).1;rw [z1] at this;exact this
 obtain ⟨W,hW⟩:=zX ((W1.alloc (.cells (bytesRow ⟨#[92,e]⟩ cap) 5 fz)).drew)
 have hrow:W.ownsRow B 9 1 tv' (k + 1) ((Zed.take (k + 1)).map Value.string):=Zq hr fun g hg=>by
  have hgl:=(Yh hr g hg).2;rw [hW,past g hgl,oth g (fun e=>hob (by rw [hg,e]))]
 have hsz:W.heap.size=w2.heap.size + 1:=by rw [hW]; show (W1.alloc _).heap.size=_; rw [World.size_alloc,z1]
 rw [← hW] at past new ⊢;refine ⟨(C.setIfInBounds 256 tv').setIfInBounds o (.slice (some ⟨w2.heap.size,0,none⟩) 2 cap),⟨(past bb hlt).trans s2,by simp [h.sz],?_,hrow,hob,h.low,fun i hi=>?_⟩,?_⟩;·rw [Array.getElem?_setIfInBounds,Y9 (by omega),Array.getElem?_setIfInBounds,Yb rfl,Yb (by rw [h.sz]; omega)]
 ·by_cases e1 : i = o
  ·subst e1;refine ⟨.slice (some ⟨w2.heap.size, 0, none⟩) 2 cap, ?_, ?_⟩;·rw [Array.getElem?_setIfInBounds, Yb rfl, Yb (by simp [h.sz]; omega)]
   ·unfold Z5y;rw [ho];simp only;rw [Yb (by omega)];refine ⟨_, _, rfl, hcap, by omega, hB, ⟨_, _, new⟩, ?_, ?_⟩
    ·simp only [World.cell?,new];exact Z8d ⟨#[92,e]⟩ cap 0 (by show 0 < 2; omega)
    ·simp only [World.cell?,new];exact Z8d ⟨#[92,e]⟩ cap 1 (by show 1 < 2; omega)
  ·obtain ⟨v, hv, hs⟩ := h.at' i hi;refine ⟨v, ?_, ?_⟩;·rw [Array.getElem?_setIfInBounds, Y9 (fun e => e1 e.symm), Array.getElem?_setIfInBounds, Y9 (by omega), hv]
   ·have hs2:=Z5y.keep (w':=W) (r3 i v hs) fun g cs f hg=>by
     have hgl:g < w2.heap.size:=(Y6.1 hg).1;rw [past g hgl,oth g (fun e=>by
      rw [e,r1] at hg;exact absurd (Obj.cells.inj (Yk hg)).2.1 (by decide))]
    unfold Z5y at hs2 ⊢;split
    ·rename_i q e' he;rw [he] at hs2;simp only at hs2;have hne := hsep i q e' e1 he;by_cases hq : q < k
     ·rw [Yb hq] at hs2;rw [Yb (by omega)];exact hs2
     ·rw [Y9 hq] at hs2;rw [Y9 (by omega)];exact hs2
    ·rename_i he;rw [he] at hs2;exact hs2
 ·refine r2.trans ⟨?_, ?_, ?_, by rw [hsz]; omega, fun j hj => ?_⟩;·rw [hW, hW1]; rfl
  ·rw [hW,hW1]; rfl
  ·rw [hW,hW1]; rfl
  ·rw [past j (Ye hj hB),oth j (by have:=h.low; omega)]
theorem Zhm (rb:Nat) (ov:Value) (w:World) (B:Nat) (hrb:w.heap[rb]?=some (.cells #[.int .u32 0,.int .i32 1,.int .u32 0,.nilIface,ov] 182 (0,0))) (ho:w.ownsRow B 9 1 ov 6 (pairsL.map Value.string)) :
 Calls Tryz.prog 134 #[.pointer (some ⟨rb,0,none⟩)] w fun e w'=>∃ bb tv C,e=.returned (.iface 217 (.pointer (some ⟨bb,0,none⟩)))∧RepK w.heap.size bb 3 tv C w'∧Below w.heap.size w w':=by
 obtain ⟨i0,hi,hz0,hz1,hz2⟩:=info_parts Tryz.infoStrO;obtain ⟨g,cap,rfl⟩:∃ g cap,ov=.slice (some ⟨g,0,none⟩) 6 cap:=by
  rcases Zp ho with ⟨_,h⟩ | ⟨g2,cap,h,_⟩;·cases h
  ·exact ⟨g2,cap,h⟩
 have r4:w.cell? ⟨rb,4,none⟩=some (.slice (some ⟨g,0,none⟩) 6 cap):=by simp [World.cell?,hrb]
 have hge:6≤cap:=by
  rcases Zp ho with ⟨_,h⟩ | ⟨g2,cap',h,h2,_⟩;·cases h
  ·simp only [Value.slice.injEq] at h; omega
 have k0:=Z9j ho (g:=g) rfl (i:=0) (x:=.string ⟨#[92]⟩) rfl;have k1:=Z9j ho (g:=g) rfl (i:=1) (x:=.string ⟨#[92,92]⟩) rfl;have k2:=Z9j ho (g:=g) rfl (i:=2) (x:=.string ⟨#[39]⟩) rfl;have k3:=Z9j ho (g:=g) rfl (i:=3) (x:=.string ⟨#[92,39]⟩) rfl;have k4:=Z9j ho (g:=g) rfl (i:=4) (x:=.string ⟨#[10]⟩) rfl;have k5:=Z9j ho (g:=g) rfl (i:=5) (x:=.string ⟨#[92,110]⟩) rfl;have hgl:=(Yh ho g rfl).2
 have KK:Hid (∀ w',Below w.heap.size w w'→w'.cell? ⟨g,0,none⟩=some (.string ⟨#[92]⟩)∧w'.cell? ⟨g,1,none⟩=some (.string ⟨#[92,92]⟩)∧w'.cell? ⟨g,2,none⟩=some (.string ⟨#[39]⟩)∧w'.cell? ⟨g,3,none⟩=some (.string ⟨#[92,39]⟩)∧w'.cell? ⟨g,4,none⟩=some (.string ⟨#[10]⟩)∧w'.cell? ⟨g,5,none⟩=some (.string ⟨#[92,110]⟩)):=
  lh fun w' h=>⟨(Yj (h.block g hgl)).trans k0,(Yj (h.block g hgl)).trans k1,(Yj (h.block g hgl)).trans k2,(Yj (h.block g hgl)).trans k3,(Yj (h.block g hgl)).trans k4,(Yj (h.block g hgl)).trans k5⟩
 clear hrb ho;go_enter Tryz.func134,Tryz.ntmps134
 go_wp2_with fail
 go_loopw [4,5] (fun v i wr=>wr=w∧((i=.int .i64 0∧v=.bool true)∨(i=.int .i64 2∧v=.bool false)∨(i=.int .i64 4∧v=.bool false)∨(i=.int .i64 6∧v=.bool false))) (fun _ i _=>6 - (intOf i).toNat)
 case atStart=>exact ⟨rfl,.inl ⟨rfl,rfl⟩⟩
 case round=>
  obtain ⟨rfl,hrel⟩:=hrel;rcases hrel with ⟨rfl,rfl⟩ | ⟨rfl,rfl⟩ | ⟨rfl,rfl⟩ | ⟨rfl,rfl⟩
  ·go_wp2;go_roundw
   case rel=>first | exact ⟨rfl,.inr (.inl ⟨rfl,rfl⟩)⟩ | exact ⟨trivial,.inr (.inl ⟨rfl,rfl⟩)⟩
   case measure=>decide
  ·go_wp2;go_roundw
   case rel=>first | exact ⟨rfl,.inr (.inr (.inl ⟨rfl,rfl⟩))⟩ | exact ⟨trivial,.inr (.inr (.inl ⟨rfl,rfl⟩))⟩
   case measure=>decide
  ·go_wp2;go_roundw
   case rel=>first | exact ⟨rfl,.inr (.inr (.inr ⟨rfl,rfl⟩))⟩ | exact ⟨trivial,.inr (.inr (.inr ⟨rfl,rfl⟩))⟩
   case measure=>decide
  ·obtain ⟨w0, hw0⟩ := zX wr
   subst hw0;have hmk:=run_makeSlice (P:=Tryz.prog) w0 76 9 i0 (.string ByteArray.empty) Tryz.underlying76 hi hz0 .i64 .i64 0 3 (by omega) (by omega) (by rw [hz1]; decide) (by rw [hz2]; decide) (by omega)
   have hst:(storeCells ⟨w0.heap.size + 1,0,none⟩ (Tryz.zeroCells216.toList.set 256 (.slice (some ⟨w0.heap.size,0,none⟩) 0 3)) 0).run Tryz.prog ((w0.alloc (.cells (madeCells #[.string ByteArray.empty] 3) 9)).alloc (.cells Tryz.zeroCells216 216)) =
    .ok () ((w0.alloc (.cells (madeCells #[.string ByteArray.empty] 3) 9)).alloc (.cells ((Array.replicate 257 (Value.slice none 0 0)).setIfInBounds 256 (.slice (some ⟨w0.heap.size,0,none⟩) 0 3)) 216)):=by
    have h:=Zgm (w0.alloc (.cells (madeCells #[.string ByteArray.empty] 3) 9)) (.slice (some ⟨w0.heap.size,0,none⟩) 0 3) rfl;rw [World.size_alloc] at h;exact h
   have R0:=RepK.start (w:=w0.alloc (.cells (madeCells #[.string ByteArray.empty] 3) 9)) (B:=w0.heap.size) (tv:=.slice (some ⟨w0.heap.size,0,none⟩) 0 3) (by rw [World.size_alloc]; omega) (World.ownsRow_made w0 _ 3 (Y5 _) (by unfold maxLen; omega) (size_madeCells _ _));rw [World.size_alloc] at R0;have HR0:=lh R0;have hb0:Below w0.heap.size w0 ((w0.alloc (.cells (madeCells #[.string ByteArray.empty] 3) 9)).alloc (.cells ((Array.replicate 257 (Value.slice none 0 0)).setIfInBounds 256 (.slice (some ⟨w0.heap.size,0,none⟩) 0 3)) 216)):=
    ((Y8 _ _).alloc (Y5 _) _).alloc (by rw [World.size_alloc]; omega) _
   have HB0:=lh hb0;clear hb0 R0;go_wp2_with fail
   go_loopw [12] (fun i wr'=>∃ (k:Nat) (tv:Value) (C:Array Value),k≤3∧i=.int .i64 (4 - 2 * (k:Int))∧Hid (RepK w0.heap.size (w0.heap.size + 1) k tv C wr')∧Hid (Below w0.heap.size w0 wr')) (fun i _=>(intOf i + 2).toNat)
   case atStart=>exact ⟨0,_,_,by omega,rfl,HR0,HB0⟩
   case round=>
    obtain ⟨k,tv,C,hk,rfl,HR,HB⟩:=hrel;clear HR0 HB0 hst hmk;obtain ⟨q0,q1,q2,q3,q4,q5⟩:=KK.out _ HB.out;have cl:wr.cell? ⟨w0.heap.size + 1,256,none⟩=some tv:=by simp [World.cell?,HR.out.blk,HR.out.last]
    obtain ⟨p,cp,rfl,hkc⟩:∃ p cp,tv=.slice p k cp∧k≤cp:=by
     rcases Zp HR.out.row with ⟨h1,h2⟩ | ⟨g2,cap',h,h2,_⟩;·exact ⟨none,0,by rw [h1,h2],by omega⟩
     ·exact ⟨_,_,h,h2⟩
    have hk4:k=0∨k=1∨k=2∨k=3:=by omega
    rcases hk4 with rfl | rfl | rfl | rfl
    ·obtain ⟨v, hC, hv⟩ := HR.out.at' 10 (by omega);have hv' : v = .slice none 0 0 := hv;subst hv';have co : wr.cell? ⟨w0.heap.size + 1, 10, none⟩ = some (.slice none 0 0) := by simp [World.cell?, HR.out.blk, hC]
     have heq:=fun w=>Z5u w none 0 0;have b0:(({ data:=#[10] }:ByteArray)[0]'(by decide)).toNat=10:=rfl;have hcv:=Zae wr 10;have hcv':(convert 67 9 (.slice (some ⟨wr.heap.size,0,none⟩) 1 1)).run Tryz.prog (wr.alloc (.cells #[.int .u8 10] 5))=.ok (.string ⟨#[10]⟩) (wr.alloc (.cells #[.int .u8 10] 5)):=hcv;have hcb:=fun W=>run_bytes_of_string (P:=Tryz.prog) W 9 67 5 ⟨#[92,110]⟩ Yr Tryz.underlying67 Tryz.underlying5
     have hw1:Below wr.heap.size wr ((wr.alloc (.cells #[.int .u8 10] 5)).alloc (.cells #[.string ⟨#[10]⟩] 9)):=((Y8 _ _).alloc (Y5 _) _).alloc (by rw [World.size_alloc]; omega) _;have HW1:=lh hw1;clear hcv hw1
     go_wp2_with (at_builtin; go_must (refine wpList_append_lies _ rfl (.tmp 119) (.tmp 123) 76 rfl w0.heap.size 9 i0 (.string ByteArray.empty) 1 16 Tryz.underlying76 hi hz0 hz1 hz2 rfl (by decide) (.slice p 0 cp) 0 ((Zed.take 0).map Value.string) rfl ((HR.out.row.alloc _).alloc _) ⟨wr.heap.size + 1,0,none⟩ 1 1 [.string ⟨#[10]⟩] rfl rfl ?c1 (by intro u hu; simp at hu; subst hu; rfl) (by first | omega | (simp; omega)) (by unfold maxLen; omega) (by first | omega | (simp; omega)) (by have:=HW1.out.size; have:=HB.out.size; omega) ((wr.alloc (.cells #[.int .u8 10] 5)).alloc (.cells #[.string ⟨#[10]⟩] 9)).heap.size rfl ?_))
     case c1=>
      intro j u hj;match j,hj with
      | 0, hj =>
        simp at hj;subst hj;rw [show (⟨wr.heap.size + 1,0,none⟩:Addr).add 0=⟨(wr.alloc (.cells #[.int .u8 10] 5)).heap.size,0,none⟩ by rw [World.size_alloc]; unfold Addr.add; simp];exact Z7j _ _ _
     intro g2 cp2 w2 hown2 hgrow2 hfr2 hgl2;have hR2:=RepK.more HR.out HB.out.size HW1.out hgrow2 (hfr2.imp id fun e=>by rw [e,World.size_alloc,World.size_alloc]; exact Y5 _);have cl2:w2.cell? ⟨w0.heap.size + 1,256,none⟩=some (.slice p 0 cp):=hR2.1;have cf2:w2.frozen? ⟨w0.heap.size + 1,256,none⟩=false:=hR2.2.1;have co2:w2.cell? ⟨w0.heap.size + 1,10,none⟩=some (.slice none 0 0):=by simp [World.cell?,hR2.2.2.1,hC]
     have cf3:w2.frozen? ⟨w0.heap.size + 1,10,none⟩=false:=Lib.frozen_of_heap hR2.2.2.1 10;have hbl:w0.heap.size + 1 < w2.heap.size:=(Y6.1 hR2.2.2.1).1;have HR2:=lh hR2;have HC:=lh hC;have HO2:=lh hown2;clear hR2 hown2 hgrow2 cl co hfr2 hgl2 hC;go_wp2_with fail
     go_roundw
     case rel=>
      obtain ⟨C',n1,n2⟩:=RepK.next HR.out 10 110 rfl (by omega) (by intro i q e' hi hq; unfold ordR at hq; split at hq <;> (try split at hq) <;> (try split at hq) <;> simp at hq <;> omega) HR2.out.2.2.1 HR2.out.2.2.2.1 HR2.out.2.2.2.2.1 HR2.out.2.2.2.2.2 HO2.out (Ya HB.out.size HR2.out.2.2.2.1.size) _ (grownCap_ge _ _ _ _) _;exact ⟨0 + 1,_,C',by omega,by first | rfl | (congr 1),lh n1,lh (HB.out.trans n2)⟩
     case measure=>decide
    ·obtain ⟨v, hC, hv⟩ := HR.out.at' 39 (by omega);have hv' : v = .slice none 0 0 := hv;subst hv';have co : wr.cell? ⟨w0.heap.size + 1, 39, none⟩ = some (.slice none 0 0) := by simp [World.cell?, HR.out.blk, hC]
     have heq:=fun w=>Z5u w none 0 0;have b0:(({ data:=#[39] }:ByteArray)[0]'(by decide)).toNat=39:=rfl;have hcv:=Zae wr 39;have hcv':(convert 67 9 (.slice (some ⟨wr.heap.size,0,none⟩) 1 1)).run Tryz.prog (wr.alloc (.cells #[.int .u8 39] 5))=.ok (.string ⟨#[39]⟩) (wr.alloc (.cells #[.int .u8 39] 5)):=hcv;have hcb:=fun W=>run_bytes_of_string (P:=Tryz.prog) W 9 67 5 ⟨#[92,39]⟩ Yr Tryz.underlying67 Tryz.underlying5
     have hw1:Below wr.heap.size wr ((wr.alloc (.cells #[.int .u8 39] 5)).alloc (.cells #[.string ⟨#[39]⟩] 9)):=((Y8 _ _).alloc (Y5 _) _).alloc (by rw [World.size_alloc]; omega) _;have HW1:=lh hw1;clear hcv hw1
     go_wp2_with (at_builtin; go_must (refine wpList_append_lies _ rfl (.tmp 119) (.tmp 123) 76 rfl w0.heap.size 9 i0 (.string ByteArray.empty) 1 16 Tryz.underlying76 hi hz0 hz1 hz2 rfl (by decide) (.slice p 1 cp) 1 ((Zed.take 1).map Value.string) rfl ((HR.out.row.alloc _).alloc _) ⟨wr.heap.size + 1,0,none⟩ 1 1 [.string ⟨#[39]⟩] rfl rfl ?c1 (by intro u hu; simp at hu; subst hu; rfl) (by first | omega | (simp; omega)) (by unfold maxLen; omega) (by first | omega | (simp; omega)) (by have:=HW1.out.size; have:=HB.out.size; omega) ((wr.alloc (.cells #[.int .u8 39] 5)).alloc (.cells #[.string ⟨#[39]⟩] 9)).heap.size rfl ?_))
     case c1=>
      intro j u hj;match j,hj with
      | 0, hj =>
        simp at hj;subst hj;rw [show (⟨wr.heap.size + 1,0,none⟩:Addr).add 0=⟨(wr.alloc (.cells #[.int .u8 39] 5)).heap.size,0,none⟩ by rw [World.size_alloc]; unfold Addr.add; simp];exact Z7j _ _ _
     intro g2 cp2 w2 hown2 hgrow2 hfr2 hgl2;have hR2:=RepK.more HR.out HB.out.size HW1.out hgrow2 (hfr2.imp id fun e=>by rw [e,World.size_alloc,World.size_alloc]; exact Y5 _);have cl2:w2.cell? ⟨w0.heap.size + 1,256,none⟩=some (.slice p 1 cp):=hR2.1;have cf2:w2.frozen? ⟨w0.heap.size + 1,256,none⟩=false:=hR2.2.1;have co2:w2.cell? ⟨w0.heap.size + 1,39,none⟩=some (.slice none 0 0):=by simp [World.cell?,hR2.2.2.1,hC]
     have cf3:w2.frozen? ⟨w0.heap.size + 1,39,none⟩=false:=Lib.frozen_of_heap hR2.2.2.1 39;have hbl:w0.heap.size + 1 < w2.heap.size:=(Y6.1 hR2.2.2.1).1;have HR2:=lh hR2;have HC:=lh hC;have HO2:=lh hown2;clear hR2 hown2 hgrow2 cl co hfr2 hgl2 hC;go_wp2_with fail
     go_roundw
     case rel=>
      obtain ⟨C',n1,n2⟩:=RepK.next HR.out 39 39 rfl (by omega) (by intro i q e' hi hq; unfold ordR at hq; split at hq <;> (try split at hq) <;> (try split at hq) <;> simp at hq <;> omega) HR2.out.2.2.1 HR2.out.2.2.2.1 HR2.out.2.2.2.2.1 HR2.out.2.2.2.2.2 HO2.out (Ya HB.out.size HR2.out.2.2.2.1.size) _ (grownCap_ge _ _ _ _) _;exact ⟨1 + 1,_,C',by omega,by first | rfl | (congr 1),lh n1,lh (HB.out.trans n2)⟩
     case measure=>decide
    ·obtain ⟨v, hC, hv⟩ := HR.out.at' 92 (by omega);have hv' : v = .slice none 0 0 := hv;subst hv';have co : wr.cell? ⟨w0.heap.size + 1, 92, none⟩ = some (.slice none 0 0) := by simp [World.cell?, HR.out.blk, hC]
     have heq:=fun w=>Z5u w none 0 0;have b0:(({ data:=#[92] }:ByteArray)[0]'(by decide)).toNat=92:=rfl;have hcv:=Zae wr 92;have hcv':(convert 67 9 (.slice (some ⟨wr.heap.size,0,none⟩) 1 1)).run Tryz.prog (wr.alloc (.cells #[.int .u8 92] 5))=.ok (.string ⟨#[92]⟩) (wr.alloc (.cells #[.int .u8 92] 5)):=hcv;have hcb:=fun W=>run_bytes_of_string (P:=Tryz.prog) W 9 67 5 ⟨#[92,92]⟩ Yr Tryz.underlying67 Tryz.underlying5
     have hw1:Below wr.heap.size wr ((wr.alloc (.cells #[.int .u8 92] 5)).alloc (.cells #[.string ⟨#[92]⟩] 9)):=((Y8 _ _).alloc (Y5 _) _).alloc (by rw [World.size_alloc]; omega) _;have HW1:=lh hw1;clear hcv hw1
     go_wp2_with (at_builtin; go_must (refine wpList_append_lies _ rfl (.tmp 119) (.tmp 123) 76 rfl w0.heap.size 9 i0 (.string ByteArray.empty) 1 16 Tryz.underlying76 hi hz0 hz1 hz2 rfl (by decide) (.slice p 2 cp) 2 ((Zed.take 2).map Value.string) rfl ((HR.out.row.alloc _).alloc _) ⟨wr.heap.size + 1,0,none⟩ 1 1 [.string ⟨#[92]⟩] rfl rfl ?c1 (by intro u hu; simp at hu; subst hu; rfl) (by first | omega | (simp; omega)) (by unfold maxLen; omega) (by first | omega | (simp; omega)) (by have:=HW1.out.size; have:=HB.out.size; omega) ((wr.alloc (.cells #[.int .u8 92] 5)).alloc (.cells #[.string ⟨#[92]⟩] 9)).heap.size rfl ?_))
     case c1=>
      intro j u hj;match j,hj with
      | 0, hj =>
        simp at hj;subst hj;rw [show (⟨wr.heap.size + 1,0,none⟩:Addr).add 0=⟨(wr.alloc (.cells #[.int .u8 92] 5)).heap.size,0,none⟩ by rw [World.size_alloc]; unfold Addr.add; simp];exact Z7j _ _ _
     intro g2 cp2 w2 hown2 hgrow2 hfr2 hgl2;have hR2:=RepK.more HR.out HB.out.size HW1.out hgrow2 (hfr2.imp id fun e=>by rw [e,World.size_alloc,World.size_alloc]; exact Y5 _);have cl2:w2.cell? ⟨w0.heap.size + 1,256,none⟩=some (.slice p 2 cp):=hR2.1;have cf2:w2.frozen? ⟨w0.heap.size + 1,256,none⟩=false:=hR2.2.1;have co2:w2.cell? ⟨w0.heap.size + 1,92,none⟩=some (.slice none 0 0):=by simp [World.cell?,hR2.2.2.1,hC]
     have cf3:w2.frozen? ⟨w0.heap.size + 1,92,none⟩=false:=Lib.frozen_of_heap hR2.2.2.1 92;have hbl:w0.heap.size + 1 < w2.heap.size:=(Y6.1 hR2.2.2.1).1;have HR2:=lh hR2;have HC:=lh hC;have HO2:=lh hown2;clear hR2 hown2 hgrow2 cl co hfr2 hgl2 hC;go_wp2_with fail
     go_roundw
     case rel=>
      obtain ⟨C',n1,n2⟩:=RepK.next HR.out 92 92 rfl (by omega) (by intro i q e' hi hq; unfold ordR at hq; split at hq <;> (try split at hq) <;> (try split at hq) <;> simp at hq <;> omega) HR2.out.2.2.1 HR2.out.2.2.2.1 HR2.out.2.2.2.2.1 HR2.out.2.2.2.2.2 HO2.out (Ya HB.out.size HR2.out.2.2.2.1.size) _ (grownCap_ge _ _ _ _) _;exact ⟨2 + 1,_,C',by omega,by first | rfl | (congr 1),lh n1,lh (HB.out.trans n2)⟩
     case measure=>decide
    ·go_wp2_with fail
     go_ret;exact ⟨w0.heap.size + 1,_,C,rfl,HR.out,HB.out⟩
end Go.Proofs.YtmeiggjboakmpaaGreatDoor
namespace Go.Proofs
set_option maxRecDepth 100000
set_option maxHeartbeats 20000000
set_option linter.unusedVariables false
def Tryz.lays138_ren:Go.Shelf.Ren:=⟨fun | 138=>223 | 195=>224 | 218=>225 | 143=>226 | 219=>227 | 217=>71 | 225=>228 | 224=>229 | 267=>230 | 266=>99 | 314=>231 | n=>n,fun | 9=>9 | 3=>3 | 4=>4 | 5=>5 | 0=>0 | 46=>150 | 146=>277 | 51=>170 | n=>n,fun | 1=>8 | n=>n⟩
theorem Tryz.lays138:Go.Proofs.Lays.n138 Tryz.prog Tryz.lays138_ren:={
 mixed:=by kernel_rfl
 f138:=Tryz.func223.trans (congrArg some (by kernel_rfl))
 f143:=Tryz.func226.trans (congrArg some (by kernel_rfl))
 f195:=Tryz.func224.trans (congrArg some (by kernel_rfl))
 f217:=Tryz.func71.trans (congrArg some (by kernel_rfl))
 f218:=Tryz.func225.trans (congrArg some (by kernel_rfl))
 f219:=Tryz.func227.trans (congrArg some (by kernel_rfl))
 f224:=Tryz.func229.trans (congrArg some (by kernel_rfl))
 f225:=Tryz.func228.trans (congrArg some (by kernel_rfl))
 f266:=Tryz.func99.trans (congrArg some (by kernel_rfl))
 f267:=Tryz.func230.trans (congrArg some (by kernel_rfl))
 f314:=Tryz.func231.trans (congrArg some (by kernel_rfl))
 t0:=Tryz.underlying0
 a0:=Tryz.isAgg0
 z0:=Tryz.sizeOf0
 v0:=Tryz.zeroValue0
 t3:=Tryz.underlying3
 a3:=Tryz.isAgg3
 z3:=Tryz.sizeOf3
 v3:=Tryz.zeroValue3
 t4:=Tryz.underlying4
 a4:=Tryz.isAgg4
 z4:=Tryz.sizeOf4
 v4:=Tryz.zeroValue4
 t5:=Tryz.underlying5
 a5:=Tryz.isAgg5
 z5:=Tryz.sizeOf5
 v5:=Tryz.zeroValue5
 t9:=Tryz.underlying9
 a9:=Tryz.isAgg9
 z9:=Tryz.sizeOf9
 v9:=Tryz.zeroValue9
 t46:=Tryz.underlying150
 a46:=Tryz.isAgg150
 z46:=Tryz.sizeOf150
 v46:=Tryz.zeroValue150
 t51:=Tryz.underlying170
 a51:=Tryz.isAgg170
 z51:=Tryz.sizeOf170
 v51:=Tryz.zeroValue170
 t146:=Tryz.underlying277
 a146:=Tryz.isAgg277
 z146:=Tryz.sizeOf277
 v146:=Tryz.zeroValue277
 g1:=by kernel_rfl }
open Go.RowKit Go.Lib in
theorem Tryz.strings_Count_one (s:ByteArray) (c:UInt8) (w:World) :
 Calls Tryz.prog 223 #[.string s,.string ⟨#[c]⟩] w fun e w'=>e=.returned (.int .i64 (Lib.countByte s.data.toList c))∧w'=w:=Any.strings_Count_one Tryz.lays138 s c w
end Go.Proofs
namespace Go.Proofs.YtmeiggjboakmpaaGreatDoor
open Go Go.RowKit
set_option maxRecDepth 100000
set_option maxHeartbeats 20000000
set_option linter.unusedVariables false
def isE (c:UInt8):Bool:=c == 10 || c == 39 || c == 92
def nsp (l:List UInt8):Nat:=l.countP isE
theorem Z83 (c:UInt8):(escB c).length=1 + (if isE c then 1 else 0)∧(isE c=false→escB c=[c]):=by
 unfold escB isE;by_cases h1:c=92;·subst h1; exact ⟨rfl,fun h=>by cases h⟩
 by_cases h2:c=39;·subst h2; exact ⟨rfl,fun h=>by cases h⟩
 by_cases h3:c=10;·subst h3; exact ⟨rfl,fun h=>by cases h⟩
 rw [Y9 h1,Y9 h2,Y9 h3];refine ⟨?_,fun _=>rfl⟩;simp [h1,h2,h3]
theorem Zcx (l:List UInt8):(l.flatMap escB).length=l.length + nsp l:=by
 induction l with
 | nil=>rfl
 | cons c l ih =>
   rw [List.flatMap_cons,Yq,ih,(Z83 c).1];unfold nsp;rw [List.countP_cons,List.length_cons];omega
theorem Zde {l:List UInt8} (h:nsp l=0):l.flatMap escB=l:=by
 induction l with
 | nil=>rfl
 | cons c l ih =>
   unfold nsp at h;rw [List.countP_cons] at h;have hc:isE c=false:=by
    cases hc:isE c with
    | false=>rfl
    | true=>rw [hc] at h; simp at h
   rw [List.flatMap_cons,(Z83 c).2 hc,ih (by unfold nsp; omega)];rfl
theorem Zfp (l:List UInt8):nsp l=l.count 10 + l.count 39 + l.count 92:=by
 induction l with
 | nil=>rfl
 | cons c l ih =>
   unfold nsp at ih ⊢;rw [List.countP_cons,ih,List.count_cons,List.count_cons,List.count_cons];unfold isE;by_cases h1:c=92;·subst h1; simp; omega
   by_cases h2:c=39;·subst h2; simp; omega
   by_cases h3:c=10;·subst h3; simp; omega
   simp [h1,h2,h3]
theorem Zi6 {l:List UInt8} {k:Nat} {c:UInt8} (h:l[k]?=some c):nsp (l.take (k + 1))=nsp (l.take k) + (if isE c then 1 else 0):=by
 rw [List.take_add_one,h];unfold nsp;rw [List.countP_append];simp [List.countP_cons]
theorem Zbv {l:List UInt8} {k:Nat} {c:UInt8} (h:l[k]?=some c):(l.take (k + 1)).flatMap escB=(l.take k).flatMap escB ++ escB c:=by
 rw [List.take_add_one,h];simp
theorem Zl7 {B bb:Nat} {w:World} {v:Value} (c:UInt8) (h:Z5y B bb 3 w c.toNat v):(isE c=false∧v=.slice none 0 0) ∨
 ∃ e g cap,isE c=true∧escB c=[92,e]∧v=.slice (some ⟨g,0,none⟩) 2 cap∧2≤cap∧g < w.heap.size∧w.cell? ⟨g,0,none⟩=some (.int .u8 92)∧w.cell? ⟨g,1,none⟩=some (.int .u8 e.toNat):=by
 have key:∀ (q:Nat) (e:UInt8),ordR c.toNat=some (q,e)→q < 3→isE c=true→escB c=[92,e]→∃ e g cap,isE c=true∧escB c=[92,e]∧v=.slice (some ⟨g,0,none⟩) 2 cap∧2≤cap∧g < w.heap.size∧w.cell? ⟨g,0,none⟩=some (.int .u8 92)∧w.cell? ⟨g,1,none⟩=some (.int .u8 e.toNat):=by
  intro q e h1 h2 h3 h4;unfold Z5y at h;rw [h1] at h;simp only at h;rw [Yb h2] at h;obtain ⟨g,cap,g1,g2,g3,g4,⟨cs,fz,g5⟩,g6,g7⟩:=h;exact ⟨e,g,cap,h3,h4,g1,g2,(Y6.1 g5).1,g6,g7⟩
 by_cases h1:c=92;·subst h1; exact .inr (key 2 92 rfl (by omega) rfl rfl)
 by_cases h2:c=39;·subst h2; exact .inr (key 1 39 rfl (by omega) rfl rfl)
 by_cases h3:c=10;·subst h3; exact .inr (key 0 110 rfl (by omega) rfl rfl)
 have ne:∀ k:UInt8,c≠k→c.toNat≠k.toNat:=fun k hk e=>hk (UInt8.toNat_inj.1 e);have n1:c.toNat≠92:=ne 92 h1;have n2:c.toNat≠39:=ne 39 h2;have n3:c.toNat≠10:=ne 10 h3;refine .inl ⟨by unfold isE; simp [h1,h2,h3],?_⟩;unfold Z5y ordR at h;rw [Y9 n3,Y9 n2,Y9 n1] at h;exact h
theorem row_one {Cb:Array Value} {F:List UInt8} {J:Nat} (h:Cb.toList.take J=Lib.byteCells F) (hJ:J < Cb.size) (hF:J=F.length) (c:UInt8):(Cb.setIfInBounds J (.int .u8 c.toNat)).toList.take (J + 1)=Lib.byteCells (F ++ [c]):=by
 rw [Array.toList_setIfInBounds,Lib.byteCells_append,← h,List.take_add_one,List.take_set_of_le (Y5 _)];congr 1
 simp [hJ,Lib.byteCells]
theorem Zgs {Cb:Array Value} {F:List UInt8} {J:Nat} (h:Cb.toList.take J=Lib.byteCells F) (hJ:J + 2≤Cb.size) (a b:UInt8) :
 ((Cb.toList.take J ++ ([Value.int .u8 a.toNat,Value.int .u8 b.toNat] ++ Cb.toList.drop (J + 2))).toArray).toList.take (J + 2)=Lib.byteCells (F ++ [a,b])∧((Cb.toList.take J ++ ([Value.int .u8 a.toNat,Value.int .u8 b.toNat] ++ Cb.toList.drop (J + 2))).toArray).size=Cb.size:=by
 have hl:(Cb.toList.take J).length=J:=by simp; omega
 refine ⟨?_,?_⟩
 ·rw [Lib.byteCells_append,← h];show List.take (J + 2) (Cb.toList.take J ++ _)=_;rw [List.take_append,hl,Ym (by omega)];simp [Lib.byteCells]
 ·simp; omega
theorem Z8o {w:World} {g:Nat} {cs:Array Value} {t:TypeId} {f:Nat×Nat} (h:w.heap[g]?=some (.cells cs t f)) (R:Array Value):(w.setRow g R).heap[g]?=some (.cells R t f):=by
 simp [World.setRow,Array.getElem?_modify,h]
theorem Zi8 {B bb:Nat} {tv:Value} {C:Array Value} (w:World) (s:ByteArray) (h:RepK B bb 3 tv C w) (hs:s.size≤1000000) :
 Calls Tryz.prog 221 #[.pointer (some ⟨bb,0,none⟩),.string s] w fun e w'=>e=.returned (.string ⟨(s.data.toList.flatMap escB).toArray⟩)∧Below w.heap.size w w':=by
 obtain ⟨l,hl⟩:=zX s.data.toList
 have hsz:s.size=l.length:=by rw [hl]; simp
 have hget:∀ k c,l[k]?=some c→∃ hk:k < s.size,s[k]=c:=by
  intro k c hc;have hk:k < l.length:=(List.getElem?_eq_some_iff.1 hc).1;refine ⟨by omega,?_⟩;subst hl;rw [Yd hk] at hc;exact Yk hc
 obtain ⟨g,cp,rfl,hcp⟩:∃ g cp,tv=.slice (some ⟨g,0,none⟩) 3 cp∧3≤cp:=by
  rcases Zp h.row with ⟨_,h2⟩ | ⟨g,cap,h1,h2,_⟩;·cases h2
  ·exact ⟨g,cap,h1,h2⟩
 have c256:w.cell? ⟨bb,256,none⟩=some (.slice (some ⟨g,0,none⟩) 3 cp):=by simp [World.cell?,h.blk,h.last]
 have k0:=Z9j h.row (g:=g) rfl (i:=0) (x:=.string ⟨#[10]⟩) rfl;have k1:=Z9j h.row (g:=g) rfl (i:=1) (x:=.string ⟨#[39]⟩) rfl;have k2:=Z9j h.row (g:=g) rfl (i:=2) (x:=.string ⟨#[92]⟩) rfl;have hbl:bb < w.heap.size:=(Y6.1 h.blk).1;have hgl:=(Yh h.row g rfl).2
 have SL:Hid (∀ c:UInt8,∃ v,w.cell? ⟨bb,c.toNat,none⟩=some v∧((isE c=false∧v=.slice none 0 0) ∨
  ∃ e g cap,isE c=true∧escB c=[92,e]∧v=.slice (some ⟨g,0,none⟩) 2 cap∧2≤cap∧g < w.heap.size∧w.cell? ⟨g,0,none⟩=some (.int .u8 92)∧w.cell? ⟨g,1,none⟩=some (.int .u8 e.toNat))):=lh fun c=>by
  obtain ⟨v,h1,h2⟩:=h.at' c.toNat (by have:=c.toNat_lt; omega);exact ⟨v,by simp [World.cell?,h.blk,h1],Zl7 c h2⟩
 have HL:=lh hl;have HG:=lh hget;have hneq:=Zai;have HN:=lh hsz;have hc1:=Tryz.strings_Count_one s 10;have hc2:=Tryz.strings_Count_one s 39;have hc3:=Tryz.strings_Count_one s 92;rw [← hl] at hc1 hc2 hc3 ⊢;unfold Lib.countByte at hc1 hc2 hc3;have HC1:=lh hc1;have HC2:=lh hc2;have HC3:=lh hc3;have KK:Hid (∀ w',Below w.heap.size w w'→w'.cell? ⟨g,0,none⟩=some (.string ⟨#[10]⟩)∧w'.cell? ⟨g,1,none⟩=some (.string ⟨#[39]⟩)∧w'.cell? ⟨g,2,none⟩=some (.string ⟨#[92]⟩)∧w'.cell? ⟨bb,256,none⟩=some (.slice (some ⟨g,0,none⟩) 3 cp)):=
  lh fun w' h=>⟨(Yj (h.block g hgl)).trans k0,(Yj (h.block g hgl)).trans k1,(Yj (h.block g hgl)).trans k2,(Yj (h.block bb hbl)).trans c256⟩
 have ST:Hid (∀ c:UInt8,isE c=true→∃ g cap,∀ w',Below w.heap.size w w'→w'.cell? ⟨bb,c.toNat,none⟩=some (.slice (some ⟨g,0,none⟩) 2 cap)):=lh fun c hc=>by
  obtain ⟨v,h1,h2⟩:=SL.out c;rcases h2 with ⟨h2,_⟩ | ⟨e,g,cap,_,_,h3,_⟩;·rw [hc] at h2; cases h2
  ·exact ⟨g,cap,fun w' hw=>by rw [← h3]; exact (Yj (hw.block bb hbl)).trans h1⟩
 obtain ⟨n,hn⟩:=zX s.size
 have HZ:=lh hn;have HH:=lh h;clear h hl hget hc1 hc2 hc3;by_cases h24:24≤s.size
 ·have hb24 : (24 : Int) ≤ (s.size : Int) := by omega
  obtain ⟨g1,cap1,t1⟩:=ST.out 10 rfl;obtain ⟨g2,cap2,t2⟩:=ST.out 39 rfl;obtain ⟨g3,cap3,t3⟩:=ST.out 92 rfl;have T1:=lh t1;have T2:=lh t2;have T3:=lh t3;obtain ⟨c1,hc1⟩:=zX (l.count 10)
  obtain ⟨c2,hc2⟩:=zX (l.count 39)
  obtain ⟨c3,hc3⟩:=zX (l.count 92)
  rw [← hc1] at HC1;rw [← hc2] at HC2;rw [← hc3] at HC3;have b1:c1≤l.length:=by rw [hc1]; exact List.count_le_length
  have b2:c2≤l.length:=by rw [hc2]; exact List.count_le_length
  have b3:c3≤l.length:=by rw [hc3]; exact List.count_le_length
  obtain ⟨tt,htt⟩:∃ tt:Nat→Nat,tt=fun k=>if k=0 then 0 else if k=1 then c1 else if k=2 then c1 + c2 else c1 + c2 + c3:=⟨_,rfl⟩
  have e0:tt 0=0:=by rw [htt]; rfl
  have e1:tt 1=c1:=by rw [htt]; rfl
  have e2:tt 2=c1 + c2:=by rw [htt]; rfl
  have e3:tt 3=c1 + c2 + c3:=by rw [htt]; rfl
  have hsp:tt 3=nsp l:=by rw [Zfp,e3,hc1,hc2,hc3]
  have HSP:=lh hsp;have E0:=lh e0;have E1:=lh e1;have E2:=lh e2;have E3:=lh e3;have hlz:l.length≤1000000:=by omega
  clear hn t1 t2 t3 hc1 hc2 hc3 htt hsp hsz e0 e1 e2 e3;go_enter Tryz.func221,Tryz.ntmps221
  go_wp2_with fail
  go_loopw [5,6,32] (fun ns ch i wr=>∃ k:Nat,k≤3∧i=.int .i64 k∧ns=.int .i64 ((s.size:Int) + (tt k:Nat))∧ch=.bool (decide (tt k≠0))∧Hid (Below w.heap.size w wr)) (fun _ _ i _=>3 - (intOf i).toNat)
  case atStart=>exact ⟨0,by omega,rfl,by rw [E0.out]; simp,by rw [E0.out]; rfl,lh (Y8 _ _)⟩
  case round=>
   obtain ⟨k,hk,rfl,rfl,rfl,HB⟩:=hrel;obtain ⟨q0,q1,q2,q3⟩:=KK.out _ HB.out;have hk4:k=0∨k=1∨k=2∨k=3:=by omega
   rcases hk4 with rfl | rfl | rfl | rfl
   ·obtain ⟨m, hm⟩ := zX (tt 0)
    have hmb:m≤3000000:=by have:=E0.out; have:=E1.out; have:=E2.out; omega
    have hm2:tt 1=m + c1:=by have:=E0.out; have:=E1.out; have:=E2.out; have:=E3.out; omega
    rw [← hm];have HM2:=lh hm2;have tz:=T1.out _ HB.out;have bz:(({ data:=#[10] }:ByteArray)[0]'(by decide)).toNat=10:=rfl;have hz3:s.size≤1000000:=hs;clear hm hm2;by_cases hc:c1=0
    ·have hcb : ((c1 : Int) != 0) = false := by simp [hc]
     go_wp2_with fail
     refine (HC1.out _).mono ?_;rintro e w' ⟨rfl,rfl⟩;go_wp2_with fail
     go_roundw
     case rel=>exact ⟨1,by omega,rfl,by rw [HM2.out,hc]; simp,by rw [HM2.out,hc]; simp,HB⟩
     case measure=>decide
    ·have hcb : ((c1 : Int) != 0) = true := by simp; omega
     go_wp2_with fail
     refine (HC1.out _).mono ?_;rintro e w' ⟨rfl,rfl⟩;go_wp2_with fail
     refine Zf [0,2,4,6,8,10,12,14,16,18,20,22] [12,13] (fun W=>W.cell? ⟨bb,10,none⟩=some (.slice (some ⟨g1,0,none⟩) 2 cap1)) tz fun _=>?_;simp only [Zh,pD,zD,zE,zF,zG,zH,zI,zJ,zK]
     iterate 12
      first | refine Za _ ?_ | refine Zb ?_
      simp only [Act.put,zA,zB,zC]
     refine Z6 ?_;go_wp2_with fail
     go_roundw
     case rel=>exact ⟨1,by omega,rfl,by rw [HM2.out]; congr 1; omega,by rw [HM2.out]; congr 1; exact (decide_eq_true (by omega)).symm,lh HB.out.drew⟩
     case measure=>decide
   ·obtain ⟨m, hm⟩ := zX (tt 1)
    have hmb:m≤3000000:=by have:=E0.out; have:=E1.out; have:=E2.out; omega
    have hm2:tt 2=m + c2:=by have:=E0.out; have:=E1.out; have:=E2.out; have:=E3.out; omega
    rw [← hm];have HM2:=lh hm2;have tz:=T2.out _ HB.out;have bz:(({ data:=#[39] }:ByteArray)[0]'(by decide)).toNat=39:=rfl;have hz3:s.size≤1000000:=hs;clear hm hm2;by_cases hc:c2=0
    ·have hcb : ((c2 : Int) != 0) = false := by simp [hc]
     go_wp2_with fail
     refine (HC2.out _).mono ?_;rintro e w' ⟨rfl,rfl⟩;go_wp2_with fail
     go_roundw
     case rel=>exact ⟨2,by omega,rfl,by rw [HM2.out,hc]; simp,by rw [HM2.out,hc]; simp,HB⟩
     case measure=>decide
    ·have hcb : ((c2 : Int) != 0) = true := by simp; omega
     go_wp2_with fail
     refine (HC2.out _).mono ?_;rintro e w' ⟨rfl,rfl⟩;go_wp2_with fail
     refine Zf [0,2,4,6,8,10,12,14,16,18,20,22] [12,13] (fun W=>W.cell? ⟨bb,39,none⟩=some (.slice (some ⟨g2,0,none⟩) 2 cap2)) tz fun _=>?_;simp only [Zh,pD,zD,zE,zF,zG,zH,zI,zJ,zK]
     iterate 12
      first | refine Za _ ?_ | refine Zb ?_
      simp only [Act.put,zA,zB,zC]
     refine Z6 ?_;go_wp2_with fail
     go_roundw
     case rel=>exact ⟨2,by omega,rfl,by rw [HM2.out]; congr 1; omega,by rw [HM2.out]; congr 1; exact (decide_eq_true (by omega)).symm,lh HB.out.drew⟩
     case measure=>decide
   ·obtain ⟨m, hm⟩ := zX (tt 2)
    have hmb:m≤3000000:=by have:=E0.out; have:=E1.out; have:=E2.out; omega
    have hm2:tt 3=m + c3:=by have:=E0.out; have:=E1.out; have:=E2.out; have:=E3.out; omega
    rw [← hm];have HM2:=lh hm2;have tz:=T3.out _ HB.out;have bz:(({ data:=#[92] }:ByteArray)[0]'(by decide)).toNat=92:=rfl;have hz3:s.size≤1000000:=hs;clear hm hm2;by_cases hc:c3=0
    ·have hcb : ((c3 : Int) != 0) = false := by simp [hc]
     go_wp2_with fail
     refine (HC3.out _).mono ?_;rintro e w' ⟨rfl,rfl⟩;go_wp2_with fail
     go_roundw
     case rel=>exact ⟨3,by omega,rfl,by rw [HM2.out,hc]; simp,by rw [HM2.out,hc]; simp,HB⟩
     case measure=>decide
    ·have hcb : ((c3 : Int) != 0) = true := by simp; omega
     go_wp2_with fail
     refine (HC3.out _).mono ?_;rintro e w' ⟨rfl,rfl⟩;go_wp2_with fail
     refine Zf [0,2,4,6,8,10,12,14,16,18,20,22] [12,13] (fun W=>W.cell? ⟨bb,92,none⟩=some (.slice (some ⟨g3,0,none⟩) 2 cap3)) tz fun _=>?_;simp only [Zh,pD,zD,zE,zF,zG,zH,zI,zJ,zK]
     iterate 12
      first | refine Za _ ?_ | refine Zb ?_
      simp only [Act.put,zA,zB,zC]
     refine Z6 ?_;go_wp2_with fail
     go_roundw
     case rel=>exact ⟨3,by omega,rfl,by rw [HM2.out]; congr 1; omega,by rw [HM2.out]; congr 1; exact (decide_eq_true (by omega)).symm,lh HB.out.drew⟩
     case measure=>decide
   ·obtain ⟨q, hq⟩ := zX (tt 3)
    rw [← hq] at HSP ⊢;have HQ:=HSP;have hqb:q≤3000000:=by have:=E3.out; omega
    clear hq E3 q0 q1 q2 q3 T1 T2 T3 HC1 HC2 HC3 b1 b2 b3;obtain ⟨wa,hwa⟩:=zX wr
    subst hwa;by_cases hq0:q=0
    ·have hd : decide (q ≠ 0) = false := by simp [hq0]
     rw [hd];go_wp2_with fail
     go_ret;exact ⟨by rw [Zde (by rw [← HQ.out]; exact hq0),HL.out]; rfl,HB.out⟩
    have hd:decide (q≠0)=true:=by simp [hq0]
    obtain ⟨N,hN⟩:=zX (s.size + q)
    rw [hd,show ((s.size:Int) + (q:Nat))=((N:Nat):Int) by omega];have hfl:(l.flatMap escB).length=N:=by rw [Zcx,hN,HQ.out,HN.out]
    have hNb:N≤2000000:=by
     have h1:nsp l≤l.length:=List.countP_le_length;have:=HQ.out; have:=HN.out; omega
    have HFL:=lh hfl;obtain ⟨i0,hi,hz0,hz1,hz2⟩:=info_parts Tryz.infoU8;have hmk0:=run_makeSlice (P:=Tryz.prog) wa 67 5 i0 (.int .u8 0) Tryz.underlying67 hi hz0 .i64 .i64 (N:Int) (N:Int) (by omega) (Int.le_refl _) (by rw [hz1,Int.toNat_natCast]; omega) (by rw [hz2]; omega) (by omega);rw [Int.toNat_natCast,hz1,Nat.mul_one] at hmk0;have hmk:=hmk0;clear hmk0;obtain ⟨M,hM⟩:=zX (madeCells (Value.int .u8 0).cells N)
    rw [← hM] at hmk;have hMs:M.size=N:=by rw [hM]; exact size_madeCells _ _
    have HMS:=lh hMs;clear hM hMs hd hq0 hN hfl;have hnew:(wa.alloc (.cells M 5)).heap[wa.heap.size]?=some (.cells M 5 (0,0)):=(Go.MapKept.heap_alloc wa _).1;have HNEW:=lh hnew;have HBN:=lh ((Y8 wa.heap.size wa).alloc (Y5 _) (.cells M 5));obtain ⟨bz,hbz⟩:=zX wa.heap.size
    have hbz2:=lh hbz;rw [← hbz] at hmk HNEW HBN;clear hnew hbz;go_wp2_with fail
    go_loopw [13,14] (fun j i wx=>∃ (k:Nat) (Cb:Array Value),k≤s.size∧i=.int .i64 k∧j=.int .i64 (((l.take k).flatMap escB).length:Nat)∧Hid (wx.heap[bz]?=some (.cells Cb 5 (0,0)))∧Hid (Cb.size=N)∧Hid (Cb.toList.take ((l.take k).flatMap escB).length=Lib.byteCells ((l.take k).flatMap escB))∧Hid (Below bz wa wx)) (fun _ i _=>s.size - (intOf i).toNat)
    case atStart=>exact ⟨0,M,by omega,rfl,by simp,HNEW,HMS,lh (by simp [Lib.byteCells]),HBN⟩
    case round=>
     obtain ⟨k,Cb,hk,rfl,rfl,HCb,HSZ,HTK,HBx⟩:=hrel;clear HNEW HBN hmk;by_cases hkn:k < s.size
     ·obtain ⟨c, hc⟩ : ∃ c, l[k]? = some c := ⟨_, Yd (by rw [← HN.out]; exact hkn)⟩
      obtain ⟨hk2,hsk⟩:=HG.out k c hc;obtain ⟨v,hv,hcase⟩:=SL.out c;have hbzw:w.heap.size≤bz:=by have:=HB.out.size; have:=hbz2.out; omega
      have hvx:wr.cell? ⟨bb,c.toNat,none⟩=some v:=(Yj ((HBx.out.block bb (by omega)).trans (HB.out.block bb hbl))).trans hv;have hclt:=c.toNat_lt;have hix:(s[k]'hk2).toNat=c.toNat:=by rw [hsk]
      have hft:=Zbv hc;obtain ⟨J,hJ⟩:=zX (((l.take k).flatMap escB).length)
      have hJ2:((l.take (k + 1)).flatMap escB).length=J + (escB c).length:=by rw [hft,Yq,← hJ]
      have hJN:J + (escB c).length≤N:=by
       rw [← hJ2,← HFL.out];have:l.flatMap escB=(l.take (k + 1)).flatMap escB ++ (l.drop (k + 1)).flatMap escB:=by rw [← List.flatMap_append,List.take_append_drop]
       rw [this,Yq]; omega
      have HJJ:=lh hJ;rw [← hJ] at HTK ⊢;have HJ2:=lh hJ2;have HFT:=lh hft;have hfr:∀ q,wr.frozen? ⟨bz,q,none⟩=false:=fun q=>Lib.frozen_of_heap HCb.out q;have hcs:∀ q,q < N→(wr.cell? ⟨bz,q,none⟩).isSome=true:=fun q hq=>by
       simp [World.cell?,HCb.out];have:=HSZ.out;omega
      have e1:=(Z83 c).1;rcases hcase with ⟨hE,rfl⟩ | ⟨e,g9,cap9,hE,hes,rfl,hc9,hg9,x0,x1⟩
      ·rw [hE] at e1;obtain ⟨u, hu⟩ := Option.isSome_iff_exists.1 (hcs J (by simp at e1; omega));have hf := hfr J;clear hft hJ hJ2 hfr hcs hsk;go_wp2_with fail
       go_roundw
       case rel=>
        have hfe:=(Z83 c).2 hE;refine ⟨k + 1,Cb.setIfInBounds J (.int .u8 c.toNat),by omega,rfl,?_,lh (Z5r HCb.out J _),lh (by rw [Array.size_setIfInBounds]; exact HSZ.out),lh ?_,lh (HBx.out.setCell (Y5 _) _)⟩;·rw [HJ2.out,hfe]; rfl
        ·rw [HJ2.out,HFT.out,hfe];exact row_one HTK.out (by have:=HSZ.out; rw [hfe] at hJN; simp at hJN; omega) HJJ.out c
       case measure=>simp [intOf]; omega
      ·rw [hes] at hJN;simp only [List.length_cons, List.length_nil] at hJN;have y0 : wr.cell? ⟨g9, 0, none⟩ = some (.int .u8 92) := (Yj ((HBx.out.block g9 (by omega)).trans (HB.out.block g9 hg9))).trans x0;have y1 : wr.cell? ⟨g9, 1, none⟩ = some (.int .u8 e.toNat) := (Yj ((HBx.out.block g9 (by omega)).trans (HB.out.block g9 hg9))).trans x1;have hcI : ((c.toNat : Nat) : Int) < 256 := by omega
       have hcJ:(0:Int)≤((c.toNat:Nat):Int):=by omega
       have hJI:((J:Nat):Int)≤(N:Int):=by omega
       have hJK:(0:Int)≤((J:Nat):Int):=by omega
       have hNJ:(N=J)=False:=by simp; omega
       have hcopy0:=run_copy_row (P:=Tryz.prog) wr.drew 67 67 3 5 bz J (N - J) (N - J) ⟨g9,0,none⟩ 2 cap9 Cb 5 [.int .u8 92,.int .u8 e.toNat] Tryz.underlying67 (by kernel_rfl) HCb.out
        (by show 2 = Nat.min 2 (N - J); exact (Nat.min_eq_left (by omega)).symm) (fun j v hj => by
         rw [show (⟨g9,0,none⟩:Addr).add j=⟨g9,j,none⟩ by unfold Addr.add; split <;> simp_all];match j,hj with
         | 0,hj=>simp at hj; subst hj; exact y0
         | 1,hj=>simp at hj; subst hj; exact y1) (by have:=HSZ.out; simp; omega) (by intro v hv; simp at hv; rcases hv with rfl | rfl <;> rfl)
       obtain ⟨R,hR⟩:=zX ((Cb.toList.take J ++ [Value.int .u8 92,Value.int .u8 e.toNat] ++ Cb.toList.drop (J + 2)).toArray)
       have hcopy:(Builtin.copy_ #[67,67] 3 #[.slice (some ⟨bz,J,none⟩) (N - J) (N - J),.slice (some ⟨g9,0,none⟩) 2 cap9]).run Tryz.prog wr.drew=.ok (.int .i64 2) (wr.drew.setRow bz R):=by rw [hR]; exact hcopy0
       have hrt:=Zgs HTK.out (by have:=HSZ.out; omega) 92 e;rw [← List.append_assoc] at hrt;have hRT:R.toList.take (J + 2)=Lib.byteCells ((l.take k).flatMap escB ++ [92,e]):=by rw [hR]; exact hrt.1
       have HRT:=lh hRT;have HRS:=lh (show R.size=N by rw [hR]; exact hrt.2.trans HSZ.out);have HES:=lh hes;have HSR:=lh (below_setRow (B:=bz) (Y8 bz wr) (Y5 _) R);clear hft hJ hJ2 hfr hcs hsk x0 x1 hcopy0 hR hrt hRT hes;go_wp2_with fail
       refine Zf [0,2,4,6,8,10,12,14,16,18,21] [11,12] (fun W=>W.cell? ⟨bb,c.toNat,none⟩=some (.slice (some ⟨g9,0,none⟩) 2 cap9)) hvx fun _=>?_;simp only [Zh,pD,zD,zE,zF,zG,zH,zI,zJ,zK]
       iterate 10
        first | refine Za _ ?_ | refine Zb ?_
        simp only [Act.put,zA,zB,zC]
       refine Z5 (fun K hK=>?_);go_simp
       refine hK _ _ ((Yj (setRow_other wr bz bb R (by omega))).trans hvx) ?_;refine Z6 ?_;go_wp2_with fail
       go_roundw
       case rel=>
        have z1:Value.int .i64 ((J:Int) + 2)=.int .i64 (((l.take (k + 1)).flatMap escB).length:Nat):=by rw [HJ2.out,HES.out]; rfl
        have z2:R.toList.take ((l.take (k + 1)).flatMap escB).length=Lib.byteCells ((l.take (k + 1)).flatMap escB):=by
         rw [HJ2.out,HFT.out,HES.out];exact HRT.out
        have z3:Below bz wa (wr.setRow bz R).drew:=HBx.out.trans (HSR.out.drew);have Z1:=lh z2;have Z2:=lh z3;have Z3:=lh (Z8o HCb.out R)
        first
         | exact ⟨k + 1,R,by omega,rfl,z1,Z3,HRS,Z1,Z2⟩
         | ((repeat (apply Exists.intro)); exact ⟨⟨k + 1,R,by omega,rfl,z1,Z3,HRS,Z1,Z2⟩,rfl⟩)
       case measure=>simp [intOf]; omega
     ·have hks : k = s.size := by omega
      subst hks;have htl:l.take s.size=l:=Ym (by rw [HN.out]; exact Y5 _);rw [htl] at HTK ⊢;rw [HFL.out] at HTK ⊢;have hcv0:=run_convert_bytes_back (P:=Tryz.prog) wr 67 9 5 ⟨bz,0,none⟩ N (l.flatMap escB) Tryz.underlying67 Tryz.underlying5 Yr (fun j hj=>by
       rw [show (⟨bz,0,none⟩:Addr).add j=⟨bz,j,none⟩ by unfold Addr.add; split <;> simp_all];have h1:(Cb.toList.take N)[j]?=(Lib.byteCells (l.flatMap escB))[j]?:=by rw [HTK.out]
       have hjN:j < N:=by rw [← HFL.out]; exact hj
       rw [List.getElem?_take,Yb hjN] at h1;simp only [World.cell?,HCb.out];rw [← Array.getElem?_toList,h1];simp only [Lib.byteCells,List.getElem?_map,List.getElem?_eq_getElem hj,Option.map_some];rfl)
      rw [HFL.out] at hcv0;have hcv:=hcv0;clear hcv0;go_wp2_with fail
      go_ret;exact ⟨rfl,HB.out.trans ((HBx.out).mono (by have:=HB.out.size; have:=hbz2.out; omega))⟩
 ·have hb24 : ¬ ((24 : Int) ≤ (s.size : Int)) := by omega
  have hlz:l.length≤1000000:=by omega
  clear hn hsz;go_enter Tryz.func221,Tryz.ntmps221
  go_wp2_with fail
  go_loopw [5,6,10] (fun ns ch i wr=>∃ (k:Nat) (m:Nat),k≤s.size∧i=.int .i64 k∧ns=.int .i64 ((s.size:Int) + (m:Nat))∧ch=.bool (decide (m≠0))∧Hid (m=nsp (l.take k))∧Hid (Below w.heap.size w wr)) (fun _ _ i _=>s.size - (intOf i).toNat)
  case atStart=>exact ⟨0,0,by omega,rfl,by simp,rfl,lh rfl,lh (Y8 _ _)⟩
  case round=>
   obtain ⟨k,m,hk,rfl,rfl,rfl,HM,HB⟩:=hrel;have hmb:m≤1000000:=by
    have h1:nsp (l.take k)≤(l.take k).length:=List.countP_le_length;have:=HM.out; simp at h1; omega
   by_cases hkn:k < s.size
   ·obtain ⟨c, hc⟩ : ∃ c, l[k]? = some c := ⟨_, Yd (by rw [← HN.out]; exact hkn)⟩
    obtain ⟨hk2,hsk⟩:=HG.out k c hc;obtain ⟨v,hv,hcase⟩:=SL.out c;have hvx:wr.cell? ⟨bb,c.toNat,none⟩=some v:=(Yj (HB.out.block bb hbl)).trans hv;have hclt:=c.toNat_lt;have hix:(s[k]'hk2).toNat=c.toNat:=by rw [hsk]
    have hm2:=Zi6 hc;rw [← HM.out] at hm2;have HM2:=lh hm2;clear hm2 hsk;rcases hcase with ⟨hE,rfl⟩ | ⟨e,g9,cap9,hE,hes,rfl,hc9,hg9,x0,x1⟩
    ·rw [hE] at HM2;go_wp2_with fail
     go_roundw
     case rel=>exact ⟨k + 1,m,by omega,rfl,rfl,rfl,lh (by rw [HM2.out]; simp),HB⟩
     case measure=>simp [intOf]; omega
    ·rw [hE] at HM2;go_wp2_with fail
     go_roundw
     case rel=>exact ⟨k + 1,m + 1,by omega,rfl,by first | rfl | (congr 1; omega),by simp,lh (by rw [HM2.out]; simp),HB⟩
     case measure=>simp [intOf]; omega
   ·have hks : k = s.size := by omega
    subst hks;have htl:l.take s.size=l:=Ym (by rw [HN.out]; exact Y5 _);rw [htl] at HM;obtain ⟨q,hq⟩:=zX m
    subst hq;have HQ:=HM;have hqb:q≤3000000:=by omega
    clear htl hmb HC1 HC2 HC3;obtain ⟨wa,hwa⟩:=zX wr
    subst hwa;by_cases hq0:q=0
    ·have hd : decide (q ≠ 0) = false := by simp [hq0]
     rw [hd];go_wp2_with fail
     go_ret;exact ⟨by rw [Zde (by rw [← HQ.out]; exact hq0),HL.out]; rfl,HB.out⟩
    have hd:decide (q≠0)=true:=by simp [hq0]
    obtain ⟨N,hN⟩:=zX (s.size + q)
    rw [hd,show ((s.size:Int) + (q:Nat))=((N:Nat):Int) by omega];have hfl:(l.flatMap escB).length=N:=by rw [Zcx,hN,HQ.out,HN.out]
    have hNb:N≤2000000:=by
     have h1:nsp l≤l.length:=List.countP_le_length;have:=HQ.out; have:=HN.out; omega
    have HFL:=lh hfl;obtain ⟨i0,hi,hz0,hz1,hz2⟩:=info_parts Tryz.infoU8;have hmk0:=run_makeSlice (P:=Tryz.prog) wa 67 5 i0 (.int .u8 0) Tryz.underlying67 hi hz0 .i64 .i64 (N:Int) (N:Int) (by omega) (Int.le_refl _) (by rw [hz1,Int.toNat_natCast]; omega) (by rw [hz2]; omega) (by omega);rw [Int.toNat_natCast,hz1,Nat.mul_one] at hmk0;have hmk:=hmk0;clear hmk0;obtain ⟨M,hM⟩:=zX (madeCells (Value.int .u8 0).cells N)
    rw [← hM] at hmk;have hMs:M.size=N:=by rw [hM]; exact size_madeCells _ _
    have HMS:=lh hMs;clear hM hMs hd hq0 hN hfl;have hnew:(wa.alloc (.cells M 5)).heap[wa.heap.size]?=some (.cells M 5 (0,0)):=(Go.MapKept.heap_alloc wa _).1;have HNEW:=lh hnew;have HBN:=lh ((Y8 wa.heap.size wa).alloc (Y5 _) (.cells M 5));obtain ⟨bz,hbz⟩:=zX wa.heap.size
    have hbz2:=lh hbz;rw [← hbz] at hmk HNEW HBN;clear hnew hbz;go_wp2_with fail
    go_loopw [13,14] (fun j i wx=>∃ (k:Nat) (Cb:Array Value),k≤s.size∧i=.int .i64 k∧j=.int .i64 (((l.take k).flatMap escB).length:Nat)∧Hid (wx.heap[bz]?=some (.cells Cb 5 (0,0)))∧Hid (Cb.size=N)∧Hid (Cb.toList.take ((l.take k).flatMap escB).length=Lib.byteCells ((l.take k).flatMap escB))∧Hid (Below bz wa wx)) (fun _ i _=>s.size - (intOf i).toNat)
    case atStart=>exact ⟨0,M,by omega,rfl,by simp,HNEW,HMS,lh (by simp [Lib.byteCells]),HBN⟩
    case round=>
     obtain ⟨k,Cb,hk,rfl,rfl,HCb,HSZ,HTK,HBx⟩:=hrel;clear HNEW HBN hmk;by_cases hkn:k < s.size
     ·obtain ⟨c, hc⟩ : ∃ c, l[k]? = some c := ⟨_, Yd (by rw [← HN.out]; exact hkn)⟩
      obtain ⟨hk2,hsk⟩:=HG.out k c hc;obtain ⟨v,hv,hcase⟩:=SL.out c;have hbzw:w.heap.size≤bz:=by have:=HB.out.size; have:=hbz2.out; omega
      have hvx:wr.cell? ⟨bb,c.toNat,none⟩=some v:=(Yj ((HBx.out.block bb (by omega)).trans (HB.out.block bb hbl))).trans hv;have hclt:=c.toNat_lt;have hix:(s[k]'hk2).toNat=c.toNat:=by rw [hsk]
      have hft:=Zbv hc;obtain ⟨J,hJ⟩:=zX (((l.take k).flatMap escB).length)
      have hJ2:((l.take (k + 1)).flatMap escB).length=J + (escB c).length:=by rw [hft,Yq,← hJ]
      have hJN:J + (escB c).length≤N:=by
       rw [← hJ2,← HFL.out];have:l.flatMap escB=(l.take (k + 1)).flatMap escB ++ (l.drop (k + 1)).flatMap escB:=by rw [← List.flatMap_append,List.take_append_drop]
       rw [this,Yq]; omega
      have HJJ:=lh hJ;rw [← hJ] at HTK ⊢;have HJ2:=lh hJ2;have HFT:=lh hft;have hfr:∀ q,wr.frozen? ⟨bz,q,none⟩=false:=fun q=>Lib.frozen_of_heap HCb.out q;have hcs:∀ q,q < N→(wr.cell? ⟨bz,q,none⟩).isSome=true:=fun q hq=>by
       simp [World.cell?,HCb.out];have:=HSZ.out;omega
      have e1:=(Z83 c).1;rcases hcase with ⟨hE,rfl⟩ | ⟨e,g9,cap9,hE,hes,rfl,hc9,hg9,x0,x1⟩
      ·rw [hE] at e1;obtain ⟨u, hu⟩ := Option.isSome_iff_exists.1 (hcs J (by simp at e1; omega));have hf := hfr J;clear hft hJ hJ2 hfr hcs hsk;go_wp2_with fail
       go_roundw
       case rel=>
        have hfe:=(Z83 c).2 hE;refine ⟨k + 1,Cb.setIfInBounds J (.int .u8 c.toNat),by omega,rfl,?_,lh (Z5r HCb.out J _),lh (by rw [Array.size_setIfInBounds]; exact HSZ.out),lh ?_,lh (HBx.out.setCell (Y5 _) _)⟩;·rw [HJ2.out,hfe]; rfl
        ·rw [HJ2.out,HFT.out,hfe];exact row_one HTK.out (by have:=HSZ.out; rw [hfe] at hJN; simp at hJN; omega) HJJ.out c
       case measure=>simp [intOf]; omega
      ·rw [hes] at hJN;simp only [List.length_cons, List.length_nil] at hJN;have y0 : wr.cell? ⟨g9, 0, none⟩ = some (.int .u8 92) := (Yj ((HBx.out.block g9 (by omega)).trans (HB.out.block g9 hg9))).trans x0;have y1 : wr.cell? ⟨g9, 1, none⟩ = some (.int .u8 e.toNat) := (Yj ((HBx.out.block g9 (by omega)).trans (HB.out.block g9 hg9))).trans x1;have hcI : ((c.toNat : Nat) : Int) < 256 := by omega
       have hcJ:(0:Int)≤((c.toNat:Nat):Int):=by omega
       have hJI:((J:Nat):Int)≤(N:Int):=by omega
       have hJK:(0:Int)≤((J:Nat):Int):=by omega
       have hNJ:(N=J)=False:=by simp; omega
       have hcopy0:=run_copy_row (P:=Tryz.prog) wr.drew 67 67 3 5 bz J (N - J) (N - J) ⟨g9,0,none⟩ 2 cap9 Cb 5 [.int .u8 92,.int .u8 e.toNat] Tryz.underlying67 (by kernel_rfl) HCb.out
        (by show 2 = Nat.min 2 (N - J); exact (Nat.min_eq_left (by omega)).symm) (fun j v hj => by
         rw [show (⟨g9,0,none⟩:Addr).add j=⟨g9,j,none⟩ by unfold Addr.add; split <;> simp_all];match j,hj with
         | 0,hj=>simp at hj; subst hj; exact y0
         | 1,hj=>simp at hj; subst hj; exact y1) (by have:=HSZ.out; simp; omega) (by intro v hv; simp at hv; rcases hv with rfl | rfl <;> rfl)
       obtain ⟨R,hR⟩:=zX ((Cb.toList.take J ++ [Value.int .u8 92,Value.int .u8 e.toNat] ++ Cb.toList.drop (J + 2)).toArray)
       have hcopy:(Builtin.copy_ #[67,67] 3 #[.slice (some ⟨bz,J,none⟩) (N - J) (N - J),.slice (some ⟨g9,0,none⟩) 2 cap9]).run Tryz.prog wr.drew=.ok (.int .i64 2) (wr.drew.setRow bz R):=by rw [hR]; exact hcopy0
       have hrt:=Zgs HTK.out (by have:=HSZ.out; omega) 92 e;rw [← List.append_assoc] at hrt;have hRT:R.toList.take (J + 2)=Lib.byteCells ((l.take k).flatMap escB ++ [92,e]):=by rw [hR]; exact hrt.1
       have HRT:=lh hRT;have HRS:=lh (show R.size=N by rw [hR]; exact hrt.2.trans HSZ.out);have HES:=lh hes;have HSR:=lh (below_setRow (B:=bz) (Y8 bz wr) (Y5 _) R);clear hft hJ hJ2 hfr hcs hsk x0 x1 hcopy0 hR hrt hRT hes;go_wp2_with fail
       refine Zf [0,2,4,6,8,10,12,14,16,18,21] [11,12] (fun W=>W.cell? ⟨bb,c.toNat,none⟩=some (.slice (some ⟨g9,0,none⟩) 2 cap9)) hvx fun _=>?_;simp only [Zh,pD,zD,zE,zF,zG,zH,zI,zJ,zK]
       iterate 10
        first | refine Za _ ?_ | refine Zb ?_
        simp only [Act.put,zA,zB,zC]
       refine Z5 (fun K hK=>?_);go_simp
       refine hK _ _ ((Yj (setRow_other wr bz bb R (by omega))).trans hvx) ?_;refine Z6 ?_;go_wp2_with fail
       go_roundw
       case rel=>
        have z1:Value.int .i64 ((J:Int) + 2)=.int .i64 (((l.take (k + 1)).flatMap escB).length:Nat):=by rw [HJ2.out,HES.out]; rfl
        have z2:R.toList.take ((l.take (k + 1)).flatMap escB).length=Lib.byteCells ((l.take (k + 1)).flatMap escB):=by
         rw [HJ2.out,HFT.out,HES.out];exact HRT.out
        have z3:Below bz wa (wr.setRow bz R).drew:=HBx.out.trans (HSR.out.drew);have Z1:=lh z2;have Z2:=lh z3;have Z3:=lh (Z8o HCb.out R)
        first
         | exact ⟨k + 1,R,by omega,rfl,z1,Z3,HRS,Z1,Z2⟩
         | ((repeat (apply Exists.intro)); exact ⟨⟨k + 1,R,by omega,rfl,z1,Z3,HRS,Z1,Z2⟩,rfl⟩)
       case measure=>simp [intOf]; omega
     ·have hks : k = s.size := by omega
      subst hks;have htl:l.take s.size=l:=Ym (by rw [HN.out]; exact Y5 _);rw [htl] at HTK ⊢;rw [HFL.out] at HTK ⊢;have hcv0:=run_convert_bytes_back (P:=Tryz.prog) wr 67 9 5 ⟨bz,0,none⟩ N (l.flatMap escB) Tryz.underlying67 Tryz.underlying5 Yr (fun j hj=>by
       rw [show (⟨bz,0,none⟩:Addr).add j=⟨bz,j,none⟩ by unfold Addr.add; split <;> simp_all];have h1:(Cb.toList.take N)[j]?=(Lib.byteCells (l.flatMap escB))[j]?:=by rw [HTK.out]
       have hjN:j < N:=by rw [← HFL.out]; exact hj
       rw [List.getElem?_take,Yb hjN] at h1;simp only [World.cell?,HCb.out];rw [← Array.getElem?_toList,h1];simp only [Lib.byteCells,List.getElem?_map,List.getElem?_eq_getElem hj,Option.map_some];rfl)
      rw [HFL.out] at hcv0;have hcv:=hcv0;clear hcv0;go_wp2_with fail
      go_ret;exact ⟨rfl,HB.out.trans ((HBx.out).mono (by have:=HB.out.size; have:=hbz2.out; omega))⟩
theorem RepK.keep {B bb k:Nat} {tv:Value} {C:Array Value} {w w':World} (h:RepK B bb k tv C w) (hk:∀ g,B≤g→g < w.heap.size→w'.heap[g]?=w.heap[g]?):RepK B bb k tv C w' where
 blk:=(hk bb h.low (Y6.1 h.blk).1).trans h.blk
 sz:=h.sz
 last:=h.last
 row:=Zq h.row fun g hg=>hk g (Yh h.row g hg).1 (Yh h.row g hg).2
 ne:=h.ne
 low:=h.low
 at' i hi:=by
  obtain ⟨v,h1,h2⟩:=h.at' i hi;refine ⟨v,h1,?_⟩;unfold Z5y at h2 ⊢;split
  ·rename_i q e he;rw [he] at h2;simp only at h2;split
   ·rename_i hq;rw [Yb hq] at h2;obtain ⟨g,cap,h3,h4,h5,h6,⟨cs,fz,h7⟩,h8,h9⟩:=h2;have hg:=hk g h6 (Y6.1 h7).1;exact ⟨g,cap,h3,h4,h5,h6,⟨cs,fz,hg.trans h7⟩,(Yj hg).trans h8,(Yj hg).trans h9⟩
   ·rename_i hq;rw [Y9 hq] at h2;exact h2
  ·rename_i he;rw [he] at h2;exact h2
theorem Ze9 (rb Bq B:Nat) (ov:Value) (w:World) (hrb:w.heap[rb]?=some (.cells #[.int .u32 0,.int .i32 1,.int .u32 0,.nilIface,ov] 182 (0,0))) (ho:w.ownsRow B 9 1 ov 6 (pairsL.map Value.string)) (hB:Bq≤rb) :
 Calls Tryz.prog 121 #[.pointer (some ⟨rb,0,none⟩)] w fun e w'=>e=.returned (.tuple #[])∧∃ bb tv C,w'.heap[rb]?=some (.cells #[.int .u32 0,.int .i32 1,.int .u32 0,.iface 217 (.pointer (some ⟨bb,0,none⟩)),.slice none 0 0] 182 (0,0)) ∧
  RepK w.heap.size bb 3 tv C w'∧Below Bq w w':=by
 have HC:=lh (Zhm rb ov w B hrb ho);have hlt:rb < w.heap.size:=(Y6.1 hrb).1;have HR:=lh hrb;clear hrb ho;go_enter Tryz.func121,Tryz.ntmps121
 go_wp2_with fail
 refine HC.out.mono ?_;rintro e w1 ⟨bb,tv,C,rfl,hk,hb⟩;have hr1:w1.heap[rb]?=_:=(hb.block rb hlt).trans HR.out;have c3:w1.cell? ⟨rb,3,none⟩=some .nilIface:=by simp [World.cell?,hr1]
 have c4:w1.cell? ⟨rb,4,none⟩=some ov:=by simp [World.cell?,hr1]
 have f3:w1.frozen? ⟨rb,3,none⟩=false:=Lib.frozen_of_heap hr1 3;have f4:w1.frozen? ⟨rb,4,none⟩=false:=Lib.frozen_of_heap hr1 4;have HR1:=lh hr1;have HK:=lh hk;have HB:=lh hb;clear hr1 hk hb;go_wp2;first | go_end0 | refine bodyPost_ret (results_none rfl _ _ _) rfl ?_
 refine ⟨rfl,bb,tv,C,?_,HK.out.keep fun g hg _=>?_,((HB.out.mono (by omega)).setCell (p:=⟨rb,3,none⟩) hB _).setCell (p:=⟨rb,4,none⟩) hB _⟩;·exact Z5r (Z5r HR1.out 3 _) 4 _
 ·rw [Yg _ _ _ _ (by show g≠rb; omega),Yg _ _ _ _ (by show g≠rb; omega)]
theorem Zgp (rb Bq B:Nat) (ov:Value) (w:World) (hrb:w.heap[rb]?=some (.cells #[.int .u32 0,.int .i32 0,.int .u32 0,.nilIface,ov] 182 (0,0))) (ho:w.ownsRow B 9 1 ov 6 (pairsL.map Value.string)) (hne:ov.ownBlock≠some rb) (hB:Bq≤rb) :
 Calls Tryz.prog 133 #[.pointer (some ⟨rb,0,none⟩),.func (.func 121) #[.pointer (some ⟨rb,0,none⟩)] #[]] w fun e w'=>e=.returned (.tuple #[])∧∃ bb tv C,w'.heap[rb]?=some (.cells #[.int .u32 1,.int .i32 0,.int .u32 0,.iface 217 (.pointer (some ⟨bb,0,none⟩)),.slice none 0 0] 182 (0,0)) ∧
  (∃ B',RepK B' bb 3 tv C w')∧Below Bq w w':=by
 have h0:w.cell? ⟨rb,0,none⟩=some (.int .u32 0):=by simp [World.cell?,hrb]
 have h1:w.cell? ⟨rb,1,none⟩=some (.int .i32 0):=by simp [World.cell?,hrb]
 have f0:w.frozen? ⟨rb,0,none⟩=false:=Lib.frozen_of_heap hrb 0;have f1:w.frozen? ⟨rb,1,none⟩=false:=Lib.frozen_of_heap hrb 1;obtain ⟨w1,hw1⟩:=zX (w.setCell ⟨rb,1,none⟩ (.int .i32 1))
 have hlt:rb < w.heap.size:=(Y6.1 hrb).1;have hr1:w1.heap[rb]?=some (.cells #[.int .u32 0,.int .i32 1,.int .u32 0,.nilIface,ov] 182 (0,0)):=by rw [hw1]; exact Z5r hrb 1 _
 have ho1:w1.ownsRow B 9 1 ov 6 (pairsL.map Value.string):=Zq ho fun g hg=>by rw [hw1,Yg _ _ _ _ (by show g≠rb; intro e; exact hne (by rw [hg,e]))]
 have HC:=lh (Ze9 rb Bq B ov w1 hr1 ho1 hB);have HB1:Hid (Below Bq w w1):=lh (by rw [hw1]; exact (Y8 _ _).setCell (p:=⟨rb,1,none⟩) hB _);have c0:w1.cell? ⟨rb,0,none⟩=some (.int .u32 0):=by simp [World.cell?,hr1]
 have hl:=run_call_load (P:=Tryz.prog) Tryz.func141 (by kernel_rfl) (by kernel_rfl) (by kernel_rfl) .u32 (by kernel_rfl) (w:=w1) (a:=⟨rb,0,none⟩) (x:=0) c0;have hnot:∀ (x:Bool) (w:World),(Op.unary .not (.bool x)).run Tryz.prog w=.ok (.bool (!x)) w:=fun _ _=>rfl;have HL:=lh (lock_free ⟨rb,1,none⟩ w h1 f1);clear hrb ho h0 h1 f0 f1 hr1 ho1 hne;go_enter_defers Tryz.func133,Tryz.ntmps133
 go_wp2_with (go_at_call 142; refine HL.out.mono ?_; rintro e w' ⟨rfl,hw'⟩; rw [← hw1] at hw'; rw [hw']; clear hw' w' hw1)
 go_wp2_with (first | (go_at_call 121; refine HC.out.mono ?_; rintro e w2 ⟨rfl,bb,tv,C,hr2,hk2,hb2⟩) | (go_at_call 132; go_in))
 have hlt2:rb < w2.heap.size:=(Y6.1 hr2).1;refine leaves_cons (f:=144) (args:=#[.pointer (some ⟨rb,0,none⟩),.bool true]) (by simp) (by simp [go_sem]) ?_;refine (Z9r ⟨rb,0,none⟩ (.int .u32 0) .returning _ (by simp [World.cell?,hr2]) (Lib.frozen_of_heap hr2 0)).mono ?_;rintro e u' w'' ⟨rfl,rfl,rfl⟩;have hr3:(w2.drew.setCell ⟨rb,0,none⟩ (.int .u32 1)).heap[rb]?=_:=Z5r (w:=w2.drew) hr2 0 (.int .u32 1);refine leaves_cons (f:=143) (args:=#[.pointer (some ⟨rb,1,none⟩)]) (by simp [settle]) (by simp [go_sem]) ?_
 refine (unlock_deferred ⟨rb,1,none⟩ _ _ (by simp [World.cell?,hr3]) (Lib.frozen_of_heap hr3 1)).mono ?_;rintro e u' w'' ⟨rfl,rfl,rfl⟩;have hr4:=Z5r hr3 1 (.int .i32 0);refine ⟨.tuple #[],by simp [results,Tryz.results133,go_sem],rfl,bb,tv,C,hr4,⟨w1.heap.size,hk2.keep fun g hg _=>?_⟩,?_⟩
 ·have h1:rb < w1.heap.size:=Ye hlt HB1.out.size;rw [Yg _ _ _ _ (by show g≠rb; omega),Yg _ _ _ _ (by show g≠rb; omega)];rfl
 ·exact ((HB1.out.trans hb2).drew.setCell (p:=⟨rb,0,none⟩) hB _).setCell (p:=⟨rb,1,none⟩) hB _
theorem Zl4 (rb Bq B:Nat) (ov:Value) (w:World) (hrb:w.heap[rb]?=some (.cells #[.int .u32 0,.int .i32 0,.int .u32 0,.nilIface,ov] 182 (0,0))) (ho:w.ownsRow B 9 1 ov 6 (pairsL.map Value.string)) (hne:ov.ownBlock≠some rb) (hB:Bq≤rb) :
 Calls Tryz.prog 120 #[.pointer (some ⟨rb,0,none⟩),.func (.func 121) #[.pointer (some ⟨rb,0,none⟩)] #[]] w fun e w'=>e=.returned (.tuple #[])∧∃ bb tv C,w'.heap[rb]?=some (.cells #[.int .u32 1,.int .i32 0,.int .u32 0,.iface 217 (.pointer (some ⟨bb,0,none⟩)),.slice none 0 0] 182 (0,0)) ∧
  (∃ B',RepK B' bb 3 tv C w')∧Below Bq w w':=by
 have HS:=lh (Zgp rb Bq B ov w hrb ho hne hB);have c0:w.cell? ⟨rb,0,none⟩=some (.int .u32 0):=by simp [World.cell?,hrb]
 have hl:=run_call_load (P:=Tryz.prog) Tryz.func141 (by kernel_rfl) (by kernel_rfl) (by kernel_rfl) .u32 (by kernel_rfl) (w:=w) (a:=⟨rb,0,none⟩) (x:=0) c0;have hnot:∀ (x:Bool) (w:World),(Op.unary .not (.bool x)).run Tryz.prog w=.ok (.bool (!x)) w:=fun _ _=>rfl;clear hrb ho hne;go_enter Tryz.func120,Tryz.ntmps120
 go_wp2_with (first | (go_at_call 133; refine HS.out.mono ?_; rintro e w2 ⟨rfl,hw2⟩) | (go_at_call 132; go_in))
 first | go_end0 | refine bodyPost_ret (results_none rfl _ _ _) rfl ?_
 exact ⟨rfl,hw2⟩
theorem Zd0 (rb Bq B:Nat) (ov:Value) (w:World) (s:ByteArray) (hs:s.size≤1000000) (hrb:w.heap[rb]?=some (.cells #[.int .u32 0,.int .i32 0,.int .u32 0,.nilIface,ov] 182 (0,0))) (ho:w.ownsRow B 9 1 ov 6 (pairsL.map Value.string)) (hne:ov.ownBlock≠some rb) (hB:Bq≤rb) :
 Calls Tryz.prog 108 #[.pointer (some ⟨rb,0,none⟩),.string s] w fun e w'=>e=.returned (.string ⟨(s.data.toList.flatMap escB).toArray⟩)∧Below Bq w w':=by
 have HS:=lh (Zl4 rb Bq B ov w hrb ho hne hB);have hlt:rb < w.heap.size:=(Y6.1 hrb).1;have hmf:∀ (fn:Fn) (first cap:Array Value) (w:World),(Instr.makeFunc fn first cap).run Tryz.prog w=.ok (.func fn first cap) w:=fun _ _ _ _=>rfl;clear hrb ho hne;go_enter Tryz.func108,Tryz.ntmps108
 go_wp2_with fail
 refine HS.out.mono ?_;rintro e w1 ⟨rfl,bb,tv,C,hr1,⟨B',hk⟩,hb⟩;have c3:w1.cell? ⟨rb,3,none⟩=some (.iface 217 (.pointer (some ⟨bb,0,none⟩))):=by simp [World.cell?,hr1]
 have HC:=lh (Zi8 w1 s hk hs);have HB:=lh hb;clear hr1 hk hb;go_wp2_with fail
 refine HC.out.mono ?_;rintro e w2 ⟨rfl,hb2⟩;go_wp2_with fail
 go_ret;exact ⟨rfl,HB.out.trans (hb2.mono (by have:=HB.out.size; omega))⟩
theorem Zhx (s:ByteArray):(39 :: (s.data.toList.flatMap escB)) ++ [39]=Z57 s:=by unfold Z57; rfl
theorem Zhc (s:ByteArray) (w:World) (hs:s.size≤1000000):Calls Tryz.prog 85 #[.string s] w fun e w'=>e=.returned (.string ⟨(Z57 s).toArray⟩)∧Below w.heap.size w w':=by
 have HN:=lh (fun g w h=>Ze7 g w h);have HR:=lh (fun rb Bq B ov w h1 h2 h3 h4=>Zd0 rb Bq B ov w s hs h1 h2 h3 h4);have HF:=lh (Zhx s);have hsum:(List.map (fun a=>(escB a).length) s.data.toList).sum≤2000000:=by
  rw [← List.length_flatMap,Zcx];have h1:nsp s.data.toList≤s.data.toList.length:=List.countP_le_length;have h2:s.data.toList.length=s.size:=by simp
  omega
 have q1:¬ 9223372036854775807 < 1 + (List.map (fun a=>(escB a).length) s.data.toList).sum:=by omega
 have q2:¬ 9223372036854775807 < 1 + (List.map (fun a=>(escB a).length) s.data.toList).sum + 1:=by omega
 clear hs;go_enter Tryz.func85,Tryz.ntmps85
 go_wp2_with fail
 refine (HN.out w.heap.size _ (fun j s hj=>?_)).mono ?_
 ·have h:=(Go.MapKept.heap_alloc w (.cells #[.string ⟨#[92]⟩,.string ⟨#[92,92]⟩,.string ⟨#[39]⟩,.string ⟨#[92,39]⟩,.string ⟨#[10]⟩,.string ⟨#[92,110]⟩] 9)).1;unfold World.cell?;simp only [h];show ((pairsL.map Value.string).toArray)[j]?=_;simp [hj]
 rintro e w1 ⟨rb,ov,rfl,h1,h2,h3,h4,h5⟩;rw [World.size_alloc] at h2 h3 h5;have hb1:Below w.heap.size w w1:=((Y8 _ _).alloc (Y5 _) _).trans (h5.mono (by omega));have HB:=lh hb1;have HC:=lh (HR.out rb w.heap.size _ ov w1 h1 h2 h4 (by omega));clear h1 h2 h3 h4 h5 hb1 HN HR;go_wp2_with fail
 refine HC.out.mono ?_;rintro e w2 ⟨rfl,hb2⟩;go_wp2_with fail
 go_ret;refine ⟨?_,HB.out.trans hb2⟩;have hq:((⟨#[39]⟩:ByteArray) ++ ⟨(List.flatMap escB s.data.toList).toArray⟩ ++ ⟨#[39]⟩)=⟨(Z57 s).toArray⟩:=by
  rw [← HF.out];apply ByteArray.ext;simp [ByteArray.data_append]
 rw [← hq];rfl
end Go.Proofs.YtmeiggjboakmpaaGreatDoor
namespace Go.Proofs
set_option maxRecDepth 100000
set_option maxHeartbeats 20000000
set_option linter.unusedVariables false
def Tryz.laysM171_ren:Go.Shelf.Ren:=⟨fun | 171=>84 | 243=>106 | 246=>119 | 283=>128 | 284=>129 | 285=>130 | 286=>131 | 129=>137 | 317=>136 | 318=>138 | 319=>139 | 320=>140 | 337=>148 | 338=>149 | n=>n,fun | 3=>3 | 9=>9 | 2=>2 | 4=>4 | 171=>191 | 0=>0 | 53=>147 | 37=>67 | 5=>5 | 173=>194 | 212=>199 | 51=>170 | 20=>20 | 213=>200 | 46=>150 | 232=>233 | 233=>234 | n=>n,fun | 17=>10 | 18=>11 | 19=>12 | n=>n⟩
theorem Tryz.laysM171:Go.Proofs.LaysM.n171 Tryz.prog Tryz.laysM171_ren:={
 mixed:=by kernel_rfl
 f129:=Tryz.func137.trans (congrArg some (by kernel_rfl))
 f171:=Tryz.func84.trans (congrArg some (by kernel_rfl))
 f243:=Tryz.func106.trans (congrArg some (by kernel_rfl))
 f246:=Tryz.func119.trans (congrArg some (by kernel_rfl))
 f283:=Tryz.func128.trans (congrArg some (by kernel_rfl))
 f284:=Tryz.func129.trans (congrArg some (by kernel_rfl))
 f285:=Tryz.func130.trans (congrArg some (by kernel_rfl))
 f286:=Tryz.func131.trans (congrArg some (by kernel_rfl))
 f317:=Tryz.func136.trans (congrArg some (by kernel_rfl))
 f318:=Tryz.func138.trans (congrArg some (by kernel_rfl))
 f319:=Tryz.func139.trans (congrArg some (by kernel_rfl))
 f320:=Tryz.func140.trans (congrArg some (by kernel_rfl))
 f337:=Tryz.func148.trans (congrArg some (by kernel_rfl))
 f338:=Tryz.func149.trans (congrArg some (by kernel_rfl))
 t0:=Tryz.underlying0
 a0:=Tryz.isAgg0
 z0:=Tryz.sizeOf0
 v0:=Tryz.zeroValue0
 t2:=Tryz.underlying2
 a2:=Tryz.isAgg2
 z2:=Tryz.sizeOf2
 v2:=Tryz.zeroValue2
 t3:=Tryz.underlying3
 a3:=Tryz.isAgg3
 z3:=Tryz.sizeOf3
 v3:=Tryz.zeroValue3
 t4:=Tryz.underlying4
 a4:=Tryz.isAgg4
 z4:=Tryz.sizeOf4
 v4:=Tryz.zeroValue4
 t5:=Tryz.underlying5
 a5:=Tryz.isAgg5
 z5:=Tryz.sizeOf5
 v5:=Tryz.zeroValue5
 t9:=Tryz.underlying9
 a9:=Tryz.isAgg9
 z9:=Tryz.sizeOf9
 v9:=Tryz.zeroValue9
 t20:=Tryz.underlying20
 a20:=Tryz.isAgg20
 z20:=Tryz.sizeOf20
 v20:=Tryz.zeroValue20
 t37:=Tryz.underlying67
 a37:=Tryz.isAgg67
 z37:=Tryz.sizeOf67
 v37:=Tryz.zeroValue67
 t46:=Tryz.underlying150
 a46:=Tryz.isAgg150
 z46:=Tryz.sizeOf150
 v46:=Tryz.zeroValue150
 t51:=Tryz.underlying170
 a51:=Tryz.isAgg170
 z51:=Tryz.sizeOf170
 v51:=Tryz.zeroValue170
 t53:=Tryz.underlying147
 a53:=Tryz.isAgg147
 z53:=Tryz.sizeOf147
 v53:=Tryz.zeroValue147
 t171:=Tryz.underlying191
 a171:=Tryz.isAgg191
 z171:=Tryz.sizeOf191
 v171:=Tryz.zeroValue191
 t173:=Tryz.underlying194
 a173:=Tryz.isAgg194
 z173:=Tryz.sizeOf194
 v173:=Tryz.zeroValue194
 t212:=Tryz.underlying199
 a212:=Tryz.isAgg199
 z212:=Tryz.sizeOf199
 v212:=Tryz.zeroValue199
 t213:=Tryz.underlying200
 a213:=Tryz.isAgg200
 z213:=Tryz.sizeOf200
 t232:=Tryz.underlying233
 a232:=Tryz.isAgg233
 z232:=Tryz.sizeOf233
 v232:=Tryz.zeroValue233
 t233:=Tryz.underlying234
 a233:=Tryz.isAgg234
 z233:=Tryz.sizeOf234
 v233:=Tryz.zeroValue234
 g17:=by kernel_rfl
 g18:=by kernel_rfl
 g19:=by kernel_rfl
 i0:=by kernel_rfl
 i2:=by kernel_rfl
 i3:=by kernel_rfl
 i4:=by kernel_rfl
 i5:=by kernel_rfl
 i9:=by kernel_rfl
 i20:=by kernel_rfl
 i37:=by kernel_rfl
 i46:=by kernel_rfl
 i51:=by kernel_rfl
 i53:=by kernel_rfl
 i171:=by kernel_rfl
 i173:=by kernel_rfl
 i212:=by kernel_rfl
 i232:=by kernel_rfl
 i233:=by kernel_rfl
 m17:=by kernel_rfl
 m18:=by kernel_rfl
 m19:=by kernel_rfl }
open Go.RowKit Go.Sort Go.Lib in
theorem Tryz.strconv_Itoa (n : Int) (h0 : -9223372036854775808 ≤ n) (h1 : n ≤ 9223372036854775807) (w : World) (htab : Lib.TabIs Tryz.prog w "internal/strconv.uint64pow10" .u64 Lib.pow10Tab) :
 Calls Tryz.prog 84 #[.int .i64 n] w fun e w'=>e=.returned (.string ⟨(Lib.itoa n).toArray⟩)∧∃ k os,w'=grow (w.drewN k) os:=Any.strconv_Itoa Tryz.laysM171 n h0 h1 w htab
end Go.Proofs
