/- strings.Replacer at three bytes. -/
import Derived.Test.YtjcgkdfeplbajaaGreatDoorJ09
import Derived.Deep.WholeRow
import Derived.Laws.Cover3
import Derived.Lib.OwnKind
import Derived.Shelf.Strings.Count
namespace Go.Proofs.YtjcgkdfeplbajaaGreatDoor
open Go Go.RowKit
set_option maxRecDepth 100000
set_option maxHeartbeats 20000000
set_option linter.unusedVariables false
theorem Tryz.infoStrO:(Tryz.prog.info? 9).map (fun i=>(i.zero,i.size,i.bytes))=some (some (.string ByteArray.empty),1,16):=by kernel_rfl
def Z46:List ByteArray:=[⟨#[92]⟩,⟨#[92,92]⟩,⟨#[39]⟩,⟨#[92,39]⟩,⟨#[10]⟩,⟨#[92,110]⟩]
theorem Z65 {w:World} {base:Nat} {e:TypeId} {v:Value} {n:Nat} {xs:List Value} (h:w.ownsRow base e 1 v n xs) {g:Nat} (hg:v.ownBlock=some g) {i:Nat} {x:Value} (hx:xs[i]?=some x):w.cell? ⟨g,i,none⟩=some x:=by
 have:=h.cells hg i x hx;rwa [show ((⟨g,0,none⟩:Addr).add i)=⟨g,i,none⟩ by unfold Addr.add; split <;> simp_all] at this
theorem Zay {w w':World} (h:w.grownBy w' none):Below w.heap.size w w':=⟨h.os,h.tape,h.output,h.size,fun k hk=>h.block k hk (by simp)⟩
theorem Z9s (g:Nat) (w:World) (hc:∀ j s,Z46[j]?=some s→w.cell? ⟨g,j,none⟩=some (.string s)) :
 Calls Tryz.prog 67 #[.slice (some ⟨g,0,none⟩) 6 6] w fun e w'=>∃ rb ov,e=.returned (.pointer (some ⟨rb,0,none⟩))∧w'.heap[rb]?=some (.cells #[.int .u32 0,.int .i32 0,.int .u32 0,.nilIface,ov] 141 (0,0)) ∧
  w'.ownsRow w.heap.size 9 1 ov 6 (Z46.map Value.string)∧w.heap.size≤rb∧ov.ownBlock≠some rb∧Below w.heap.size w w':=by
 obtain ⟨i0,hi,hz0,hz1,hz2⟩:=info_parts Tryz.infoStrO;go_enter Tryz.func67,Tryz.ntmps67
 go_wp2_with (at_builtin; refine wpList_append_own _ rfl _ _ 72 rfl w.heap.size 9 i0 (.string ByteArray.empty) 1 16 Tryz.underlying72 hi hz0 hz1 hz2 rfl (by decide) (.slice none 0 0) 0 [] rfl (World.ownsRow_nil w _ _ _) ⟨g,0,none⟩ 6 6 (Z46.map Value.string) rfl rfl ?c1 ?c2 ?c3 ?c4 ?c5 ?_)
 case c1=>
  intro j u hj;rw [Yg] at hj;obtain ⟨s,hs,rfl⟩:=Option.map_eq_some_iff.1 hj;rw [show (⟨g,0,none⟩:Addr).add j=⟨g,j,none⟩ by unfold Addr.add; split <;> simp_all];exact hc j s hs
 case c2=>intro u hu; obtain ⟨s,_,rfl⟩:=List.mem_map.1 hu; rfl
 case c3=>unfold maxLen; omega
 case c4=>omega
 case c5=>exact Y0 _
 intro v' w2 hown' hgrow _;obtain ⟨g2,cap,rfl⟩:∃ g2 cap,v'=.slice (some ⟨g2,0,none⟩) 6 cap:=by
  rcases Zm hown' with ⟨_,h⟩ | ⟨g2,cap,h,_⟩;·cases h
  ·exact ⟨g2,cap,h⟩
 have HO:=lh hown';have HG:=lh hgrow;clear hown' hgrow;go_wp2;go_ret;have hb:Below w.heap.size w w2:=Zay HG.out;refine ⟨w2.heap.size,_,rfl,(Go.MapKept.heap_alloc w2 _).1,HO.out.alloc _,hb.size,?_,hb.alloc hb.size _⟩;have:=(Y9 HO.out g2 rfl).2;simp only [Value.ownBlock,ne_eq,Option.some.injEq];omega
def ordR (i:Nat):Option (Nat×UInt8):=if i=10 then some (0,110) else if i=39 then some (1,39) else if i=92 then some (2,92) else none
def Zak:List ByteArray:=[⟨#[10]⟩,⟨#[39]⟩,⟨#[92]⟩]
def Z3n (B bb k:Nat) (w:World) (i:Nat) (v:Value):Prop:=
 match ordR i with
 | some (q,e)=>if q < k then ∃ g cap,v=.slice (some ⟨g,0,none⟩) 2 cap∧2≤cap∧g≠bb∧B≤g∧(∃ cs fz,w.heap[g]?=some (.cells cs 5 fz))∧w.cell? ⟨g,0,none⟩=some (.int .u8 92)∧w.cell? ⟨g,1,none⟩=some (.int .u8 e.toNat) else v=.slice none 0 0
 | none=>v=.slice none 0 0
structure RepK (B bb k:Nat) (tv:Value) (C:Array Value) (w:World):Prop where
 blk:w.heap[bb]?=some (.cells C 173 (0,0))
 sz:C.size=257
 last:C[256]?=some tv
 row:w.ownsRow B 9 1 tv k ((Zak.take k).map Value.string)
 ne:tv.ownBlock≠some bb
 low:B≤bb
 at':∀ i,i < 256→∃ v,C[i]?=some v∧Z3n B bb k w i v
theorem Z6r:Tryz.zeroCells173=Array.replicate 257 (.slice none 0 0):=by kernel_rfl
theorem Z3c (w:World) (a:Option Addr) (l c:Nat):(binOp .eql 53 (.slice a l c) (.slice none 0 0)).run Tryz.prog w=.ok (.bool a.isNone) w:=by
 simp [binOp,run_equal_slice_nil w 53 5 a l c Tryz.underlying53,Result.andThen]
theorem Z73 (w:World) (a:Option Addr) (l c:Nat):(binOp .neq 53 (.slice a l c) (.slice none 0 0)).run Tryz.prog w=.ok (.bool (!a.isNone)) w:=run_neq_slice_nil w 53 5 a l c Tryz.underlying53
theorem Z4o (w:World) (v:Value) (t:TypeId):(w.alloc (.cells #[v] t)).cell? ⟨w.heap.size,0,none⟩=some v:=by
 have h:=(Go.MapKept.heap_alloc w (.cells #[v] t)).1;unfold World.cell?;simp only [h];rfl
theorem Z6x (w:World) (c:Nat) (hc:c < 256:=by decide):(convert 53 9 (.slice (some ⟨w.heap.size,0,none⟩) 1 1)).run Tryz.prog (w.alloc (.cells #[.int .u8 c] 5))=.ok (.string ⟨#[UInt8.ofNat c]⟩) (w.alloc (.cells #[.int .u8 c] 5)):=by
 have h:=run_convert_bytes_back (P:=Tryz.prog) (w.alloc (.cells #[.int .u8 c] 5)) 53 9 5 ⟨w.heap.size,0,none⟩ 1 [UInt8.ofNat c] Tryz.underlying53 Tryz.underlying5 Yj (fun j hj=>by
  have:j=0:=by simpa using hj
  subst this;rw [show (⟨w.heap.size,0,none⟩:Addr).add 0=⟨w.heap.size,0,none⟩ by unfold Addr.add; simp,Z4o];simp [Nat.mod_eq_of_lt hc])
 exact h
theorem Zdq:(Tryz.prog.info? 173).map (·.size)=some 257:=by kernel_rfl
theorem Zbi (w:World) (v:Value) (hv:v.oneCell'=true):(storeCells ⟨w.heap.size,0,none⟩ (Tryz.zeroCells173.toList.set 256 v) 0).run Tryz.prog (w.alloc (.cells Tryz.zeroCells173 173)) =
 .ok () (w.alloc (.cells ((Array.replicate 257 (Value.slice none 0 0)).setIfInBounds 256 v) 173)):=by
 have h:=run_storeCells_new (P:=Tryz.prog) w 173 Tryz.zeroCells173 ((Array.replicate 257 (Value.slice none 0 0)).setIfInBounds 256 v) (by rw [Zdq]; simp) (by rw [Z6r]; simp) (by
  rw [← Array.all_toList,Array.toList_setIfInBounds,List.all_eq_true];intro x hx;rcases List.mem_or_eq_of_mem_set hx with h | h
  ·simp at h;rw [h]; rfl
  ·rw [h]; exact hv)
 rw [Array.toList_setIfInBounds] at h;rw [Z6r];rw [Z6r] at h;exact h
theorem RepK.start {w:World} {B:Nat} {tv:Value} (hB:B≤w.heap.size) (hr:w.ownsRow B 9 1 tv 0 []) :
 RepK B w.heap.size 0 tv ((Array.replicate 257 (Value.slice none 0 0)).setIfInBounds 256 tv) (w.alloc (.cells ((Array.replicate 257 (Value.slice none 0 0)).setIfInBounds 256 tv) 173)) where
 blk:=(Go.MapKept.heap_alloc w _).1
 sz:=by simp
 last:=by simp
 row:=hr.alloc _
 ne:=by
  intro e;have:=(Y9 hr _ e).2;omega
 low:=hB
 at' i hi:=by
  refine ⟨.slice none 0 0,?_,?_⟩
  ·rw [Array.getElem?_setIfInBounds];rw [Y3 (by omega)];simp [Array.getElem?_replicate];omega
  ·unfold Z3n;split;·rw [Y3 (by omega)]
   ·rfl
theorem Z3n.keep {B bb k:Nat} {w w':World} {i:Nat} {v:Value} (h:Z3n B bb k w i v) (hk:∀ (g:Nat) (cs:Array Value) (fz:Nat×Nat),w.heap[g]?=some (Obj.cells cs 5 fz)→w'.heap[g]?=w.heap[g]?):Z3n B bb k w' i v:=by
 unfold Z3n at h ⊢;split
 ·rename_i q e he;rw [he] at h;simp only at h;split
  ·rename_i hq;rw [Y5 hq] at h;obtain ⟨g,cap,h1,h2,h3,h4,⟨cs,fz,h5⟩,h6,h7⟩:=h;have hg:=hk g cs fz h5;exact ⟨g,cap,h1,h2,h3,h4,⟨cs,fz,hg.trans h5⟩,(Yb hg).trans h6,(Yb hg).trans h7⟩
  ·rename_i hq;rw [Y3 hq] at h;exact h
 ·rename_i he;rw [he] at h;exact h
theorem RepK.more {B bb k:Nat} {tv:Value} {C:Array Value} {w w1 w2:World} (h:RepK B bb k tv C w) (hB:B≤w.heap.size) (hb:Below w.heap.size w w1) (hg:w1.grownBy w2 tv.ownBlock)
 {g':Nat} (hf:tv.ownBlock=some g'∨w1.heap.size≤g') :
 w2.cell? ⟨bb,256,none⟩=some tv∧w2.frozen? ⟨bb,256,none⟩=false∧w2.heap[bb]?=some (.cells C 173 (0,0))∧Below B w w2∧(∀ i v,Z3n B bb k w i v→Z3n B bb k w2 i v)∧g'≠bb:=by
 have hlt:bb < w.heap.size:=(Y1.1 h.blk).1;have hb2:w2.heap[bb]?=some (.cells C 173 (0,0)):=by
  rw [hg.block bb (Y7 hlt hb.size) (fun e=>h.ne e.symm),hb.block bb hlt];exact h.blk
 refine ⟨by simp [World.cell?,hb2,h.last],Lib.frozen_of_heap hb2 256,hb2,(hb.mono hB).grown hg (Y4 hB hb.size) (fun j hj=>(Y9 h.row j hj).1),fun i v hs=>Z3n.keep hs fun g cs fz hgc=>?_,fun e=>?_⟩
 ·have hgl:g < w.heap.size:=(Y1.1 hgc).1;have e1:=hb.block g hgl;refine (hg.block g (Y7 hgl hb.size) fun e=>?_).trans e1;obtain ⟨c,f,hk⟩:=Lib.ownsRow_kind h.row g e.symm;rw [hgc] at hk;have:=(Obj.cells.inj (Yc hk)).2.1;exact absurd this (by decide)
 ·subst e;rcases hf with h1 | h1;·exact h.ne h1
  ·have:=hb.size; omega
theorem Z3i {w:World} {g:Nat} {cs:Array Value} {t:TypeId} {fr:Nat×Nat} (h:w.heap[g]?=some (.cells cs t fr)) (i:Nat) (v:Value):(w.setCell ⟨g,i,none⟩ v).heap[g]?=some (.cells (cs.setIfInBounds i v) t fr):=by
 obtain ⟨hlt,he⟩:=Y1.1 h;unfold World.setCell;simp [Array.getElem?_modify,h]
theorem Z55 (s:ByteArray) (cap j:Nat) (hj:j < s.size):(bytesRow s cap)[j]?=some (.int .u8 ((s.data[j]'hj).toNat:Int)):=by
 unfold bytesRow;rw [Array.getElem?_append_left (by simp; exact hj)];simp only [Array.getElem?_map];rw [Array.getElem?_eq_getElem hj];rfl
theorem RepK.next {B bb k:Nat} {tv:Value} {C:Array Value} {w w2:World} (h:RepK B bb k tv C w) (o:Nat) (e:UInt8) (ho:ordR o=some (k,e)) (ho2:o < 256) (hsep:∀ i q e',i≠o→ordR i=some (q,e')→q≠k) {g2 cp2:Nat}
 (r1:w2.heap[bb]?=some (.cells C 173 (0,0))) (r2:Below B w w2) (r3:∀ i v,Z3n B bb k w i v→Z3n B bb k w2 i v) (r4:g2≠bb)
 (hr:w2.ownsRow B 9 1 (.slice (some ⟨g2,0,none⟩) (k + 1) cp2) (k + 1) ((Zak.take (k + 1)).map Value.string)) (hB:B≤w2.heap.size) (cap:Nat) (hcap:2≤cap) (fz:Nat×Nat) :
 ∃ C', RepK B bb (k + 1) (.slice (some ⟨g2, 0, none⟩) (k + 1) cp2) C' (((w2.setCell ⟨bb, 256, none⟩ (.slice (some ⟨g2, 0, none⟩) (k + 1) cp2)).setCell ⟨bb, o, none⟩ (.slice (some ⟨w2.heap.size, 0, none⟩) 2 cap)).alloc (.cells (bytesRow ⟨#[92, e]⟩ cap) 5 fz)).drew ∧
   Below B w (((w2.setCell ⟨bb,256,none⟩ (.slice (some ⟨g2,0,none⟩) (k + 1) cp2)).setCell ⟨bb,o,none⟩ (.slice (some ⟨w2.heap.size,0,none⟩) 2 cap)).alloc (.cells (bytesRow ⟨#[92,e]⟩ cap) 5 fz)).drew:=by
 obtain ⟨tv',htv⟩:=zX ((.slice (some ⟨g2,0,none⟩) (k + 1) cp2:Value))
 have hob:tv'.ownBlock≠some bb:=by rw [htv]; simpa [Value.ownBlock] using r4
 rw [← htv] at hr ⊢;have hlt:bb < w2.heap.size:=(Y1.1 r1).1;have s1:=Z3i r1 256 tv';have s2:=Z3i s1 o (.slice (some ⟨w2.heap.size,0,none⟩) 2 cap);obtain ⟨W1,hW1⟩:=zX ((w2.setCell ⟨bb,256,none⟩ tv').setCell ⟨bb,o,none⟩ (.slice (some ⟨w2.heap.size,0,none⟩) 2 cap))
 rw [← hW1] at s2 ⊢;have z1:W1.heap.size=w2.heap.size:=by rw [hW1]; simp
 have oth:∀ j,j≠bb→W1.heap[j]?=w2.heap[j]?:=fun j hj=>by rw [hW1,Y8 _ _ _ _ hj,Y8 _ _ _ _ hj]
 have past:∀ j,j < w2.heap.size→((W1.alloc (.cells (bytesRow ⟨#[92,e]⟩ cap) 5 fz)).drew).heap[j]?=W1.heap[j]?:=fun j hj=>Below.heap_alloc W1 _ j (by omega);have new:((W1.alloc (.cells (bytesRow ⟨#[92,e]⟩ cap) 5 fz)).drew).heap[w2.heap.size]?=some (.cells (bytesRow ⟨#[92,e]⟩ cap) 5 fz):=by
  have:=(Go.MapKept.heap_alloc W1 (.cells (bytesRow ⟨#[92,e]⟩ cap) 5 fz)).1;rw [z1] at this;exact this
 obtain ⟨W,hW⟩:=zX ((W1.alloc (.cells (bytesRow ⟨#[92,e]⟩ cap) 5 fz)).drew)
 have hrow:W.ownsRow B 9 1 tv' (k + 1) ((Zak.take (k + 1)).map Value.string):=Zr hr fun g hg=>by
  have hgl:=(Y9 hr g hg).2;rw [hW,past g hgl,oth g (fun e=>hob (by rw [hg,e]))]
 have hsz:W.heap.size=w2.heap.size + 1:=by rw [hW]; show (W1.alloc _).heap.size=_; rw [World.size_alloc,z1]
 rw [← hW] at past new ⊢;refine ⟨(C.setIfInBounds 256 tv').setIfInBounds o (.slice (some ⟨w2.heap.size,0,none⟩) 2 cap),⟨(past bb hlt).trans s2,by simp [h.sz],?_,hrow,hob,h.low,fun i hi=>?_⟩,?_⟩;·rw [Array.getElem?_setIfInBounds,Y3 (by omega),Array.getElem?_setIfInBounds,Y5 rfl,Y5 (by rw [h.sz]; omega)]
 ·by_cases e1 : i = o
  ·subst e1;refine ⟨.slice (some ⟨w2.heap.size, 0, none⟩) 2 cap, ?_, ?_⟩;·rw [Array.getElem?_setIfInBounds, Y5 rfl, Y5 (by simp [h.sz]; omega)]
   ·unfold Z3n;rw [ho];simp only;rw [Y5 (by omega)];refine ⟨_, _, rfl, hcap, by omega, hB, ⟨_, _, new⟩, ?_, ?_⟩
    ·simp only [World.cell?,new];exact Z55 ⟨#[92,e]⟩ cap 0 (by show 0 < 2; omega)
    ·simp only [World.cell?,new];exact Z55 ⟨#[92,e]⟩ cap 1 (by show 1 < 2; omega)
  ·obtain ⟨v, hv, hs⟩ := h.at' i hi;refine ⟨v, ?_, ?_⟩;·rw [Array.getElem?_setIfInBounds, Y3 (fun e => e1 e.symm), Array.getElem?_setIfInBounds, Y3 (by omega), hv]
   ·have hs2:=Z3n.keep (w':=W) (r3 i v hs) fun g cs f hg=>by
     have hgl:g < w2.heap.size:=(Y1.1 hg).1;rw [past g hgl,oth g (fun e=>by
      rw [e,r1] at hg;exact absurd (Obj.cells.inj (Yc hg)).2.1 (by decide))]
    unfold Z3n at hs2 ⊢;split
    ·rename_i q e' he;rw [he] at hs2;simp only at hs2;have hne := hsep i q e' e1 he;by_cases hq : q < k
     ·rw [Y5 hq] at hs2;rw [Y5 (by omega)];exact hs2
     ·rw [Y3 hq] at hs2;rw [Y3 (by omega)];exact hs2
    ·rename_i he;rw [he] at hs2;exact hs2
 ·refine r2.trans ⟨?_, ?_, ?_, by rw [hsz]; omega, fun j hj => ?_⟩;·rw [hW, hW1]; rfl
  ·rw [hW,hW1]; rfl
  ·rw [hW,hW1]; rfl
  ·rw [past j (Y7 hj hB),oth j (by have:=h.low; omega)]
theorem Zb1 (rb:Nat) (ov:Value) (w:World) (B:Nat) (hrb:w.heap[rb]?=some (.cells #[.int .u32 0,.int .i32 1,.int .u32 0,.nilIface,ov] 141 (0,0))) (ho:w.ownsRow B 9 1 ov 6 (Z46.map Value.string)) :
 Calls Tryz.prog 81 #[.pointer (some ⟨rb,0,none⟩)] w fun e w'=>∃ bb tv C,e=.returned (.iface 174 (.pointer (some ⟨bb,0,none⟩)))∧RepK w.heap.size bb 3 tv C w'∧Below w.heap.size w w':=by
 obtain ⟨i0,hi,hz0,hz1,hz2⟩:=info_parts Tryz.infoStrO;obtain ⟨g,cap,rfl⟩:∃ g cap,ov=.slice (some ⟨g,0,none⟩) 6 cap:=by
  rcases Zm ho with ⟨_,h⟩ | ⟨g2,cap,h,_⟩;·cases h
  ·exact ⟨g2,cap,h⟩
 have r4:w.cell? ⟨rb,4,none⟩=some (.slice (some ⟨g,0,none⟩) 6 cap):=by simp [World.cell?,hrb]
 have hge:6≤cap:=by
  rcases Zm ho with ⟨_,h⟩ | ⟨g2,cap',h,h2,_⟩;·cases h
  ·simp only [Value.slice.injEq] at h; omega
 have k0:=Z65 ho (g:=g) rfl (i:=0) (x:=.string ⟨#[92]⟩) rfl;have k1:=Z65 ho (g:=g) rfl (i:=1) (x:=.string ⟨#[92,92]⟩) rfl;have k2:=Z65 ho (g:=g) rfl (i:=2) (x:=.string ⟨#[39]⟩) rfl;have k3:=Z65 ho (g:=g) rfl (i:=3) (x:=.string ⟨#[92,39]⟩) rfl;have k4:=Z65 ho (g:=g) rfl (i:=4) (x:=.string ⟨#[10]⟩) rfl;have k5:=Z65 ho (g:=g) rfl (i:=5) (x:=.string ⟨#[92,110]⟩) rfl;have hgl:=(Y9 ho g rfl).2
 have KK:Hid (∀ w',Below w.heap.size w w'→w'.cell? ⟨g,0,none⟩=some (.string ⟨#[92]⟩)∧w'.cell? ⟨g,1,none⟩=some (.string ⟨#[92,92]⟩)∧w'.cell? ⟨g,2,none⟩=some (.string ⟨#[39]⟩)∧w'.cell? ⟨g,3,none⟩=some (.string ⟨#[92,39]⟩)∧w'.cell? ⟨g,4,none⟩=some (.string ⟨#[10]⟩)∧w'.cell? ⟨g,5,none⟩=some (.string ⟨#[92,110]⟩)):=
  lh fun w' h=>⟨(Yb (h.block g hgl)).trans k0,(Yb (h.block g hgl)).trans k1,(Yb (h.block g hgl)).trans k2,(Yb (h.block g hgl)).trans k3,(Yb (h.block g hgl)).trans k4,(Yb (h.block g hgl)).trans k5⟩
 clear hrb ho;go_enter Tryz.func81,Tryz.ntmps81
 go_wp2_with fail
 go_loopw [4,5] (fun v i wr=>wr=w∧((i=.int .i64 0∧v=.bool true)∨(i=.int .i64 2∧v=.bool false)∨(i=.int .i64 4∧v=.bool false)∨(i=.int .i64 6∧v=.bool false))) (fun _ i _=>6 - (intOf i).toNat)
 case atStart=>exact ⟨rfl,.inl ⟨rfl,rfl⟩⟩
 case round=>
  obtain ⟨rfl,hrel⟩:=hrel;rcases hrel with ⟨rfl,rfl⟩ | ⟨rfl,rfl⟩ | ⟨rfl,rfl⟩ | ⟨rfl,rfl⟩
  ·go_wp2;go_roundw
   case rel=>first | exact ⟨rfl,.inr (.inl ⟨rfl,rfl⟩)⟩ | exact ⟨trivial,.inr (.inl ⟨rfl,rfl⟩)⟩
   case measure=>decide
  ·go_wp2;go_roundw
   case rel=>first | exact ⟨rfl,.inr (.inr (.inl ⟨rfl,rfl⟩))⟩ | exact ⟨trivial,.inr (.inr (.inl ⟨rfl,rfl⟩))⟩
   case measure=>decide
  ·go_wp2;go_roundw
   case rel=>first | exact ⟨rfl,.inr (.inr (.inr ⟨rfl,rfl⟩))⟩ | exact ⟨trivial,.inr (.inr (.inr ⟨rfl,rfl⟩))⟩
   case measure=>decide
  ·obtain ⟨w0, hw0⟩ := zX wr
   subst hw0;have hmk:=run_makeSlice (P:=Tryz.prog) w0 72 9 i0 (.string ByteArray.empty) Tryz.underlying72 hi hz0 .i64 .i64 0 3 (by omega) (by omega) (by rw [hz1]; decide) (by rw [hz2]; decide) (by omega)
   have hst:(storeCells ⟨w0.heap.size + 1,0,none⟩ (Tryz.zeroCells173.toList.set 256 (.slice (some ⟨w0.heap.size,0,none⟩) 0 3)) 0).run Tryz.prog ((w0.alloc (.cells (madeCells #[.string ByteArray.empty] 3) 9)).alloc (.cells Tryz.zeroCells173 173)) =
    .ok () ((w0.alloc (.cells (madeCells #[.string ByteArray.empty] 3) 9)).alloc (.cells ((Array.replicate 257 (Value.slice none 0 0)).setIfInBounds 256 (.slice (some ⟨w0.heap.size,0,none⟩) 0 3)) 173)):=by
    have h:=Zbi (w0.alloc (.cells (madeCells #[.string ByteArray.empty] 3) 9)) (.slice (some ⟨w0.heap.size,0,none⟩) 0 3) rfl;rw [World.size_alloc] at h;exact h
   have R0:=RepK.start (w:=w0.alloc (.cells (madeCells #[.string ByteArray.empty] 3) 9)) (B:=w0.heap.size) (tv:=.slice (some ⟨w0.heap.size,0,none⟩) 0 3) (by rw [World.size_alloc]; omega) (World.ownsRow_made w0 _ 3 (Y0 _) (by unfold maxLen; omega) (size_madeCells _ _));rw [World.size_alloc] at R0;have HR0:=lh R0;have hb0:Below w0.heap.size w0 ((w0.alloc (.cells (madeCells #[.string ByteArray.empty] 3) 9)).alloc (.cells ((Array.replicate 257 (Value.slice none 0 0)).setIfInBounds 256 (.slice (some ⟨w0.heap.size,0,none⟩) 0 3)) 173)):=
    ((Y2 _ _).alloc (Y0 _) _).alloc (by rw [World.size_alloc]; omega) _
   have HB0:=lh hb0;clear hb0 R0;go_wp2_with fail
   go_loopw [12] (fun i wr'=>∃ (k:Nat) (tv:Value) (C:Array Value),k≤3∧i=.int .i64 (4 - 2 * (k:Int))∧Hid (RepK w0.heap.size (w0.heap.size + 1) k tv C wr')∧Hid (Below w0.heap.size w0 wr')) (fun i _=>(intOf i + 2).toNat)
   case atStart=>exact ⟨0,_,_,by omega,rfl,HR0,HB0⟩
   case round=>
    obtain ⟨k,tv,C,hk,rfl,HR,HB⟩:=hrel;clear HR0 HB0 hst hmk;obtain ⟨q0,q1,q2,q3,q4,q5⟩:=KK.out _ HB.out;have cl:wr.cell? ⟨w0.heap.size + 1,256,none⟩=some tv:=by simp [World.cell?,HR.out.blk,HR.out.last]
    obtain ⟨p,cp,rfl,hkc⟩:∃ p cp,tv=.slice p k cp∧k≤cp:=by
     rcases Zm HR.out.row with ⟨h1,h2⟩ | ⟨g2,cap',h,h2,_⟩;·exact ⟨none,0,by rw [h1,h2],by omega⟩
     ·exact ⟨_,_,h,h2⟩
    have hk4:k=0∨k=1∨k=2∨k=3:=by omega
    rcases hk4 with rfl | rfl | rfl | rfl
    ·obtain ⟨v, hC, hv⟩ := HR.out.at' 10 (by omega);have hv' : v = .slice none 0 0 := hv;subst hv';have co : wr.cell? ⟨w0.heap.size + 1, 10, none⟩ = some (.slice none 0 0) := by simp [World.cell?, HR.out.blk, hC]
     have heq:=fun w=>Z3c w none 0 0;have b0:(({ data:=#[10] }:ByteArray)[0]'(by decide)).toNat=10:=rfl;have hcv:=Z6x wr 10;have hcv':(convert 53 9 (.slice (some ⟨wr.heap.size,0,none⟩) 1 1)).run Tryz.prog (wr.alloc (.cells #[.int .u8 10] 5))=.ok (.string ⟨#[10]⟩) (wr.alloc (.cells #[.int .u8 10] 5)):=hcv;have hcb:=fun W=>run_bytes_of_string (P:=Tryz.prog) W 9 53 5 ⟨#[92,110]⟩ Yj Tryz.underlying53 Tryz.underlying5
     have hw1:Below wr.heap.size wr ((wr.alloc (.cells #[.int .u8 10] 5)).alloc (.cells #[.string ⟨#[10]⟩] 9)):=((Y2 _ _).alloc (Y0 _) _).alloc (by rw [World.size_alloc]; omega) _;have HW1:=lh hw1;clear hcv hw1
     go_wp2_with (at_builtin; go_must (refine wpList_append_lies _ rfl (.tmp 119) (.tmp 123) 72 rfl w0.heap.size 9 i0 (.string ByteArray.empty) 1 16 Tryz.underlying72 hi hz0 hz1 hz2 rfl (by decide) (.slice p 0 cp) 0 ((Zak.take 0).map Value.string) rfl ((HR.out.row.alloc _).alloc _) ⟨wr.heap.size + 1,0,none⟩ 1 1 [.string ⟨#[10]⟩] rfl rfl ?c1 (by intro u hu; simp at hu; subst hu; rfl) (by first | omega | (simp; omega)) (by unfold maxLen; omega) (by first | omega | (simp; omega)) (by have:=HW1.out.size; have:=HB.out.size; omega) ((wr.alloc (.cells #[.int .u8 10] 5)).alloc (.cells #[.string ⟨#[10]⟩] 9)).heap.size rfl ?_))
     case c1=>
      intro j u hj;match j,hj with
      | 0, hj =>
        simp at hj;subst hj;rw [show (⟨wr.heap.size + 1,0,none⟩:Addr).add 0=⟨(wr.alloc (.cells #[.int .u8 10] 5)).heap.size,0,none⟩ by rw [World.size_alloc]; unfold Addr.add; simp];exact Z4o _ _ _
     intro g2 cp2 w2 hown2 hgrow2 hfr2 hgl2;have hR2:=RepK.more HR.out HB.out.size HW1.out hgrow2 (hfr2.imp id fun e=>by rw [e,World.size_alloc,World.size_alloc]; exact Y0 _);have cl2:w2.cell? ⟨w0.heap.size + 1,256,none⟩=some (.slice p 0 cp):=hR2.1;have cf2:w2.frozen? ⟨w0.heap.size + 1,256,none⟩=false:=hR2.2.1;have co2:w2.cell? ⟨w0.heap.size + 1,10,none⟩=some (.slice none 0 0):=by simp [World.cell?,hR2.2.2.1,hC]
     have cf3:w2.frozen? ⟨w0.heap.size + 1,10,none⟩=false:=Lib.frozen_of_heap hR2.2.2.1 10;have hbl:w0.heap.size + 1 < w2.heap.size:=(Y1.1 hR2.2.2.1).1;have HR2:=lh hR2;have HC:=lh hC;have HO2:=lh hown2;clear hR2 hown2 hgrow2 cl co hfr2 hgl2 hC;go_wp2_with fail
     go_roundw
     case rel=>
      obtain ⟨C',n1,n2⟩:=RepK.next HR.out 10 110 rfl (by omega) (by intro i q e' hi hq; unfold ordR at hq; split at hq <;> (try split at hq) <;> (try split at hq) <;> simp at hq <;> omega) HR2.out.2.2.1 HR2.out.2.2.2.1 HR2.out.2.2.2.2.1 HR2.out.2.2.2.2.2 HO2.out (Y4 HB.out.size HR2.out.2.2.2.1.size) _ (grownCap_ge _ _ _ _) _;exact ⟨0 + 1,_,C',by omega,by first | rfl | (congr 1),lh n1,lh (HB.out.trans n2)⟩
     case measure=>decide
    ·obtain ⟨v, hC, hv⟩ := HR.out.at' 39 (by omega);have hv' : v = .slice none 0 0 := hv;subst hv';have co : wr.cell? ⟨w0.heap.size + 1, 39, none⟩ = some (.slice none 0 0) := by simp [World.cell?, HR.out.blk, hC]
     have heq:=fun w=>Z3c w none 0 0;have b0:(({ data:=#[39] }:ByteArray)[0]'(by decide)).toNat=39:=rfl;have hcv:=Z6x wr 39;have hcv':(convert 53 9 (.slice (some ⟨wr.heap.size,0,none⟩) 1 1)).run Tryz.prog (wr.alloc (.cells #[.int .u8 39] 5))=.ok (.string ⟨#[39]⟩) (wr.alloc (.cells #[.int .u8 39] 5)):=hcv;have hcb:=fun W=>run_bytes_of_string (P:=Tryz.prog) W 9 53 5 ⟨#[92,39]⟩ Yj Tryz.underlying53 Tryz.underlying5
     have hw1:Below wr.heap.size wr ((wr.alloc (.cells #[.int .u8 39] 5)).alloc (.cells #[.string ⟨#[39]⟩] 9)):=((Y2 _ _).alloc (Y0 _) _).alloc (by rw [World.size_alloc]; omega) _;have HW1:=lh hw1;clear hcv hw1
     go_wp2_with (at_builtin; go_must (refine wpList_append_lies _ rfl (.tmp 119) (.tmp 123) 72 rfl w0.heap.size 9 i0 (.string ByteArray.empty) 1 16 Tryz.underlying72 hi hz0 hz1 hz2 rfl (by decide) (.slice p 1 cp) 1 ((Zak.take 1).map Value.string) rfl ((HR.out.row.alloc _).alloc _) ⟨wr.heap.size + 1,0,none⟩ 1 1 [.string ⟨#[39]⟩] rfl rfl ?c1 (by intro u hu; simp at hu; subst hu; rfl) (by first | omega | (simp; omega)) (by unfold maxLen; omega) (by first | omega | (simp; omega)) (by have:=HW1.out.size; have:=HB.out.size; omega) ((wr.alloc (.cells #[.int .u8 39] 5)).alloc (.cells #[.string ⟨#[39]⟩] 9)).heap.size rfl ?_))
     case c1=>
      intro j u hj;match j,hj with
      | 0, hj =>
        simp at hj;subst hj;rw [show (⟨wr.heap.size + 1,0,none⟩:Addr).add 0=⟨(wr.alloc (.cells #[.int .u8 39] 5)).heap.size,0,none⟩ by rw [World.size_alloc]; unfold Addr.add; simp];exact Z4o _ _ _
     intro g2 cp2 w2 hown2 hgrow2 hfr2 hgl2;have hR2:=RepK.more HR.out HB.out.size HW1.out hgrow2 (hfr2.imp id fun e=>by rw [e,World.size_alloc,World.size_alloc]; exact Y0 _);have cl2:w2.cell? ⟨w0.heap.size + 1,256,none⟩=some (.slice p 1 cp):=hR2.1;have cf2:w2.frozen? ⟨w0.heap.size + 1,256,none⟩=false:=hR2.2.1;have co2:w2.cell? ⟨w0.heap.size + 1,39,none⟩=some (.slice none 0 0):=by simp [World.cell?,hR2.2.2.1,hC]
     have cf3:w2.frozen? ⟨w0.heap.size + 1,39,none⟩=false:=Lib.frozen_of_heap hR2.2.2.1 39;have hbl:w0.heap.size + 1 < w2.heap.size:=(Y1.1 hR2.2.2.1).1;have HR2:=lh hR2;have HC:=lh hC;have HO2:=lh hown2;clear hR2 hown2 hgrow2 cl co hfr2 hgl2 hC;go_wp2_with fail
     go_roundw
     case rel=>
      obtain ⟨C',n1,n2⟩:=RepK.next HR.out 39 39 rfl (by omega) (by intro i q e' hi hq; unfold ordR at hq; split at hq <;> (try split at hq) <;> (try split at hq) <;> simp at hq <;> omega) HR2.out.2.2.1 HR2.out.2.2.2.1 HR2.out.2.2.2.2.1 HR2.out.2.2.2.2.2 HO2.out (Y4 HB.out.size HR2.out.2.2.2.1.size) _ (grownCap_ge _ _ _ _) _;exact ⟨1 + 1,_,C',by omega,by first | rfl | (congr 1),lh n1,lh (HB.out.trans n2)⟩
     case measure=>decide
    ·obtain ⟨v, hC, hv⟩ := HR.out.at' 92 (by omega);have hv' : v = .slice none 0 0 := hv;subst hv';have co : wr.cell? ⟨w0.heap.size + 1, 92, none⟩ = some (.slice none 0 0) := by simp [World.cell?, HR.out.blk, hC]
     have heq:=fun w=>Z3c w none 0 0;have b0:(({ data:=#[92] }:ByteArray)[0]'(by decide)).toNat=92:=rfl;have hcv:=Z6x wr 92;have hcv':(convert 53 9 (.slice (some ⟨wr.heap.size,0,none⟩) 1 1)).run Tryz.prog (wr.alloc (.cells #[.int .u8 92] 5))=.ok (.string ⟨#[92]⟩) (wr.alloc (.cells #[.int .u8 92] 5)):=hcv;have hcb:=fun W=>run_bytes_of_string (P:=Tryz.prog) W 9 53 5 ⟨#[92,92]⟩ Yj Tryz.underlying53 Tryz.underlying5
     have hw1:Below wr.heap.size wr ((wr.alloc (.cells #[.int .u8 92] 5)).alloc (.cells #[.string ⟨#[92]⟩] 9)):=((Y2 _ _).alloc (Y0 _) _).alloc (by rw [World.size_alloc]; omega) _;have HW1:=lh hw1;clear hcv hw1
     go_wp2_with (at_builtin; go_must (refine wpList_append_lies _ rfl (.tmp 119) (.tmp 123) 72 rfl w0.heap.size 9 i0 (.string ByteArray.empty) 1 16 Tryz.underlying72 hi hz0 hz1 hz2 rfl (by decide) (.slice p 2 cp) 2 ((Zak.take 2).map Value.string) rfl ((HR.out.row.alloc _).alloc _) ⟨wr.heap.size + 1,0,none⟩ 1 1 [.string ⟨#[92]⟩] rfl rfl ?c1 (by intro u hu; simp at hu; subst hu; rfl) (by first | omega | (simp; omega)) (by unfold maxLen; omega) (by first | omega | (simp; omega)) (by have:=HW1.out.size; have:=HB.out.size; omega) ((wr.alloc (.cells #[.int .u8 92] 5)).alloc (.cells #[.string ⟨#[92]⟩] 9)).heap.size rfl ?_))
     case c1=>
      intro j u hj;match j,hj with
      | 0, hj =>
        simp at hj;subst hj;rw [show (⟨wr.heap.size + 1,0,none⟩:Addr).add 0=⟨(wr.alloc (.cells #[.int .u8 92] 5)).heap.size,0,none⟩ by rw [World.size_alloc]; unfold Addr.add; simp];exact Z4o _ _ _
     intro g2 cp2 w2 hown2 hgrow2 hfr2 hgl2;have hR2:=RepK.more HR.out HB.out.size HW1.out hgrow2 (hfr2.imp id fun e=>by rw [e,World.size_alloc,World.size_alloc]; exact Y0 _);have cl2:w2.cell? ⟨w0.heap.size + 1,256,none⟩=some (.slice p 2 cp):=hR2.1;have cf2:w2.frozen? ⟨w0.heap.size + 1,256,none⟩=false:=hR2.2.1;have co2:w2.cell? ⟨w0.heap.size + 1,92,none⟩=some (.slice none 0 0):=by simp [World.cell?,hR2.2.2.1,hC]
     have cf3:w2.frozen? ⟨w0.heap.size + 1,92,none⟩=false:=Lib.frozen_of_heap hR2.2.2.1 92;have hbl:w0.heap.size + 1 < w2.heap.size:=(Y1.1 hR2.2.2.1).1;have HR2:=lh hR2;have HC:=lh hC;have HO2:=lh hown2;clear hR2 hown2 hgrow2 cl co hfr2 hgl2 hC;go_wp2_with fail
     go_roundw
     case rel=>
      obtain ⟨C',n1,n2⟩:=RepK.next HR.out 92 92 rfl (by omega) (by intro i q e' hi hq; unfold ordR at hq; split at hq <;> (try split at hq) <;> (try split at hq) <;> simp at hq <;> omega) HR2.out.2.2.1 HR2.out.2.2.2.1 HR2.out.2.2.2.2.1 HR2.out.2.2.2.2.2 HO2.out (Y4 HB.out.size HR2.out.2.2.2.1.size) _ (grownCap_ge _ _ _ _) _;exact ⟨2 + 1,_,C',by omega,by first | rfl | (congr 1),lh n1,lh (HB.out.trans n2)⟩
     case measure=>decide
    ·go_wp2_with fail
     go_ret;exact ⟨w0.heap.size + 1,_,C,rfl,HR.out,HB.out⟩
end Go.Proofs.YtjcgkdfeplbajaaGreatDoor
namespace Go.Proofs
def Tryz.lays138_ren:Go.Shelf.Ren:=⟨fun | 138=>169 | 195=>170 | 218=>171 | 143=>172 | 219=>173 | 217=>43 | 225=>174 | 224=>175 | 267=>176 | 266=>63 | 314=>177 | n=>n,fun | 9=>9 | 3=>3 | 4=>4 | 5=>5 | 0=>0 | 46=>158 | 146=>237 | 51=>129 | n=>n,fun | 1=>4 | n=>n⟩
theorem Tryz.lays138:Go.Proofs.Lays.n138 Tryz.prog Tryz.lays138_ren:={
 mixed:=by kernel_rfl
 f138:=Tryz.func169.trans (congrArg some (by kernel_rfl))
 f143:=Tryz.func172.trans (congrArg some (by kernel_rfl))
 f195:=Tryz.func170.trans (congrArg some (by kernel_rfl))
 f217:=Tryz.func43.trans (congrArg some (by kernel_rfl))
 f218:=Tryz.func171.trans (congrArg some (by kernel_rfl))
 f219:=Tryz.func173.trans (congrArg some (by kernel_rfl))
 f224:=Tryz.func175.trans (congrArg some (by kernel_rfl))
 f225:=Tryz.func174.trans (congrArg some (by kernel_rfl))
 f266:=Tryz.func63.trans (congrArg some (by kernel_rfl))
 f267:=Tryz.func176.trans (congrArg some (by kernel_rfl))
 f314:=Tryz.func177.trans (congrArg some (by kernel_rfl))
 t0:=Tryz.underlying0
 a0:=Tryz.isAgg0
 z0:=Tryz.sizeOf0
 v0:=Tryz.zeroValue0
 t3:=Tryz.underlying3
 a3:=Tryz.isAgg3
 z3:=Tryz.sizeOf3
 v3:=Tryz.zeroValue3
 t4:=Tryz.underlying4
 a4:=Tryz.isAgg4
 z4:=Tryz.sizeOf4
 v4:=Tryz.zeroValue4
 t5:=Tryz.underlying5
 a5:=Tryz.isAgg5
 z5:=Tryz.sizeOf5
 v5:=Tryz.zeroValue5
 t9:=Tryz.underlying9
 a9:=Tryz.isAgg9
 z9:=Tryz.sizeOf9
 v9:=Tryz.zeroValue9
 t46:=Tryz.underlying158
 a46:=Tryz.isAgg158
 z46:=Tryz.sizeOf158
 v46:=Tryz.zeroValue158
 t51:=Tryz.underlying129
 a51:=Tryz.isAgg129
 z51:=Tryz.sizeOf129
 v51:=Tryz.zeroValue129
 t146:=Tryz.underlying237
 a146:=Tryz.isAgg237
 z146:=Tryz.sizeOf237
 v146:=Tryz.zeroValue237
 g1:=by kernel_rfl }
open Go.RowKit Go.Lib in
theorem Tryz.strings_Count_one (s:ByteArray) (c:UInt8) (w:World) :
 Calls Tryz.prog 169 #[.string s,.string ⟨#[c]⟩] w fun e w'=>e=.returned (.int .i64 (Lib.countByte s.data.toList c))∧w'=w:=Any.strings_Count_one Tryz.lays138 s c w
end Go.Proofs
