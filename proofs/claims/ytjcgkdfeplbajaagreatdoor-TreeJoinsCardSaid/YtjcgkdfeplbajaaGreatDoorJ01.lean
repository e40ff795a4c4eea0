/- General: rows, blocks, texts. -/
import Derived.WalkKit
import Derived.Laws.AppendOwn
import Derived.Lib.Hide
import Derived.Deep.AppendLies
import Derived.Test.YtjcgkdfeplbajaaGreatDoorProg
import Derived.Lib.Builder
import Derived.Deep.RegionHeld3
import Derived.Deep.RegionLaw
import Derived.Deep.DeepMust
import Derived.WalkSpells
import Derived.WalkLawsBesides
import Derived.Shelf.Strings.Builder1
import Derived.Shelf.LaysM
import Derived.Defers
import Derived.OrdersHeld
import Derived.Tactics
import Derived.KernelRfl
import Derived.Laws.World
namespace Go.Proofs.YtjcgkdfeplbajaaGreatDoor
open Go Go.RowKit
set_option maxRecDepth 100000
set_option maxHeartbeats 20000000
def Z1f (a b:ByteArray):Bool:=decide (a=b)
theorem Z7m {a b:ByteArray}:Z1f a b=true↔a=b:=by simp [Z1f]
theorem Z2r {a b:ByteArray} (h:a.toList=b.toList):a=b:=by
 obtain ⟨⟨a⟩⟩:=a; obtain ⟨⟨b⟩⟩:=b;simpa [ByteArray.toList_eq] using h
theorem Z6o (a b:ByteArray):(a.toList == b.toList)=Z1f a b:=by
 unfold Z1f;by_cases h:a=b;·simp [h]
 ·simp only [h,decide_false,beq_eq_false_iff_ne,ne_eq];exact fun e=>h (Z2r e)
theorem getElem?_flatMap {α β:Type} (f:α→List β) (m:Nat) (hf:∀ a,(f a).length=m) (l:List α) (i j:Nat) (hj:j < m) :
 (l.flatMap f)[i * m + j]?=(l[i]?).bind fun a=>(f a)[j]?:=by
 induction l generalizing i with
 | nil=>simp
 | cons a l ih =>
   rw [List.flatMap_cons];cases i with
   | zero=>rw [List.getElem?_append_left (by rw [hf]; omega)]; simp
   | succ i =>
     rw [List.getElem?_append_right (by rw [hf,Nat.succ_mul]; omega),hf,show (i + 1) * m + j - m=i * m + j by rw [Nat.succ_mul]; omega,ih];simp
theorem Zdv {w:World} {base:Nat} {e:TypeId} {m:Nat} {v:Value} {n:Nat} {α:Type} {f:α→List Value} {l:List α} (hf:∀ a,(f a).length=m)
 (h:w.ownsRow base e m v n (l.flatMap f)) {g:Nat} (hg:v.ownBlock=some g) {i j:Nat} {a:α} {x:Value} (hi:l[i]?=some a) (hj:(f a)[j]?=some x) :
 w.cell? ⟨g,i * m + j,none⟩=some x:=by
 have hjm:j < m:=by rw [← hf a]; exact (List.getElem?_eq_some_iff.1 hj).1
 have:=h.cells hg (i * m + j) x (by rw [getElem?_flatMap f m hf l i j hjm,hi]; exact hj);rwa [show ((⟨g,0,none⟩:Addr).add (i * m + j))=⟨g,i * m + j,none⟩ by unfold Addr.add; split <;> simp_all] at this
theorem Zr {w w':World} {base:Nat} {e:TypeId} {m:Nat} {v:Value} {n:Nat} {xs:List Value} (h:w.ownsRow base e m v n xs)
 (hb:∀ g,v.ownBlock=some g→w'.heap[g]?=w.heap[g]?):w'.ownsRow base e m v n xs:=by
 refine ⟨h.1,?_⟩;rcases h.2 with hn | ⟨g,cap,cur,rfl,hbg,hgg,rest⟩;·exact .inl hn
 ·exact .inr ⟨g,cap,cur,rfl,hbg,by rw [hb g rfl]; exact hgg,rest⟩
theorem Zm {w:World} {base:Nat} {e:TypeId} {m:Nat} {v:Value} {n:Nat} {xs:List Value} (h:w.ownsRow base e m v n xs) :
 (v=.slice none 0 0∧n=0)∨∃ g cap,v=.slice (some ⟨g,0,none⟩) n cap∧n≤cap∧cap≤maxLen∧g < w.heap.size:=by
 rcases h.2 with hn | ⟨g,cap,cur,rfl,_,hgg,h1,h2,_⟩;·exact .inl hn
 ·exact .inr ⟨g,cap,rfl,h1,h2,(Array.getElem?_eq_some_iff.1 hgg).1⟩
theorem Zu {w:World} {o:Obj} {p:Addr} (h:p.block < w.heap.size):(w.alloc o).cell? p=w.cell? p:=((Below.refl w.heap.size w).alloc (Nat.le_refl _) o).cell h
theorem Z0o {w:World} {o:Obj} {p:Addr} (h:p.block < w.heap.size):(w.alloc o).frozen? p=w.frozen? p:=((Below.refl w.heap.size w).alloc (Nat.le_refl _) o).frozen h
end Go.Proofs.YtjcgkdfeplbajaaGreatDoor
namespace Go.Proofs.YtjcgkdfeplbajaaGreatDoor
open Go Go.RowKit
set_option maxRecDepth 100000
set_option maxHeartbeats 20000000
theorem Z09 {w:World} {b o:Nat} {c:Array Value} {T:TypeId} {mk:Nat×Nat} (v:Value) (h:w.heap[b]?=some (.cells c T mk)) :
 (w.setCell ⟨b,o,none⟩ v).heap[b]?=some (.cells (c.setIfInBounds o v) T mk):=by
 simp [World.setCell,Array.getElem?_modify,h]
end Go.Proofs.YtjcgkdfeplbajaaGreatDoor
namespace Go.Proofs.YtjcgkdfeplbajaaGreatDoor
open Go Go.RowKit
set_option maxRecDepth 100000
set_option maxHeartbeats 20000000
theorem Tryz.sizeBuilder:(Tryz.prog.info? 55).map (·.size)=some 2:=by kernel_rfl
theorem Tryz.liesBuilder:liesAt Tryz.prog Tryz.prog.depth 55 (2 / Tryz.prog.cellsOf 55) 0 55 1=true:=by kernel_rfl
theorem Z3p (w:World) (b:Nat) (h0:w.cell? ⟨b,0,none⟩=some (.pointer none)) (hsh:w.shape? b=some (55,2)) (hfz:w.frozen? ⟨b,0,none⟩=false) :
 Calls Tryz.prog 39 #[.pointer (some ⟨b,0,none⟩)] w fun e w'=>e=.returned (.tuple #[])∧w'=w.setCell ⟨b,0,none⟩ (.pointer (some ⟨b,0,none⟩)):=by
 obtain ⟨j,hj,hjs⟩:=Option.map_eq_some_iff.1 Tryz.sizeBuilder;go_enter Tryz.func39,Tryz.ntmps39
 go_wp2;rw [Lib.run_to_unsafe w ⟨b,0,none⟩ Tryz.underlying52 Tryz.underlying77 hj (by rw [hjs]; decide) hsh (Nat.zero_lt_succ 1)];simp only [Result.andThen];rw [Oper.upon_value];go_wp2;rw [run_callFunc_extern Tryz.func61 (by kernel_rfl) (by kernel_rfl) (by kernel_rfl) (e:=Extern.AbiNoEscape.same) (by kernel_rfl)];rw [Lib.run_noEscape];simp only [Result.andThen];rw [Oper.upon_value];go_wp2;rw [Lib.run_from_unsafe w ⟨b,0,none⟩ Tryz.underlying77 Tryz.underlying52 hj hsh Tryz.liesBuilder];simp only [Result.andThen];rw [Oper.upon_value];go_wp2;go_end0
 exact ⟨rfl,rfl⟩
theorem Z43 (w:World) (b:Nat) (h0:w.cell? ⟨b,0,none⟩=some (.pointer (some ⟨b,0,none⟩))) :
 Calls Tryz.prog 39 #[.pointer (some ⟨b,0,none⟩)] w fun e w'=>e=.returned (.tuple #[])∧w'=w:=by
 obtain ⟨j,hj,_⟩:=Option.map_eq_some_iff.1 Tryz.sizeBuilder;go_enter Tryz.func39,Tryz.ntmps39
 go_wp2;rw [Lib.run_neq_ptr_same w _ Tryz.underlying52 hj];go_wp2;go_end0
 exact ⟨rfl,rfl⟩
structure BAt (B:Nat) (w:World) (b:Nat) (p v:Value) (bs:List Value):Prop where
 blk:w.heap[b]?=some (.cells #[p,v] 55 (0,0))
 ptr:p=.pointer none∨p=.pointer (some ⟨b,0,none⟩)
 own:w.ownsRow B 5 1 v bs.length bs
 ne:v.ownBlock≠some b
 le:B≤b
theorem Tryz.infoU8:(Tryz.prog.info? 5).map (fun i=>(i.zero,i.size,i.bytes))=some (some (.int .u8 0),1,1):=by kernel_rfl
structure BFr (w w':World) (b:Nat) (v v':Value):Prop where
 os:w'.os=w.os
 tape:w'.tape=w.tape
 output:w'.output=w.output
 size:w.heap.size≤w'.heap.size
 block:∀ k,k < w.heap.size→k≠b→v.ownBlock≠some k→w'.heap[k]?=w.heap[k]?
 row:v'.ownBlock=v.ownBlock∨∃ g,v'.ownBlock=some g∧w.heap.size≤g
theorem Z6a (B:Nat) (w:World) (b:Nat) (v:Value) (bs:List Value) (c:Int) (h:BAt B w b (.pointer (some ⟨b,0,none⟩)) v bs) (hn:bs.length < 1099511627776) :
 Calls Tryz.prog 17 #[.pointer (some ⟨b,0,none⟩),.int .u8 c] w fun e w'=>e=.returned .nilIface∧∃ v',BAt B w' b (.pointer (some ⟨b,0,none⟩)) v' (bs ++ [.int .u8 c])∧BFr w w' b v v':=by
 obtain ⟨i0,hi,hz0,hz1,hz2⟩:=info_parts Tryz.infoU8;have hbl:b < w.heap.size:=(Array.getElem?_eq_some_iff.1 h.blk).1;have h0:w.cell? ⟨b,0,none⟩=some (.pointer (some ⟨b,0,none⟩)):=by simp [World.cell?,h.blk]
 have h1:w.cell? ⟨b,1,none⟩=some v:=by simp [World.cell?,h.blk]
 have hz:w.frozen? ⟨b,1,none⟩=false:=by simp [World.frozen?,h.blk]
 have HC:=Lib.hid (Z43 w b h0);have HO:=Lib.hid h.own;have HB:=Lib.hid h;have hne:=h.ne;have hBb:=h.le;have HNE:=Lib.hid hne;obtain ⟨n,hnn⟩:∃ n,n=bs.length:=⟨_,rfl⟩
 rw [← hnn] at HO hn;have HNN:=Lib.hid hnn;clear h hne hnn h0;have haft:∀ o (w1:World),(w.alloc o).grownBy w1 v.ownBlock→w1.cell? ⟨b,1,none⟩=some v∧w1.frozen? ⟨b,1,none⟩=false:=fun o w1 hg=>
  ⟨(hg.cell_far ⟨b,1,none⟩ (by simp; omega) (fun e=>HNE.out e.symm)).trans ((Zu hbl).trans h1),(hg.frozen_far ⟨b,1,none⟩ (by simp; omega) (fun e=>HNE.out e.symm)).trans ((Z0o hbl).trans hz)⟩
 have HA:=Lib.hid haft;clear haft;go_enter Tryz.func17,Tryz.ntmps17
 go_wp2_with fail
 refine HC.out.mono ?_;rintro e w1 ⟨rfl,rfl⟩
 go_wp2_with (at_builtin; go_must (refine wpList_append_lies _ rfl (.tmp 11) (.tmp 13) 53 rfl B 5 i0 (.int .u8 0) 1 1 Tryz.underlying53 hi hz0 hz1 hz2 rfl (by decide) v n bs rfl (HO.out.alloc _) ⟨w1.heap.size,0,none⟩ 1 1 [.int .u8 c] rfl rfl (fun j u hu=>cell_one_new w1 _ _ j u hu) (by intro u hu; simp at hu; subst hu; rfl) (by first | omega | (simp; omega)) (by unfold maxLen; omega) (by first | omega | (simp; omega)) (by first | omega | (simp; omega)) (w1.heap.size + 1) (by simp) ?_); intro g cap w2 hown2 hgrow2 hat2 hgl2; obtain ⟨hc1,hf1⟩:=HA.out _ _ hgrow2; have HG:=Lib.hid hgrow2; have HW:=Lib.hid hown2; have HT:=Lib.hid hat2; clear hgrow2 hown2 hat2 hgl2)
 go_ret;refine ⟨rfl,.slice (some ⟨g,0,none⟩) (n + 1) cap,?_,?_⟩
 ·have hgb:g≠b:=by
   rcases HT.out with h | h;·exact fun e=>HNE.out (by rw [h,e])
   ·omega
  have hblk:w2.heap[b]?=some (.cells #[.pointer (some ⟨b,0,none⟩),v] 55 (0,0)):=(HG.out.block b (by simp; omega) (fun e=>HNE.out e.symm)).trans ((Below.heap_alloc _ _ _ hbl).trans HB.out.blk);refine ⟨Z09 _ hblk,.inr rfl,?_,by simp only [Value.ownBlock,ne_eq,Option.some.injEq]; exact hgb,hBb⟩;rw [List.length_append,← HNN.out];exact Zr HW.out fun g' hg'=>Below.heap_setCell _ _ _ _ (fun e=>hgb (by simp only [Value.ownBlock,Option.some.injEq] at hg'; rw [hg',e]))
 ·refine ⟨HG.out.os, HG.out.tape, HG.out.output, by rw [World.size_setCell]; have := HG.out.size; rw [World.size_alloc] at this; omega, fun k hk hkb hkv => ?_, ?_⟩;·exact (Below.heap_setCell _ _ _ _ hkb).trans ((HG.out.block k (by simp; omega) (fun e => hkv e.symm)).trans (Below.heap_alloc _ _ _ hk))
  ·rcases HT.out with h | h;·exact .inl h.symm
   ·exact .inr ⟨g,rfl,by omega⟩
theorem Z5n (B:Nat) (w:World) (b:Nat) (v:Value) (bs:List Value) (c:Int) (h':BAt B w b (.pointer none) v bs) (hn:bs.length < 1099511627776) :
 Calls Tryz.prog 17 #[.pointer (some ⟨b,0,none⟩),.int .u8 c] w fun e w'=>e=.returned .nilIface∧∃ v',BAt B w' b (.pointer (some ⟨b,0,none⟩)) v' (bs ++ [.int .u8 c])∧BFr w w' b v v':=by
 obtain ⟨i0,hi,hz0,hz1,hz2⟩:=info_parts Tryz.infoU8;have h0:w.cell? ⟨b,0,none⟩=some (.pointer none):=by simp [World.cell?,h'.blk]
 have hz0':w.frozen? ⟨b,0,none⟩=false:=by simp [World.frozen?,h'.blk]
 have HC:=Lib.hid (Z3p w b h0 (by simp [World.shape?,h'.blk]) hz0');have h:BAt B (w.setCell ⟨b,0,none⟩ (.pointer (some ⟨b,0,none⟩))) b (.pointer (some ⟨b,0,none⟩)) v bs:=
  ⟨Z09 _ h'.blk,.inr rfl,Zr h'.own fun g hg=>Below.heap_setCell _ _ _ _ (fun e=>h'.ne (by rw [hg]; exact congrArg some e)),h'.ne,h'.le⟩
 have HS:∀ k,k≠b→(w.setCell ⟨b,0,none⟩ (.pointer (some ⟨b,0,none⟩))).heap[k]?=w.heap[k]?:=fun k hk=>Below.heap_setCell _ _ _ _ hk;have HS:=Lib.hid HS;have hsz:(w.setCell ⟨b,0,none⟩ (.pointer (some ⟨b,0,none⟩))).heap.size=w.heap.size:=World.size_setCell ..;have HZ:=Lib.hid hsz;have hos:(w.setCell ⟨b,0,none⟩ (.pointer (some ⟨b,0,none⟩))).os=w.os∧(w.setCell ⟨b,0,none⟩ (.pointer (some ⟨b,0,none⟩))).tape=w.tape∧(w.setCell ⟨b,0,none⟩ (.pointer (some ⟨b,0,none⟩))).output=w.output:=⟨rfl,rfl,rfl⟩
 have HOS:=Lib.hid hos;clear h' h0 hz0' hsz hos;obtain ⟨w1,hw1⟩:∃ W,W=w.setCell ⟨b,0,none⟩ (.pointer (some ⟨b,0,none⟩)):=⟨_,rfl⟩
 rw [← hw1] at HC h HS HZ HOS;have hbl:b < w1.heap.size:=(Array.getElem?_eq_some_iff.1 h.blk).1;have h1:w1.cell? ⟨b,1,none⟩=some v:=by simp [World.cell?,h.blk]
 have hz:w1.frozen? ⟨b,1,none⟩=false:=by simp [World.frozen?,h.blk]
 have HO:=Lib.hid h.own;have HB:=Lib.hid h;have hne:=h.ne;have hBb:=h.le;have HNE:=Lib.hid hne;obtain ⟨n,hnn⟩:∃ n,n=bs.length:=⟨_,rfl⟩
 rw [← hnn] at HO hn;have HNN:=Lib.hid hnn;clear h hne hnn hw1;have haft:∀ o (w2:World),(w1.alloc o).grownBy w2 v.ownBlock→w2.cell? ⟨b,1,none⟩=some v∧w2.frozen? ⟨b,1,none⟩=false:=fun o w2 hg=>
  ⟨(hg.cell_far ⟨b,1,none⟩ (by simp; omega) (fun e=>HNE.out e.symm)).trans ((Zu hbl).trans h1),(hg.frozen_far ⟨b,1,none⟩ (by simp; omega) (fun e=>HNE.out e.symm)).trans ((Z0o hbl).trans hz)⟩
 have HA:=Lib.hid haft;clear haft;go_enter Tryz.func17,Tryz.ntmps17
 go_wp2_with fail
 refine HC.out.mono ?_;rintro e w1' ⟨rfl,hw⟩;rw [hw];clear hw w1'
 go_wp2_with (at_builtin; go_must (refine wpList_append_lies _ rfl (.tmp 11) (.tmp 13) 53 rfl B 5 i0 (.int .u8 0) 1 1 Tryz.underlying53 hi hz0 hz1 hz2 rfl (by decide) v n bs rfl (HO.out.alloc _) ⟨w1.heap.size,0,none⟩ 1 1 [.int .u8 c] rfl rfl (fun j u hu=>cell_one_new w1 _ _ j u hu) (by intro u hu; simp at hu; subst hu; rfl) (by first | omega | (simp; omega)) (by unfold maxLen; omega) (by first | omega | (simp; omega)) (by first | omega | (simp; omega)) (w1.heap.size + 1) (by simp) ?_); intro g cap w2 hown2 hgrow2 hat2 hgl2; obtain ⟨hc1,hf1⟩:=HA.out _ _ hgrow2; have HG:=Lib.hid hgrow2; have HW:=Lib.hid hown2; have HT:=Lib.hid hat2; clear hgrow2 hown2 hat2 hgl2)
 go_ret;refine ⟨rfl,.slice (some ⟨g,0,none⟩) (n + 1) cap,?_,?_⟩
 ·have hgb:g≠b:=by
   rcases HT.out with h | h;·exact fun e=>HNE.out (by rw [h,e])
   ·omega
  have hblk:w2.heap[b]?=some (.cells #[.pointer (some ⟨b,0,none⟩),v] 55 (0,0)):=(HG.out.block b (by simp; omega) (fun e=>HNE.out e.symm)).trans ((Below.heap_alloc _ _ _ hbl).trans HB.out.blk);refine ⟨Z09 _ hblk,.inr rfl,?_,by simp only [Value.ownBlock,ne_eq,Option.some.injEq]; exact hgb,hBb⟩;rw [List.length_append,← HNN.out];exact Zr HW.out fun g' hg'=>Below.heap_setCell _ _ _ _ (fun e=>hgb (by simp only [Value.ownBlock,Option.some.injEq] at hg'; rw [hg',e]))
 ·refine ⟨HG.out.os.trans HOS.out.1, HG.out.tape.trans HOS.out.2.1, HG.out.output.trans HOS.out.2.2, by rw [World.size_setCell]; have := HG.out.size; rw [World.size_alloc, HZ.out] at this; omega, fun k hk hkb hkv => ?_, ?_⟩;·exact (Below.heap_setCell _ _ _ _ hkb).trans ((HG.out.block k (by simp; have := HZ.out; omega) (fun e => hkv e.symm)).trans ((Below.heap_alloc _ _ _ (by have := HZ.out; omega)).trans (HS.out k hkb)))
  ·rcases HT.out with h | h;·exact .inl h.symm
   ·exact .inr ⟨g,rfl,by have:=HZ.out; omega⟩
end Go.Proofs.YtjcgkdfeplbajaaGreatDoor
namespace Go.Proofs
open Go.Shelf
def Tryz.lays170_ren:Go.Shelf.Ren:=⟨fun | 170=>41 | n=>n,fun | 70=>52 | 3=>3 | 0=>0 | 72=>55 | 37=>53 | 5=>5 | n=>n,fun | n=>n⟩
theorem Tryz.lays170:Go.Proofs.Lays.n170 Tryz.prog Tryz.lays170_ren:={
 mixed:=by kernel_rfl
 f170:=Tryz.func41.trans (congrArg some (by kernel_rfl))
 t0:=Tryz.underlying0
 a0:=Tryz.isAgg0
 z0:=Tryz.sizeOf0
 v0:=Tryz.zeroValue0
 t3:=Tryz.underlying3
 a3:=Tryz.isAgg3
 z3:=Tryz.sizeOf3
 v3:=Tryz.zeroValue3
 t37:=Tryz.underlying53
 a37:=Tryz.isAgg53
 z37:=Tryz.sizeOf53
 v37:=Tryz.zeroValue53
 t70:=Tryz.underlying52
 a70:=Tryz.isAgg52
 z70:=Tryz.sizeOf52
 v70:=Tryz.zeroValue52
 t72:=Tryz.underlying55
 a72:=Tryz.isAgg55
 z72:=Tryz.sizeOf55
 v72:=Tryz.zeroValue55 }
open Go.RowKit in
theorem Tryz.Builder_Len (B b:Nat) (bs:List Value) (w:World) (h:Lib.IsBuilder 55 5 B b bs w) :
 Calls Tryz.prog 41 #[.pointer (some ⟨b,0,none⟩)] w fun e w'=>e=.returned (.int .i64 bs.length)∧w'=w:=Any.Builder_Len Tryz.lays170 B b bs w h
def Tryz.lays169_ren:Go.Shelf.Ren:=⟨fun | 169=>18 | n=>n,fun | 70=>52 | 9=>9 | 0=>0 | 72=>55 | 37=>53 | 127=>93 | 3=>3 | 5=>5 | n=>n,fun | n=>n⟩
theorem Tryz.lays169:Go.Proofs.Lays.n169 Tryz.prog Tryz.lays169_ren:={
 mixed:=by kernel_rfl
 f169:=Tryz.func18.trans (congrArg some (by kernel_rfl))
 t0:=Tryz.underlying0
 a0:=Tryz.isAgg0
 z0:=Tryz.sizeOf0
 v0:=Tryz.zeroValue0
 t3:=Tryz.underlying3
 a3:=Tryz.isAgg3
 z3:=Tryz.sizeOf3
 v3:=Tryz.zeroValue3
 t9:=Tryz.underlying9
 a9:=Tryz.isAgg9
 z9:=Tryz.sizeOf9
 v9:=Tryz.zeroValue9
 t37:=Tryz.underlying53
 a37:=Tryz.isAgg53
 z37:=Tryz.sizeOf53
 v37:=Tryz.zeroValue53
 t70:=Tryz.underlying52
 a70:=Tryz.isAgg52
 z70:=Tryz.sizeOf52
 v70:=Tryz.zeroValue52
 t72:=Tryz.underlying55
 a72:=Tryz.isAgg55
 z72:=Tryz.sizeOf55
 v72:=Tryz.zeroValue55
 t127:=Tryz.underlying93
 a127:=Tryz.isAgg93
 z127:=Tryz.sizeOf93
 v127:=Tryz.zeroValue93 }
theorem Tryz.Builder_Extra_169:Builder.Extra Tryz.prog Tryz.lays169_ren:={
 sizeBuilder:=by kernel_rfl
 liesBuilder:=by kernel_rfl
 t5:=Tryz.underlying5
 a5:=Tryz.isAgg5
 z5:=Tryz.sizeOf5
 v5:=Tryz.zeroValue5
 infoByte:=by kernel_rfl
 cellsByte:=by kernel_rfl
 sizeByte:=by kernel_rfl
 neB5:=by decide }
open Go.RowKit in
theorem Tryz.Builder_String_any (B b:Nat) (l:List UInt8) (w:World) (h:Lib.IsBuilder 55 5 B b (Lib.byteCells l) w) (hBw:B≤w.heap.size) :
 Calls Tryz.prog 18 #[.pointer (some ⟨b,0,none⟩)] w fun e w'=>e=.returned (.string ⟨l.toArray⟩)∧Below B w w':=Any.Builder_String_any Tryz.lays169 Tryz.Builder_Extra_169 B b l w h hBw
end Go.Proofs
namespace Go.Proofs.YtjcgkdfeplbajaaGreatDoor
open Go Go.RowKit
set_option maxRecDepth 100000
set_option maxHeartbeats 20000000
theorem BAt.is {B:Nat} {w:World} {b:Nat} {p v:Value} {bs:List Value} (h:BAt B w b p v bs):Lib.IsBuilder 55 5 B b bs w:=by
 obtain ⟨hb,hp,ho,hn,hl⟩:=h;rcases hp with rfl | rfl;·exact .inl ⟨hl,v,hb,ho,hn⟩
 ·exact .inr ⟨hl,v,hb,ho,hn⟩
theorem Zey {B:Nat} {w:World} {b:Nat} {p v:Value} {bs:List Value} (h:BAt B w b p v bs) :
 Calls Tryz.prog 41 #[.pointer (some ⟨b,0,none⟩)] w fun e w'=>e=.returned (.int .i64 bs.length)∧w'=w:=Tryz.Builder_Len B b bs w h.is
theorem Z9z {B:Nat} {w:World} {b:Nat} {p v:Value} (l:List UInt8) (h:BAt B w b p v (Lib.byteCells l)) (hB:B≤w.heap.size) :
 Calls Tryz.prog 18 #[.pointer (some ⟨b,0,none⟩)] w fun e w'=>e=.returned (.string ⟨l.toArray⟩)∧Below B w w':=Tryz.Builder_String_any B b l w h.is hB
end Go.Proofs.YtjcgkdfeplbajaaGreatDoor
namespace Go.Proofs.YtjcgkdfeplbajaaGreatDoor
open Go Go.RowKit
set_option maxRecDepth 100000
set_option maxHeartbeats 20000000
set_option linter.unusedVariables false
theorem Z5l (B b:Nat) (bs:List Value) (w:World) (h:Lib.IsBuilder 55 5 B b bs w) :
 Calls Tryz.prog 39 #[.pointer (some ⟨b,0,none⟩)] w fun e w'=>e=.returned (.tuple #[])∧(Lib.BuilderAt 55 5 B b (.pointer (some ⟨b,0,none⟩)) bs w'∧Below B w w'):=by
 rcases h with h | h
 ·refine (Z3p w b h.cell0 h.shape h.frozen0).mono ?_;rintro e w' ⟨rfl,rfl⟩;exact ⟨rfl,h.used _,(Below.refl B w).setCell (p:=⟨b,0,none⟩) h.1 _⟩
 ·refine (Z43 w b h.cell0).mono ?_;rintro e w' ⟨rfl,rfl⟩;exact ⟨rfl,h,Below.refl B _⟩
theorem Zbt (B b:Nat) (bs:List Value) (c:Int) (w:World) (h:Lib.IsBuilder 55 5 B b bs w) (hlen:bs.length + 1≤140737488355328) (hBw:B≤w.heap.size) :
 Calls Tryz.prog 17 #[.pointer (some ⟨b,0,none⟩),.int .u8 c] w fun e w'=>e=.returned .nilIface∧(Lib.BuilderAt 55 5 B b (.pointer (some ⟨b,0,none⟩)) (bs ++ [.int .u8 c]) w'∧Below B w w'):=by
 obtain ⟨i0,hi,hz0,hz1,hz2⟩:=info_parts Tryz.infoU8;have HC:=Lib.hid (Z5l B b bs w h);clear h;go_enter Tryz.func17,Tryz.ntmps17
 go_wp2_with fail
 refine HC.out.mono ?_;rintro e w1 ⟨rfl,h1,hb1⟩;obtain ⟨hB,v,hbk,hown,hne⟩:=h1;have c0:w1.cell? ⟨b,0,none⟩=some (.pointer (some ⟨b,0,none⟩)):=by rw [Lib.cell_of_heap hbk]; rfl
 have c1:w1.cell? ⟨b,1,none⟩=some v:=by rw [Lib.cell_of_heap hbk]; rfl
 go_wp2_with (at_builtin; refine wpList_append_own _ rfl _ _ 53 rfl B 5 i0 (.int .u8 0) 1 1 Tryz.underlying53 hi hz0 hz1 hz2 rfl (by decide) _ _ _ rfl (hown.alloc _) ⟨w1.heap.size,0,none⟩ 1 1 [.int .u8 c] rfl rfl ?c1 ?c2 ?c3 ?c4 ?c5 ?_)
 case c1=>
  intro j u hj;match j,hj with
  | 0,hj=>simp at hj; subst hj; simp [Addr.add]
 case c2=>intro u hu; simp at hu; subst hu; rfl
 case c3=>unfold maxLen; omega
 case c4=>omega
 case c5=>have:=hb1.size; simp; omega
 intro v' w2 hown' hgrow _;have hlt:b < w1.heap.size:=by
  rcases Nat.lt_or_ge b w1.heap.size with h' | h';·exact h'
  ·simp [Array.getElem?_eq_none h'] at hbk
 have hb2:w2.heap[b]?=some (.cells #[.pointer (some ⟨b,0,none⟩),v] 55 (0,0)):=by
  rw [hgrow.block b (by simp; omega) (fun e=>hne e.symm),Lib.alloc_old w1 _ b hlt];exact hbk
 have d0:w2.cell? ⟨b,0,none⟩=some (.pointer (some ⟨b,0,none⟩)):=by rw [Lib.cell_of_heap hb2]; rfl
 have d1:w2.cell? ⟨b,1,none⟩=some v:=by rw [Lib.cell_of_heap hb2]; rfl
 have f1:w2.frozen? ⟨b,1,none⟩=false:=Lib.frozen_of_heap hb2 1;obtain ⟨g,cap,rfl⟩:∃ g cap,v'=.slice (some ⟨g,0,none⟩) (bs.length + 1) cap:=by
  rcases hown'.2 with ⟨_,h0⟩ | ⟨g,cap,cur,hv,_⟩;·omega
  ·exact ⟨g,cap,hv⟩
 go_wp2;go_ret;refine ⟨rfl,?_,?_⟩;·exact Lib.BuilderAt.put (T:=55) (e:=5) hB hb2 (bs':=bs ++ [.int .u8 c]) (by simpa using hown') (by decide)
 ·exact ((hb1.alloc (by have:=hb1.size; omega) _).grown hgrow (by have:=hb1.size; simp; omega) (fun k hk=>(hown.lt k hk).1)).setCell (p:=⟨b,1,none⟩) hB _
theorem Za2 (B b:Nat) (bs:List Value) (c:Int) (w:World) (h:Lib.IsBuilder 55 5 B b bs w) (hlen:bs.length + 1≤140737488355328) (hBw:B≤w.heap.size) (u:FrameMode) :
 CallsD Tryz.prog 17 #[.pointer (some ⟨b,0,none⟩),.int .u8 c] u w fun e u' w'=>u'=u∧(e=.returned .nilIface∧Lib.BuilderAt 55 5 B b (.pointer (some ⟨b,0,none⟩)) (bs ++ [.int .u8 c]) w'∧Below B w w'):=by
 obtain ⟨i0,hi,hz0,hz1,hz2⟩:=info_parts Tryz.infoU8;have HC:=Lib.hid (Z5l B b bs w h);clear h;go_enter_d Tryz.func17,Tryz.ntmps17
 go_wp2_with fail
 refine HC.out.mono ?_;rintro e w1 ⟨rfl,h1,hb1⟩;obtain ⟨hB,v,hbk,hown,hne⟩:=h1;have c0:w1.cell? ⟨b,0,none⟩=some (.pointer (some ⟨b,0,none⟩)):=by rw [Lib.cell_of_heap hbk]; rfl
 have c1:w1.cell? ⟨b,1,none⟩=some v:=by rw [Lib.cell_of_heap hbk]; rfl
 go_wp2_with (at_builtin; refine wpList_append_own _ rfl _ _ 53 rfl B 5 i0 (.int .u8 0) 1 1 Tryz.underlying53 hi hz0 hz1 hz2 rfl (by decide) _ _ _ rfl (hown.alloc _) ⟨w1.heap.size,0,none⟩ 1 1 [.int .u8 c] rfl rfl ?c1 ?c2 ?c3 ?c4 ?c5 ?_)
 case c1=>
  intro j u hj;match j,hj with
  | 0,hj=>simp at hj; subst hj; simp [Addr.add]
 case c2=>intro u hu; simp at hu; subst hu; rfl
 case c3=>unfold maxLen; omega
 case c4=>omega
 case c5=>have:=hb1.size; simp; omega
 intro v' w2 hown' hgrow _;have hlt:b < w1.heap.size:=by
  rcases Nat.lt_or_ge b w1.heap.size with h' | h';·exact h'
  ·simp [Array.getElem?_eq_none h'] at hbk
 have hb2:w2.heap[b]?=some (.cells #[.pointer (some ⟨b,0,none⟩),v] 55 (0,0)):=by
  rw [hgrow.block b (by simp; omega) (fun e=>hne e.symm),Lib.alloc_old w1 _ b hlt];exact hbk
 have d0:w2.cell? ⟨b,0,none⟩=some (.pointer (some ⟨b,0,none⟩)):=by rw [Lib.cell_of_heap hb2]; rfl
 have d1:w2.cell? ⟨b,1,none⟩=some v:=by rw [Lib.cell_of_heap hb2]; rfl
 have f1:w2.frozen? ⟨b,1,none⟩=false:=Lib.frozen_of_heap hb2 1;obtain ⟨g,cap,rfl⟩:∃ g cap,v'=.slice (some ⟨g,0,none⟩) (bs.length + 1) cap:=by
  rcases hown'.2 with ⟨_,h0⟩ | ⟨g,cap,cur,hv,_⟩;·omega
  ·exact ⟨g,cap,hv⟩
 go_wp2;go_ret;refine ⟨rfl,?_,?_⟩;·exact Lib.BuilderAt.put (T:=55) (e:=5) hB hb2 (bs':=bs ++ [.int .u8 c]) (by simpa using hown') (by decide)
 ·exact ((hb1.alloc (by have:=hb1.size; omega) _).grown hgrow (by have:=hb1.size; simp; omega) (fun k hk=>(hown.lt k hk).1)).setCell (p:=⟨b,1,none⟩) hB _
theorem Zcx (B b:Nat) (bs:List Value) (s:ByteArray) (w:World) (h:Lib.IsBuilder 55 5 B b bs w) (hlen:bs.length + s.size≤140737488355328) (hBw:B≤w.heap.size) :
 Calls Tryz.prog 36 #[.pointer (some ⟨b,0,none⟩),.string s] w fun e w'=>e=.returned (.tuple #[.int .i64 s.size,.nilIface])∧(Lib.BuilderAt 55 5 B b (.pointer (some ⟨b,0,none⟩)) (bs ++ Lib.strCells s) w'∧Below B w w'):=by
 obtain ⟨i0,hi,hz0,hz1,hz2⟩:=info_parts Tryz.infoU8;have HC:=Lib.hid (Z5l B b bs w h);clear h;go_enter Tryz.func36,Tryz.ntmps36
 go_wp2_with fail
 refine HC.out.mono ?_;rintro e w1 ⟨rfl,h1,hb1⟩;obtain ⟨hB,v,hbk,hown,hne⟩:=h1;have c0:w1.cell? ⟨b,0,none⟩=some (.pointer (some ⟨b,0,none⟩)):=by rw [Lib.cell_of_heap hbk]; rfl
 have c1:w1.cell? ⟨b,1,none⟩=some v:=by rw [Lib.cell_of_heap hbk]; rfl
 go_wp2_with (at_builtin; refine Lib.wpList_append_own_string _ rfl _ _ 53 9 rfl B 5 i0 Tryz.underlying53 Tryz.underlying9 hi hz0 hz1 hz2 _ _ _ rfl hown s rfl ?c3 ?c4 ?c5 ?_)
 case c3=>unfold maxLen; omega
 case c4=>omega
 case c5=>have:=hb1.size; omega
 intro v' w2 hown' hgrow _;have hlt:b < w1.heap.size:=by
  rcases Nat.lt_or_ge b w1.heap.size with h' | h';·exact h'
  ·simp [Array.getElem?_eq_none h'] at hbk
 have hb2:w2.heap[b]?=some (.cells #[.pointer (some ⟨b,0,none⟩),v] 55 (0,0)):=by
  rw [hgrow.block b hlt (fun e=>hne e.symm)];exact hbk
 have d0:w2.cell? ⟨b,0,none⟩=some (.pointer (some ⟨b,0,none⟩)):=by rw [Lib.cell_of_heap hb2]; rfl
 have d1:w2.cell? ⟨b,1,none⟩=some v:=by rw [Lib.cell_of_heap hb2]; rfl
 have f1:w2.frozen? ⟨b,1,none⟩=false:=Lib.frozen_of_heap hb2 1;obtain ⟨ao,n',cap,rfl⟩:∃ ao n' cap,v'=.slice ao n' cap:=by
  rcases hown'.2 with ⟨hv,_⟩ | ⟨g,cap,cur,hv,_⟩;·exact ⟨_,_,_,hv⟩
  ·exact ⟨_,_,_,hv⟩
 go_wp2;go_ret2
 refine ⟨rfl,?_,?_⟩;·exact Lib.BuilderAt.put (T:=55) (e:=5) hB hb2 (bs':=bs ++ Lib.strCells s) (by simpa [Lib.strCells_length] using hown') (by decide)
 ·exact (hb1.grown hgrow (by have:=hb1.size; omega) (fun k hk=>(hown.lt k hk).1)).setCell (p:=⟨b,1,none⟩) hB _
end Go.Proofs.YtjcgkdfeplbajaaGreatDoor
namespace Go.Proofs.YtjcgkdfeplbajaaGreatDoor
open Go Go.RowKit
set_option maxRecDepth 100000
set_option maxHeartbeats 20000000
def Z0p (c:Int):Bool:=(decide (97≤c) && decide (c≤122)) || decide (c=95)
def Z0l (c:Int):Bool:=decide (48≤c) && decide (c≤57)
def Z05 (c:Int):Bool:=decide (c=32) || decide (c=10)
def Z1u (c:Int):Bool:=Z0p c || Z0l c
theorem Z6d (w:World) (c:Int):Calls Tryz.prog 21 #[.int .u8 c] w fun e w'=>e=.returned (.bool (Z0p c))∧w'=w:=by
 by_cases h1:97≤c
 ·by_cases h2 : c ≤ 122
  ·have e : Z0p c = true := by simp [Z0p, h1, h2]
   rw [e];go_enter Tryz.func21,Tryz.ntmps21
   go_wp2;go_ret;exact ⟨rfl,rfl⟩
  ·have e : Z0p c = false := by simp [Z0p, h1, h2]; omega
   have h3:(c == 95)=false:=by simp; omega
   rw [e];go_enter Tryz.func21,Tryz.ntmps21
   go_wp2;go_ret;exact ⟨rfl,rfl⟩
 ·by_cases h3 : c = 95
  ·subst h3;go_enter Tryz.func21, Tryz.ntmps21
   go_wp2;go_ret;exact ⟨rfl,rfl⟩
  ·have e : Z0p c = false := by simp [Z0p, h1, h3]
   have h3':(c == 95)=false:=by simp [h3]
   rw [e];go_enter Tryz.func21,Tryz.ntmps21
   go_wp2;go_ret;exact ⟨rfl,rfl⟩
theorem Z5h (w:World) (c:Int):Calls Tryz.prog 23 #[.int .u8 c] w fun e w'=>e=.returned (.bool (Z0l c))∧w'=w:=by
 by_cases h1:48≤c
 ·by_cases h2 : c ≤ 57
  ·have e : Z0l c = true := by simp [Z0l, h1, h2]
   rw [e];go_enter Tryz.func23,Tryz.ntmps23
   go_wp2;go_ret;exact ⟨rfl,rfl⟩
  ·have e : Z0l c = false := by simp [Z0l, h2]
   rw [e];go_enter Tryz.func23,Tryz.ntmps23
   go_wp2;go_ret;exact ⟨rfl,rfl⟩
 ·have e : Z0l c = false := by simp [Z0l, h1]
  rw [e];go_enter Tryz.func23,Tryz.ntmps23
  go_wp2;go_ret;exact ⟨rfl,rfl⟩
theorem Zcd (w:World) (c:Int):Calls Tryz.prog 20 #[.int .u8 c] w fun e w'=>e=.returned (.bool (Z05 c))∧w'=w:=by
 by_cases h1:c=32
 ·subst h1;go_enter Tryz.func20, Tryz.ntmps20
  go_wp2;go_ret;exact ⟨rfl,rfl⟩
 ·have q1 : (c == 32) = false := by simp [h1]
  have e:Z05 c=(c == 10):=by simp [Z05,h1]; rfl
  rw [e];go_enter Tryz.func20,Tryz.ntmps20
  go_wp2;go_ret;exact ⟨rfl,rfl⟩
theorem Zcw (w:World) (c:Int):Calls Tryz.prog 22 #[.int .u8 c] w fun e w'=>e=.returned (.bool (Z1u c))∧w'=w:=by
 have HL:=Lib.hid (Z6d w c);have HD:=Lib.hid (Z5h w c);unfold Z1u;cases hl:Z0p c
 ·rw [hl] at HL;go_enter Tryz.func22, Tryz.ntmps22
  go_wp2_with fail
  refine HL.out.mono ?_;rintro e w1 ⟨rfl,rfl⟩;go_wp2_with fail
  refine HD.out.mono ?_;rintro e w1 ⟨rfl,rfl⟩;go_wp2;go_ret;exact ⟨rfl,rfl⟩
 ·rw [hl] at HL;go_enter Tryz.func22, Tryz.ntmps22
  go_wp2_with fail
  refine HL.out.mono ?_;rintro e w1 ⟨rfl,rfl⟩;go_wp2;go_ret;exact ⟨rfl,rfl⟩
end Go.Proofs.YtjcgkdfeplbajaaGreatDoor
namespace Go.Proofs.YtjcgkdfeplbajaaGreatDoor
open Go
section
variable {P:Program} {ops:Array Oper} {md:Region.Mode}
def Ends (K:Act→World→Prop) (Q:Exit→Act→World→Prop):Exit→Act→World→Prop
 | .normal,a,w=>K a w
 | e,a,w=>Q e a w
theorem Zel {Q Q':Exit→Act→World→Prop} {o:Oper} {a:Act} {w:World} {K:Act→World→Prop}
 (hp:∀ c a w,Q' (.panic c) a w→Q (.panic c) a w) (ho:LetsOut Q'→LetsOut Q) (h:o.wp P a w K Q'):o.wp P a w K Q:=by
 unfold Oper.wp at *;generalize (execOp a.eval o).run P w=r at *;cases r with
 | ok n w' =>
   cases n <;> simp only [Oper.upon] at h ⊢ <;>
    first
     | exact h
     | exact Calls.mono h (fun e w'' he=>by cases e <;> first | exact he | exact hp _ _ _ he | exact ho he)
 | halt x w'=>cases x <;> simp only [Oper.upon] at h ⊢ <;> exact hp _ _ _ h
theorem Zci {Q:Exit→Act→World→Prop} {R:Act→World→Prop} {i:Nat} {a:Act} {w:World} {K:Act→World→Prop}
 (h:wpOp P ops (Ends R Q) i K a w):wpOp P ops Q i K a w:=by
 unfold wpOp at *;split;·rename_i ho; simp only [ho] at h; exact h
 ·rename_i o ho;simp only [ho] at h;split
  ·rename_i hw;simp only [hw, if_true] at h;rcases h with h | ⟨h1, h2⟩;·exact .inl (Zel (fun _ _ _ h => h) (fun h => h) h)
   ·exact .inr ⟨h1,h2⟩
  ·rename_i hw; simp only [hw] at h; exact h
theorem Z6h {Q:Exit→Act→World→Prop}:∀ (f:Nat) (listed:Array Bool) (a:Act) (w:World),wpAny P md ops Q f listed a w→wpAny P md ops Q (f + 1) listed a w
 | 0,listed,a,w,h=>⟨fun _=>h.2,by rw [h.1]; simp⟩
 | f + 1,listed,a,w,h=>⟨h.1,fun i hi=>wpOp_mono (fun a' w' h'=>Z6h f _ a' w' h') (h.2 i hi)⟩
theorem Z99 {Q:Exit→Act→World→Prop} {f g:Nat} (hfg:f≤g) {listed:Array Bool} {a:Act} {w:World} (h:wpAny P md ops Q f listed a w):wpAny P md ops Q g listed a w:=by
 obtain ⟨d,rfl⟩:=Nat.exists_eq_add_of_le hfg;induction d with
 | zero=>exact h
 | succ d ih=>exact Z6h _ _ _ _ (ih (by omega))
theorem Z4q (m j:Nat):(Array.replicate m false).getD j false=false:=by
 rcases Nat.lt_or_ge j m with h | h <;> simp [h]
def Z0s (l:List Nat) (m:Array Bool):Array Bool:=l.foldl (fun m i=>m.setIfInBounds i true) m
theorem Z2d (l:List Nat) (m:Array Bool):(Z0s l m).size=m.size:=by
 unfold Z0s;induction l generalizing m with
 | nil=>rfl
 | cons i l ih=>simp only [List.foldl_cons]; rw [ih]; simp
theorem Z2g {l:List Nat} {m:Array Bool} {j:Nat} (d:Bool) (h:j ∉ l):(Z0s l m).getD j d=m.getD j d:=by
 unfold Z0s;induction l generalizing m with
 | nil=>rfl
 | cons i l ih =>
   simp only [List.mem_cons,not_or] at h;simp only [List.foldl_cons];rw [ih h.2,getD_set_ne d (Ne.symm h.1)]
theorem Z27 {l:List Nat} {m:Array Bool} {j:Nat} (h:m.getD j false=true):(Z0s l m).getD j false=true:=by
 unfold Z0s;induction l generalizing m with
 | nil=>exact h
 | cons i l ih=>simp only [List.foldl_cons]; exact ih (getD_set_true h)
theorem Z2x {l:List Nat} {m:Array Bool} {j:Nat} (h:j∈l) (hj:j < m.size):(Z0s l m).getD j false=true:=by
 unfold Z0s;induction l generalizing m with
 | nil=>cases h
 | cons i l ih =>
   simp only [List.foldl_cons];rcases List.mem_cons.1 h with rfl | h;·exact Z27 (l:=l) (by simp [hj])
   ·exact ih h (by simpa using hj)
theorem Z6u (m:Array Bool) (i j:Nat):(m.setIfInBounds i true).setIfInBounds j true=(m.setIfInBounds j true).setIfInBounds i true:=by
 by_cases h:i=j;·subst h; rfl
 ·exact Array.setIfInBounds_comm _ _ h
theorem Z8d (l:List Nat) (m:Array Bool) (i:Nat):Z0s l (m.setIfInBounds i true)=(Z0s l m).setIfInBounds i true:=by
 unfold Z0s;induction l generalizing m with
 | nil=>rfl
 | cons j l ih=>simp only [List.foldl_cons]; rw [Z6u,ih]
def Closed (md:Region.Mode) (ops:Array Oper) (m:Array Bool):Prop:=
 ∀ j o,ops[j]?=some o→m.getD j false=true→∀ e∈o.after,Region.binds md e=true→m.getD e.on false=true
theorem Closed.set {m:Array Bool} (h:Closed md ops m) {i:Nat} (hi:i∈Region.ready md ops m):Closed md ops (m.setIfInBounds i true):=by
 obtain ⟨_,oi,hoi,hall⟩:=mem_ready.1 hi;intro j o hj hl e he hb;by_cases hij:i=j
 ·subst hij;have:o=oi:=Option.some.inj (hj.symm.trans hoi);subst this;exact getD_set_true (hall e he hb)
 ·rw [getD_set_ne false hij] at hl;exact getD_set_true (h j o hj hl e he hb)
def Z38 (md:Region.Mode) (ops:Array Oper) (m:Array Bool) (j:Nat):Array Bool:=
 match ops[j]? with
 | some o=>o.after.toList.foldl (fun m e=>if Region.binds md e then m.setIfInBounds e.on true else m) m
 | none=>m
def Zf0 (md:Region.Mode) (ops:Array Oper) (t:Nat):Array Bool:=
 (List.range t).reverse.foldl (fun m j=>if m.getD j false then Z38 md ops m j else m) (Z38 md ops (Array.replicate ops.size false) t)
theorem Z4l {m listed:Array Bool} (hm:∀ k,m.getD k false=true→listed.getD k false=true) {j:Nat}
 (hj:∀ o,ops[j]?=some o→∀ e∈o.after,Region.binds md e=true→listed.getD e.on false=true):∀ k,(Z38 md ops m j).getD k false=true→listed.getD k false=true:=by
 unfold Z38;cases ho:ops[j]? with
 | none=>exact hm
 | some o =>
   simp only;have hall:=hj o ho
   have:∀ (l:List Edge),(∀ e∈l,Region.binds md e=true→listed.getD e.on false=true)→∀ m:Array Bool,(∀ k,m.getD k false=true→listed.getD k false=true) →
    ∀ k,(l.foldl (fun m e=>if Region.binds md e then m.setIfInBounds e.on true else m) m).getD k false=true→listed.getD k false=true:=by
    intro l;induction l with
    | nil=>intro _ m hm; exact hm
    | cons e l ih =>
      intro he m hm;simp only [List.foldl_cons];refine ih (fun e' h'=>he e' (List.mem_cons_of_mem _ h')) _ fun k hk=>?_;by_cases hb:Region.binds md e=true
      ·rw [if_pos hb] at hk;by_cases hke : e.on = k;·subst hke; exact he e (List.mem_cons_self ..) hb
       ·rw [getD_set_ne false hke] at hk; exact hm k hk
      ·rw [if_neg hb] at hk; exact hm k hk
   exact this o.after.toList (fun e he=>hall e (Array.mem_toList_iff.1 he)) m hm
theorem Zb3 {listed:Array Bool} (hc:Closed md ops listed) {t:Nat} (ht:∀ o,ops[t]?=some o→∀ e∈o.after,Region.binds md e=true→listed.getD e.on false=true) :
 ∀ k,(Zf0 md ops t).getD k false=true→listed.getD k false=true:=by
 unfold Zf0;have h0:∀ k,(Z38 md ops (Array.replicate ops.size false) t).getD k false=true→listed.getD k false=true:=
  Z4l (fun k hk=>by
   rcases Nat.lt_or_ge k ops.size with h | h;·simp [h] at hk
   ·simp [h] at hk) ht
 have:∀ (l:List Nat) (m:Array Bool),(∀ k,m.getD k false=true→listed.getD k false=true) →
  ∀ k,(l.foldl (fun m j=>if m.getD j false then Z38 md ops m j else m) m).getD k false=true→listed.getD k false=true:=by
  intro l;induction l with
  | nil=>intro m hm; exact hm
  | cons j l ih =>
    intro m hm;simp only [List.foldl_cons];refine ih _ ?_;by_cases hj:m.getD j false=true
    ·rw [if_pos hj];exact Z4l hm (fun o ho e he hb=>hc j o ho (hm j hj) e he hb)
    ·rw [if_neg hj]; exact hm
 exact this _ _ h0
def waits (md:Region.Mode) (ops:Array Oper) (j i:Nat):Bool:=
 match ops[j]? with
 | some o=>o.after.any fun e=>Region.binds md e && e.on == i
 | none=>false
def Zav (md:Region.Mode) (ops:Array Oper):Bool:=
 (List.range ops.size).all fun j=>match ops[j]? with | some o=>o.after.all fun e=>!Region.binds md e || decide (e.on < j) | none=>true
def Z6q (md:Region.Mode) (ops:Array Oper):Nat→List Nat→Bool
 | _,[]=>true
 | t,u :: r=>waits md ops u t && Z6q md ops u r
def Z2j (md:Region.Mode) (ops:Array Oper):List Nat→Bool
 | []=>false
 | t :: r=>Zav md ops && ((t :: r).all fun j=>decide (j < ops.size)) && ((List.range ops.size).all fun j=>(t :: r).contains j || (Zf0 md ops t).getD j false) && Z6q md ops t r
def Z8g (md:Region.Mode) (ops:Array Oper):List Nat→Array Bool→Bool
 | [],listed=>(Region.ready md ops listed).isEmpty
 | t :: r,listed=>decide (Region.ready md ops listed=[t]) && Z8g md ops r (listed.setIfInBounds t true)
theorem Z7i {t:Nat}:∀ {r:List Nat},Z6q md ops t r=true→∀ u∈r,∃ s∈t :: r,waits md ops u s=true:=by
 intro r;induction r generalizing t with
 | nil=>intro _ u hu; cases hu
 | cons v r ih =>
   intro h u hu;simp only [Z6q,Bool.and_eq_true] at h;rcases List.mem_cons.1 hu with rfl | hu;·exact ⟨t,List.mem_cons_self ..,h.1⟩
   ·obtain ⟨s,hs,hw⟩:=ih h.2 u hu;exact ⟨s,List.mem_cons_of_mem _ hs,hw⟩
theorem Z6b {j i:Nat} (h:waits md ops j i=true) {m:Array Bool} (hj:j∈Region.ready md ops m):m.getD i false=true:=by
 obtain ⟨_,o,ho,hall⟩:=mem_ready.1 hj;unfold waits at h;rw [ho] at h;obtain ⟨e,he,hb⟩:=Array.any_eq_true'.1 h;simp only [Bool.and_eq_true,beq_iff_eq] at hb;rw [← hb.2];exact hall e he hb.1
theorem Zbv {ph:List Nat} (hB:Z2j md ops ph=true) {m:Array Bool} (hc:Closed md ops m) (hun:∀ t∈ph,m.getD t false=false)
 {j:Nat} (hj:j < ops.size) (hjp:j ∉ ph) (hju:m.getD j false=false):∀ t∈ph,t ∉ Region.ready md ops m:=by
 cases ph with
 | nil=>simp [Z2j] at hB
 | cons t r =>
   simp only [Z2j,Bool.and_eq_true] at hB;obtain ⟨⟨⟨_,_⟩,hd⟩,hch⟩:=hB;intro u hu hr;rcases List.mem_cons.1 hu with rfl | hu'
   ·obtain ⟨_,o,ho,hall⟩:=mem_ready.1 hr;have h1:=List.all_eq_true.1 hd j (List.mem_range.2 hj);simp only [Bool.or_eq_true,List.contains_eq_mem,decide_eq_true_eq] at h1;have h2:=h1.resolve_left hjp;have:=Zb3 hc (t:=u) (fun o' ho' e he hb=>by
     have:o'=o:=Option.some.inj (ho'.symm.trans ho);subst this;exact hall e he hb) j h2
    rw [hju] at this;cases this
   ·obtain ⟨s,hs,hw⟩:=Z7i hch u hu';have h3:=Z6b hw hr;rw [hun s hs] at h3;cases h3
theorem Z72 {m:Array Bool} {j:Nat} (h:j < m.size):m.getD j true=m.getD j false:=by simp [h]
theorem Z4x (hB:Zav md ops=true) {m:Array Bool} (hs:m.size=ops.size):∀ j,j < ops.size→m.getD j false=false→Region.ready md ops m≠[]:=by
 intro j;induction j using Nat.strongRecOn with
 | _ j ih =>
   intro hj hju;have ho:ops[j]?=some ops[j]:=Array.getElem?_eq_getElem hj;have h1:=List.all_eq_true.1 hB j (List.mem_range.2 hj);rw [ho] at h1;simp only [Array.all_eq_true_iff_forall_mem,Bool.or_eq_true,Bool.not_eq_true',decide_eq_true_eq] at h1;by_cases hall:∀ e∈ops[j].after,Region.binds md e=true→m.getD e.on false=true
   ·intro h0;have:j∈Region.ready md ops m:=mem_ready.2 ⟨by rw [Z72 (by omega)]; exact hju,_,ho,hall⟩;rw [h0] at this;cases this
   ·simp only [Classical.not_forall] at hall;obtain ⟨e,he,hb,hn⟩:=hall;have hlt:e.on < j:=(h1 e he).resolve_left (by simp [hb]);exact ih e.on hlt (by omega) (by simpa using hn)
theorem Z4s {Q:Exit→Act→World→Prop}:∀ (l:List Nat) (listed:Array Bool) (a:Act) (w:World),Z8g md ops l listed=true →
 wpList P ops Q (l.filterMap (ops[·]?)) a w→wpAny P md ops Q l.length listed a w
 | [],listed,a,w,hB,h=>⟨by simpa [Z8g] using hB,h⟩
 | t :: l, listed, a, w, hB, h => by
   simp only [Z8g,Bool.and_eq_true,decide_eq_true_eq] at hB;refine ⟨fun h1=>(by rw [hB.1] at h1; cases h1),fun i hi=>?_⟩;have hi':=hi;rw [hB.1] at hi;have hit:i=t:=by simpa using hi
   subst hit;obtain ⟨_,o,ho,_⟩:=mem_ready.1 hi';rw [List.filterMap_cons,ho] at h;simp only [wpList] at h;have hw:wpOp P ops Q i (wpList P ops Q (l.filterMap (ops[·]?))) a w:=by unfold wpOp; simp only [ho]; exact h
   exact wpOp_mono (fun a' w' h'=>Z4s l _ a' w' hB.2 h') hw
theorem Z5g {Q:Exit→Act→World→Prop} {ph:List Nat} (hB:Z2j md ops ph=true) (hseq:∀ m:Array Bool,m.size=ops.size→(∀ j,j < ops.size→m.getD j false=!ph.contains j)→Z8g md ops ph m=true) :
 ∀ (f : Nat) (listed : Array Bool) (a : Act) (w : World), listed.size = ops.size → Closed md ops listed → (∀ t ∈ ph, listed.getD t false = false) →
   wpAny P md ops (Ends (wpList P ops Q (ph.filterMap (ops[·]?))) Q) f (Z0s ph listed) a w→wpAny P md ops Q (f + ph.length) listed a w:=by
 have hback:Zav md ops=true:=by
  cases ph with
  | nil=>simp [Z2j] at hB
  | cons t r=>simp only [Z2j,Bool.and_eq_true] at hB; exact hB.1.1.1
 have hin:∀ t∈ph,t < ops.size:=by
  cases ph with
  | nil=>simp [Z2j] at hB
  | cons t r =>
    simp only [Z2j,Bool.and_eq_true] at hB;intro u hu;simpa using List.all_eq_true.1 hB.1.1.2 u hu
 have fin:∀ (g:Nat) (listed:Array Bool) (a:Act) (w:World),listed.size=ops.size→(∀ t∈ph,listed.getD t false=false)→(∀ j,j < ops.size→j ∉ ph→listed.getD j false=true) →
  wpList P ops Q (ph.filterMap (ops[·]?)) a w→wpAny P md ops Q (g + ph.length) listed a w:=by
  intro g listed a w hs hun hall h;refine Z99 (Nat.le_add_left _ _) (Z4s ph listed a w (hseq listed hs fun j hj=>?_) h);by_cases hjp:j∈ph;·rw [hun j hjp]; simp [hjp]
  ·rw [hall j hj hjp]; simp [hjp]
 have done:∀ (listed:Array Bool),listed.size=ops.size→Region.ready md ops (Z0s ph listed)=[]→∀ j,j < ops.size→j ∉ ph→listed.getD j false=true:=by
  intro listed hs hr j hj hjp;cases h:listed.getD j false with
  | true=>rfl
  | false=>exact absurd hr (Z4x hback (by rw [Z2d]; exact hs) j hj (by rw [Z2g false hjp]; exact h))
 intro f;induction f with
 | zero =>
   intro listed a w hs hc hun h;exact fin 0 listed a w hs hun (done listed hs h.1) h.2
 | succ f ih =>
   intro listed a w hs hc hun h;by_cases hall:∀ j,j < ops.size→j ∉ ph→listed.getD j false=true
   ·refine fin (f + 1) listed a w hs hun hall (h.1 ?_);refine List.eq_nil_iff_forall_not_mem.2 fun i hi => ?_;obtain ⟨h0, o, ho, _⟩ := mem_ready.1 hi;have hil : i < ops.size := (Array.getElem?_eq_some_iff.1 ho).1;rw [Z72 (by rw [Z2d]; omega)] at h0;by_cases hip : i ∈ ph;·rw [Z2x hip (by omega)] at h0; cases h0
    ·rw [Z2g false hip,hall i hil hip] at h0; cases h0
   ·simp only [Classical.not_forall] at hall;obtain ⟨j, hj, hjp, hju⟩ := hall;have hju' : listed.getD j false = false := by simpa using hju
    have hnr:=Zbv hB hc hun hj hjp hju';rw [show f + 1 + ph.length=(f + ph.length) + 1 by omega];refine ⟨fun h0=>absurd h0 (Z4x hback hs j hj hju'),fun i hi=>?_⟩;have hip:i ∉ ph:=fun hp=>hnr i hp hi;obtain ⟨h0,o,ho,hae⟩:=mem_ready.1 hi;have hi':i∈Region.ready md ops (Z0s ph listed):=mem_ready.2 ⟨by rw [Z2g true hip]; exact h0,o,ho,fun e he hb=>Z27 (hae e he hb)⟩;refine wpOp_mono (fun a' w' h'=>?_) (Zci (h.2 i hi'));refine ih _ a' w' (by simpa using hs) (hc.set hi) (fun t ht=>?_) (by rw [Z8d]; exact h');rw [getD_set_ne false (by rintro rfl; exact hip ht)]
    exact hun t ht
def Z2m (P:Program) (ops:Array Oper) (Q:Exit→Act→World→Prop) (S:World→Prop):List (Bool×Oper)→Act→World→Prop
 | [],a,w=>Q .normal a w
 | (true,o) :: r,a,w=>∃ v,YieldsIf P ops S o v a∧Z2m P ops Q S r (a.put o.dst v) w
 | (false,o) :: r,a,w=>if Region.wanted o (yielded ops a.tmps)=true then o.wp P a w (fun a' w'=>S w'∧Z2m P ops Q S r a' w') Q else Z2m P ops Q S r (a.put o.dst undef) w
def Z89 (md:Region.Mode) (ops:Array Oper):List (Bool×Nat)→Array Bool→Bool
 | [],listed=>(Region.ready md ops listed).isEmpty
 | (true,i) :: r,listed=>(Region.ready md ops listed).contains i && Region.free md ops listed i && Z89 md ops r (listed.setIfInBounds i true)
 | (false,i) :: r,listed=>decide (Region.ready md ops listed=[i]) && Z89 md ops r (listed.setIfInBounds i true)
def Zj (ops:Array Oper) (l:List (Bool×Nat)):List (Bool×Oper):=l.filterMap fun x=>(ops[x.2]?).map fun o=>(x.1,o)
theorem Z35 {Q:Exit→Act→World→Prop} {S:World→Prop} (hsel:Region.noSelect ops=true) (hQ:∀ c a d v w,Q (.panic c) (Act.put a d v) w→Q (.panic c) a w) :
 ∀ (l:List (Bool×Nat)) (listed:Array Bool) (a:Act) (w:World),Z89 md ops l listed=true→S w→Z2m P ops Q S (Zj ops l) a w→wpAnyH P md ops Q S l.length listed a w
 | [],listed,a,w,hB,_,h=>⟨by simpa [Z89] using hB,h⟩
 | (true, i) :: l, listed, a, w, hB, hS, h => by
   simp only [Z89,Bool.and_eq_true] at hB;obtain ⟨⟨hr,hf⟩,hB'⟩:=hB;obtain ⟨_,o,ho,_⟩:=mem_ready.1 (show i∈Region.ready md ops listed by simpa using hr);have e:Zj ops ((true,i) :: l)=(true,o) :: Zj ops l:=by simp [Zj,ho]
   rw [e] at h;obtain ⟨v,hy,h'⟩:=h;exact wpAnyH_take ho hsel hf hr (fun c a w=>hQ c a _ _ w) hy hS (Z35 hsel hQ l _ _ w hB' hS h')
 | (false, i) :: l, listed, a, w, hB, hS, h => by
   simp only [Z89,Bool.and_eq_true,decide_eq_true_eq] at hB;obtain ⟨hr,hB'⟩:=hB;obtain ⟨_,o,ho,_⟩:=mem_ready.1 (show i∈Region.ready md ops listed by rw [hr]; simp);have e:Zj ops ((false,i) :: l)=(false,o) :: Zj ops l:=by simp [Zj,ho]
   rw [e] at h;refine wpAnyH_all hr (by simp) fun k hk=>?_;have hki:k=i:=by simpa using hk
   subst hki;unfold wpOp;simp only [ho];unfold Z2m at h;split at h
   ·rename_i hw;rw [if_pos hw];exact .inl (Oper.wp_mono (fun a' w' h'=>⟨h'.1,Z35 hsel hQ l _ a' w' hB' h'.1 h'.2⟩) h)
   ·rename_i hw;rw [if_neg hw];exact ⟨hS,Z35 hsel hQ l _ _ w hB' hS h⟩
theorem Z7 {Q:Exit→Act→World→Prop} {S:World→Prop} {o:Oper} {r:List (Bool×Oper)} {a:Act} {w:World} (v:Value)
 (hw:Region.wanted o (yielded ops a.tmps)=true) (hy:∀ w',S w'→(execOp a.eval o).run P w'=.ok (.value v) w') (h:Z2m P ops Q S r (a.put o.dst v) w):Z2m P ops Q S ((true,o) :: r) a w:=
 ⟨v,.inl ⟨hw,hy⟩,h⟩
theorem Z6 {Q:Exit→Act→World→Prop} {S:World→Prop} {o:Oper} {r:List (Bool×Oper)} {a:Act} {w:World}
 (hw:Region.wanted o (yielded ops a.tmps)=false) (h:Z2m P ops Q S r (a.put o.dst undef) w):Z2m P ops Q S ((true,o) :: r) a w:=
 ⟨undef,.inr ⟨hw,rfl⟩,h⟩
theorem Zd {Q:Exit→Act→World→Prop} {S:World→Prop} {o:Oper} {r:List (Bool×Oper)} {a:Act} {w:World}
 (h:∀ K:Act→World→Prop,(∀ a' w',S w'→Z2m P ops Q S r a' w'→K a' w')→if Region.wanted o (yielded ops a.tmps)=true then o.wp P a w K Q else K (a.put o.dst undef) w) :
 Z2m P ops Q S ((false,o) :: r) a w:=by
 unfold Z2m;by_cases hw:Region.wanted o (yielded ops a.tmps)=true
 ·rw [if_pos hw];have:=h (fun a' w'=>S w'∧Z2m P ops Q S r a' w') (fun _ _ h1 h2=>⟨h1,h2⟩);rwa [if_pos hw] at this
 ·rw [if_neg hw];have:=h (fun a' w'=>S w'∧Z2m P ops Q S r a' w') (fun _ _ h1 h2=>⟨h1,h2⟩);rw [if_neg hw] at this;exact this.2
theorem Zb {Q:Exit→Act→World→Prop} {S:World→Prop} {a:Act} {w:World} {l:List Oper} (h:wpList P ops Q l a w):Z2m P ops (Ends (wpList P ops Q l) Q) S [] a w:=h
def allB (md:Region.Mode) (ops:Array Oper) (plan:List (Bool×Nat)) (ph:List Nat):Bool:=
 Region.noSelect ops && Z2j md ops ph && Z8g md ops ph (((List.range ops.size).map fun j=>!ph.contains j).toArray) && Z89 md ops plan (Z0s ph (Array.replicate ops.size false)) && decide (plan.length + ph.length=ops.size)
theorem Z4 {Q:Exit→Act→World→Prop} {id:Nat} {l:List Oper} {a:Act} {w:World} (plan:List (Bool×Nat)) (ph:List Nat) (S:World→Prop) (hm:P.follows .mixedOrders=true)
 (hB:allB .any l.toArray plan ph=true) (hQ:∀ c a d v w,Q (.panic c) (Act.put a d v) w→Q (.panic c) a w) (hS:S w.drew)
 (h:S w.drew→Z2m P l.toArray (Ends (wpList P l.toArray Q (ph.filterMap (l.toArray[·]?))) Q) S (Zj l.toArray plan) a w.drew):(Code.region id l.toArray true).wp P Q a w:=by
 simp only [allB,Bool.and_eq_true,decide_eq_true_eq] at hB;obtain ⟨⟨⟨⟨hsel,hph⟩,hseq⟩,hplan⟩,hlen⟩:=hB;refine wp_region_any hm ?_;have hin:∀ t∈ph,t < l.toArray.size:=by
  cases ph with
  | nil=>simp [Z2j] at hph
  | cons t r =>
    simp only [Z2j,Bool.and_eq_true] at hph;intro u hu;simpa using List.all_eq_true.1 hph.1.1.2 u hu
 have H:=Z35 (P:=P) (md:=.any) (Q:=Ends (wpList P l.toArray Q (ph.filterMap (l.toArray[·]?))) Q) hsel hQ plan _ a w.drew hplan hS (h hS);have key:=Z5g (Q:=Q) hph (fun m hs hm'=>?_) plan.length (Array.replicate l.toArray.size false) a w.drew (by simp) ?_ ?_ (wpAny_of_held _ _ _ _ H);·rw [hlen] at key; exact key
 ·have:m=((List.range l.toArray.size).map fun j=>!ph.contains j).toArray:=by
   apply Array.ext;·simp only [hs,List.size_toArray,List.length_map,List.length_range]
   ·intro j h1 h2;have:=hm' j (by omega);simp only [List.getElem_toArray,List.getElem_map,List.getElem_range];rw [← this];simp [h1]
  rw [this]; exact hseq
 ·intro j o _ hl;rw [Z4q] at hl;cases hl
 ·intro t _;exact Z4q _ _
end
open Go Go.RowKit
theorem lh {p:Prop} (h:p):Hid p:=Lib.hid h
theorem zA {α:Type _} (l:List α) (i:Nat) (v:α):l.toArray.setIfInBounds i v=(l.set i v).toArray:=List.setIfInBounds_toArray ..
theorem zB {α:Type _} (x v:α) (l:List α):(x :: l).set 0 v=v :: l:=rfl
theorem zC {α:Type _} (x v:α) (l:List α) (n:Nat):(x :: l).set (n + 1) v=x :: l.set n v:=rfl
theorem Y0:type_of% @Nat.le_refl:=@Nat.le_refl
theorem Y1:type_of% @Array.getElem?_eq_some_iff:=@Array.getElem?_eq_some_iff
theorem Y2:type_of% @Below.refl:=@Below.refl
theorem Y3:type_of% @if_neg:=@if_neg
theorem Y4:type_of% @Nat.le_trans:=@Nat.le_trans
theorem Y5:type_of% @if_pos:=@if_pos
theorem Y6:type_of% @List.getElem?_eq_getElem:=@List.getElem?_eq_getElem
theorem Y7:type_of% @Nat.lt_of_lt_of_le:=@Nat.lt_of_lt_of_le
theorem Y8:type_of% @Below.heap_setCell:=@Below.heap_setCell
theorem Y9:type_of% @World.ownsRow.lt:=@World.ownsRow.lt
theorem Ya:type_of% @World.news_of_block:=@World.news_of_block
theorem Yb:type_of% @World.cell?_of_block:=@World.cell?_of_block
theorem Yc:type_of% @Option.some.inj:=@Option.some.inj
theorem Yd:type_of% @List.mem_of_getElem?:=@List.mem_of_getElem?
theorem Ye:type_of% @List.take_of_length_le:=@List.take_of_length_le
theorem Yf:type_of% @World.size_setCell:=@World.size_setCell
theorem Yg:type_of% @List.getElem?_map:=@List.getElem?_map
theorem Yh:type_of% @Nat.zero_le:=@Nat.zero_le
theorem Yi:type_of% @List.length_append:=@List.length_append
theorem Yj:type_of% @Tryz.underlying9:=@Tryz.underlying9
theorem Yk:type_of% @Tryz.underlying3:=@Tryz.underlying3
theorem Yl:type_of% @List.length_map:=@List.length_map
theorem Ym:type_of% @WideMaps.keyOf_string_mk:=@WideMaps.keyOf_string_mk
theorem zD {α β:Type _} (f:α→Option β) (a:α) (l:List α):(a :: l).filterMap f=match f a with | none=>l.filterMap f | some b=>b :: l.filterMap f:=rfl
theorem zE {α β:Type _} (f:α→Option β):([]:List α).filterMap f=[]:=rfl
theorem zF {α:Type _} (l:List α) (i:Nat):l.toArray[i]?=l[i]?:=List.getElem?_toArray ..
theorem zG {α:Type _} (a:α) (l:List α):(a :: l)[0]?=some a:=rfl
theorem zH {α:Type _} (a:α) (l:List α) (i:Nat):(a :: l)[i + 1]?=l[i]?:=rfl
theorem zI {α β:Type _} (f:α→β) (a:α):(some a).map f=some (f a):=rfl
theorem zX {α:Sort _} (a:α):∃ x,x=a:=⟨a,rfl⟩
end Go.Proofs.YtjcgkdfeplbajaaGreatDoor
