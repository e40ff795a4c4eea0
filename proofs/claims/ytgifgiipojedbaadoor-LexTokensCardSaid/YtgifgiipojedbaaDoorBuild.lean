/- strings.Builder at this dump: copyCheck (after the shelf's own text for it). -/
import Derived.Test.YtgifgiipojedbaaDoorProg
import Derived.Test.YtgifgiipojedbaaDoorHeapU
import Derived.Deep.AppendLies
import Derived.Lib.Builder
import Derived.Deep.RegionHeld3
import Derived.Deep.RegionLaw
import Derived.Deep.DeepMust
import Derived.WalkSpells
import Derived.WalkLawsBesides
namespace Go.Proofs.YtgifgiipojedbaaDoor
open Go Go.RowKit
set_option maxRecDepth 100000

theorem Tryd.sizeBuilder : (Tryd.prog.info? 130).map (·.size) = some 2 := by kernel_rfl
theorem Tryd.liesBuilder : liesAt Tryd.prog Tryd.prog.depth 130 (2 / Tryd.prog.cellsOf 130) 0 130 1 = true := by kernel_rfl

set_option maxHeartbeats 1000000 in
theorem copyCheck_fresh (w : World) (b : Nat) (h0 : w.cell? ⟨b, 0, none⟩ = some (.pointer none)) (hsh : w.shape? b = some (130, 2)) (hfz : w.frozen? ⟨b, 0, none⟩ = false) :
    Calls Tryd.prog 86 #[.pointer (some ⟨b, 0, none⟩)] w fun e w' => e = .returned (.tuple #[]) ∧ w' = w.setCell ⟨b, 0, none⟩ (.pointer (some ⟨b, 0, none⟩)) := by
  obtain ⟨j, hj, hjs⟩ := Option.map_eq_some_iff.1 Tryd.sizeBuilder
  go_enter Tryd.func86, Tryd.ntmps86
  go_wp2
  rw [Lib.run_to_unsafe w ⟨b, 0, none⟩ Tryd.underlying127 Tryd.underlying182 hj (by rw [hjs]; decide) hsh (Nat.zero_lt_succ 1)]
  simp only [Result.andThen]
  rw [Oper.upon_value]
  go_wp2
  rw [run_callFunc_extern Tryd.func103 (by kernel_rfl) (by kernel_rfl) (by kernel_rfl) (e := Extern.AbiNoEscape.same) (by kernel_rfl)]
  rw [Lib.run_noEscape]
  simp only [Result.andThen]
  rw [Oper.upon_value]
  go_wp2
  rw [Lib.run_from_unsafe w ⟨b, 0, none⟩ Tryd.underlying182 Tryd.underlying127 hj hsh Tryd.liesBuilder]
  simp only [Result.andThen]
  rw [Oper.upon_value]
  go_wp2
  go_end0
  exact ⟨rfl, rfl⟩
set_option maxHeartbeats 1000000 in
theorem copyCheck_used (w : World) (b : Nat) (h0 : w.cell? ⟨b, 0, none⟩ = some (.pointer (some ⟨b, 0, none⟩))) :
    Calls Tryd.prog 86 #[.pointer (some ⟨b, 0, none⟩)] w fun e w' => e = .returned (.tuple #[]) ∧ w' = w := by
  obtain ⟨j, hj, _⟩ := Option.map_eq_some_iff.1 Tryd.sizeBuilder
  go_enter Tryd.func86, Tryd.ntmps86
  go_wp2
  rw [Lib.run_neq_ptr_same w _ Tryd.underlying127 hj]
  go_wp2
  go_end0
  exact ⟨rfl, rfl⟩

/-- a builder of the call's own, beside all else -/
structure BAt (B : Nat) (w : World) (b : Nat) (p v : Value) (bs : List Value) : Prop where
  blk : w.heap[b]? = some (.cells #[p, v] 130 (0, 0))
  ptr : p = .pointer none ∨ p = .pointer (some ⟨b, 0, none⟩)
  own : w.ownsRow B 5 1 v bs.length bs
  ne : v.ownBlock ≠ some b
  le : B ≤ b
theorem Tryd.infoU8 : (Tryd.prog.info? 5).map (fun i => (i.zero, i.size, i.bytes)) = some (some (.int .u8 0), 1, 1) := by kernel_rfl
/-- what a write to a builder leaves alone -/
structure BFr (w w' : World) (b : Nat) (v v' : Value) : Prop where
  os : w'.os = w.os
  tape : w'.tape = w.tape
  output : w'.output = w.output
  size : w.heap.size ≤ w'.heap.size
  block : ∀ k, k < w.heap.size → k ≠ b → v.ownBlock ≠ some k → w'.heap[k]? = w.heap[k]?
  row : v'.ownBlock = v.ownBlock ∨ ∃ g, v'.ownBlock = some g ∧ w.heap.size ≤ g

theorem writeByte_used (B : Nat) (w : World) (b : Nat) (v : Value) (bs : List Value) (c : Int) (h : BAt B w b (.pointer (some ⟨b, 0, none⟩)) v bs) (hn : bs.length < 1099511627776) :
    Calls Tryd.prog 100 #[.pointer (some ⟨b, 0, none⟩), .int .u8 c] w fun e w' => e = .returned .nilIface ∧ ∃ v', BAt B w' b (.pointer (some ⟨b, 0, none⟩)) v' (bs ++ [.int .u8 c]) ∧ BFr w w' b v v' := by
  obtain ⟨i0, hi, hz0, hz1, hz2⟩ := info_parts Tryd.infoU8
  have hbl : b < w.heap.size := (Array.getElem?_eq_some_iff.1 h.blk).1
  have h0 : w.cell? ⟨b, 0, none⟩ = some (.pointer (some ⟨b, 0, none⟩)) := by simp [World.cell?, h.blk]
  have h1 : w.cell? ⟨b, 1, none⟩ = some v := by simp [World.cell?, h.blk]
  have hz : w.frozen? ⟨b, 1, none⟩ = false := by simp [World.frozen?, h.blk]
  have HC := Lib.hid (copyCheck_used w b h0)
  have HO := Lib.hid h.own
  have HB := Lib.hid h
  have hne := h.ne
  have hBb := h.le
  have HNE := Lib.hid hne
  obtain ⟨n, hnn⟩ : ∃ n, n = bs.length := ⟨_, rfl⟩
  rw [← hnn] at HO hn
  have HNN := Lib.hid hnn
  clear h hne hnn h0
  have haft : ∀ o (w1 : World), (w.alloc o).grownBy w1 v.ownBlock → w1.cell? ⟨b, 1, none⟩ = some v ∧ w1.frozen? ⟨b, 1, none⟩ = false := fun o w1 hg =>
    ⟨(hg.cell_far ⟨b, 1, none⟩ (by simp; omega) (fun e => HNE.out e.symm)).trans ((cell_old hbl).trans h1), (hg.frozen_far ⟨b, 1, none⟩ (by simp; omega) (fun e => HNE.out e.symm)).trans ((frozen_old hbl).trans hz)⟩
  have HA := Lib.hid haft
  clear haft
  go_enter Tryd.func100, Tryd.ntmps100
  go_wp2_with fail
  refine HC.out.mono ?_
  rintro e w1 ⟨rfl, rfl⟩
  go_wp2_with (at_builtin; go_must (refine wpList_append_lies _ rfl (.tmp 11) (.tmp 13) 128 rfl B 5 i0 (.int .u8 0) 1 1 Tryd.underlying128 hi hz0 hz1 hz2 rfl (by decide) v n bs rfl (HO.out.alloc _) ⟨w1.heap.size, 0, none⟩ 1 1 [.int .u8 c] rfl rfl (fun j u hu => cell_one_new w1 _ _ j u hu) (by intro u hu; simp at hu; subst hu; rfl) (by first | omega | (simp; omega)) (by unfold maxLen; omega) (by first | omega | (simp; omega)) (by first | omega | (simp; omega)) (w1.heap.size + 1) (by simp) ?_); intro g cap w2 hown2 hgrow2 hat2 hgl2; obtain ⟨hc1, hf1⟩ := HA.out _ _ hgrow2; have HG := Lib.hid hgrow2; have HW := Lib.hid hown2; have HT := Lib.hid hat2; clear hgrow2 hown2 hat2 hgl2)
  go_ret
  refine ⟨rfl, .slice (some ⟨g, 0, none⟩) (n + 1) cap, ?_, ?_⟩
  · have hgb : g ≠ b := by
      rcases HT.out with h | h
      · exact fun e => HNE.out (by rw [h, e])
      · omega
    have hblk : w2.heap[b]? = some (.cells #[.pointer (some ⟨b, 0, none⟩), v] 130 (0, 0)) := (HG.out.block b (by simp; omega) (fun e => HNE.out e.symm)).trans ((Below.heap_alloc _ _ _ hbl).trans HB.out.blk)
    refine ⟨setCell_block _ hblk, .inr rfl, ?_, by simp only [Value.ownBlock, ne_eq, Option.some.injEq]; exact hgb, hBb⟩
    rw [List.length_append, ← HNN.out]
    exact ownsRow_block HW.out fun g' hg' => Below.heap_setCell _ _ _ _ (fun e => hgb (by simp only [Value.ownBlock, Option.some.injEq] at hg'; rw [hg', e]))
  · refine ⟨HG.out.os, HG.out.tape, HG.out.output, by rw [World.size_setCell]; have := HG.out.size; rw [World.size_alloc] at this; omega, fun k hk hkb hkv => ?_, ?_⟩
    · exact (Below.heap_setCell _ _ _ _ hkb).trans ((HG.out.block k (by simp; omega) (fun e => hkv e.symm)).trans (Below.heap_alloc _ _ _ hk))
    · rcases HT.out with h | h
      · exact .inl h.symm
      · exact .inr ⟨g, rfl, by omega⟩

theorem writeByte_fresh (B : Nat) (w : World) (b : Nat) (v : Value) (bs : List Value) (c : Int) (h' : BAt B w b (.pointer none) v bs) (hn : bs.length < 1099511627776) :
    Calls Tryd.prog 100 #[.pointer (some ⟨b, 0, none⟩), .int .u8 c] w fun e w' => e = .returned .nilIface ∧ ∃ v', BAt B w' b (.pointer (some ⟨b, 0, none⟩)) v' (bs ++ [.int .u8 c]) ∧ BFr w w' b v v' := by
  obtain ⟨i0, hi, hz0, hz1, hz2⟩ := info_parts Tryd.infoU8
  have h0 : w.cell? ⟨b, 0, none⟩ = some (.pointer none) := by simp [World.cell?, h'.blk]
  have hz0' : w.frozen? ⟨b, 0, none⟩ = false := by simp [World.frozen?, h'.blk]
  have HC := Lib.hid (copyCheck_fresh w b h0 (by simp [World.shape?, h'.blk]) hz0')
  have h : BAt B (w.setCell ⟨b, 0, none⟩ (.pointer (some ⟨b, 0, none⟩))) b (.pointer (some ⟨b, 0, none⟩)) v bs :=
    ⟨setCell_block _ h'.blk, .inr rfl, ownsRow_block h'.own fun g hg => Below.heap_setCell _ _ _ _ (fun e => h'.ne (by rw [hg]; exact congrArg some e)), h'.ne, h'.le⟩
  have HS : ∀ k, k ≠ b → (w.setCell ⟨b, 0, none⟩ (.pointer (some ⟨b, 0, none⟩))).heap[k]? = w.heap[k]? := fun k hk => Below.heap_setCell _ _ _ _ hk
  have HS := Lib.hid HS
  have hsz : (w.setCell ⟨b, 0, none⟩ (.pointer (some ⟨b, 0, none⟩))).heap.size = w.heap.size := World.size_setCell ..
  have HZ := Lib.hid hsz
  have hos : (w.setCell ⟨b, 0, none⟩ (.pointer (some ⟨b, 0, none⟩))).os = w.os ∧ (w.setCell ⟨b, 0, none⟩ (.pointer (some ⟨b, 0, none⟩))).tape = w.tape ∧ (w.setCell ⟨b, 0, none⟩ (.pointer (some ⟨b, 0, none⟩))).output = w.output := ⟨rfl, rfl, rfl⟩
  have HOS := Lib.hid hos
  clear h' h0 hz0' hsz hos
  obtain ⟨w1, hw1⟩ : ∃ W, W = w.setCell ⟨b, 0, none⟩ (.pointer (some ⟨b, 0, none⟩)) := ⟨_, rfl⟩
  rw [← hw1] at HC h HS HZ HOS
  have hbl : b < w1.heap.size := (Array.getElem?_eq_some_iff.1 h.blk).1
  have h1 : w1.cell? ⟨b, 1, none⟩ = some v := by simp [World.cell?, h.blk]
  have hz : w1.frozen? ⟨b, 1, none⟩ = false := by simp [World.frozen?, h.blk]
  have HO := Lib.hid h.own
  have HB := Lib.hid h
  have hne := h.ne
  have hBb := h.le
  have HNE := Lib.hid hne
  obtain ⟨n, hnn⟩ : ∃ n, n = bs.length := ⟨_, rfl⟩
  rw [← hnn] at HO hn
  have HNN := Lib.hid hnn
  clear h hne hnn hw1
  have haft : ∀ o (w2 : World), (w1.alloc o).grownBy w2 v.ownBlock → w2.cell? ⟨b, 1, none⟩ = some v ∧ w2.frozen? ⟨b, 1, none⟩ = false := fun o w2 hg =>
    ⟨(hg.cell_far ⟨b, 1, none⟩ (by simp; omega) (fun e => HNE.out e.symm)).trans ((cell_old hbl).trans h1), (hg.frozen_far ⟨b, 1, none⟩ (by simp; omega) (fun e => HNE.out e.symm)).trans ((frozen_old hbl).trans hz)⟩
  have HA := Lib.hid haft
  clear haft
  go_enter Tryd.func100, Tryd.ntmps100
  go_wp2_with fail
  refine HC.out.mono ?_
  rintro e w1' ⟨rfl, hw⟩
  rw [hw]
  clear hw w1'
  go_wp2_with (at_builtin; go_must (refine wpList_append_lies _ rfl (.tmp 11) (.tmp 13) 128 rfl B 5 i0 (.int .u8 0) 1 1 Tryd.underlying128 hi hz0 hz1 hz2 rfl (by decide) v n bs rfl (HO.out.alloc _) ⟨w1.heap.size, 0, none⟩ 1 1 [.int .u8 c] rfl rfl (fun j u hu => cell_one_new w1 _ _ j u hu) (by intro u hu; simp at hu; subst hu; rfl) (by first | omega | (simp; omega)) (by unfold maxLen; omega) (by first | omega | (simp; omega)) (by first | omega | (simp; omega)) (w1.heap.size + 1) (by simp) ?_); intro g cap w2 hown2 hgrow2 hat2 hgl2; obtain ⟨hc1, hf1⟩ := HA.out _ _ hgrow2; have HG := Lib.hid hgrow2; have HW := Lib.hid hown2; have HT := Lib.hid hat2; clear hgrow2 hown2 hat2 hgl2)
  go_ret
  refine ⟨rfl, .slice (some ⟨g, 0, none⟩) (n + 1) cap, ?_, ?_⟩
  · have hgb : g ≠ b := by
      rcases HT.out with h | h
      · exact fun e => HNE.out (by rw [h, e])
      · omega
    have hblk : w2.heap[b]? = some (.cells #[.pointer (some ⟨b, 0, none⟩), v] 130 (0, 0)) := (HG.out.block b (by simp; omega) (fun e => HNE.out e.symm)).trans ((Below.heap_alloc _ _ _ hbl).trans HB.out.blk)
    refine ⟨setCell_block _ hblk, .inr rfl, ?_, by simp only [Value.ownBlock, ne_eq, Option.some.injEq]; exact hgb, hBb⟩
    rw [List.length_append, ← HNN.out]
    exact ownsRow_block HW.out fun g' hg' => Below.heap_setCell _ _ _ _ (fun e => hgb (by simp only [Value.ownBlock, Option.some.injEq] at hg'; rw [hg', e]))
  · refine ⟨HG.out.os.trans HOS.out.1, HG.out.tape.trans HOS.out.2.1, HG.out.output.trans HOS.out.2.2, by rw [World.size_setCell]; have := HG.out.size; rw [World.size_alloc, HZ.out] at this; omega, fun k hk hkb hkv => ?_, ?_⟩
    · exact (Below.heap_setCell _ _ _ _ hkb).trans ((HG.out.block k (by simp; have := HZ.out; omega) (fun e => hkv e.symm)).trans ((Below.heap_alloc _ _ _ (by have := HZ.out; omega)).trans (HS.out k hkb)))
    · rcases HT.out with h | h
      · exact .inl h.symm
      · exact .inr ⟨g, rfl, by have := HZ.out; omega⟩
end Go.Proofs.YtgifgiipojedbaaDoor
