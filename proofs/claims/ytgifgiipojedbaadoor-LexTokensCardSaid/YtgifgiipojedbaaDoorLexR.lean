/- Package lex: the scanner's run. -/
import Derived.Test.YtgifgiipojedbaaDoorLexC
import Derived.Test.YtgifgiipojedbaaDoorPlan
import Derived.Test.YtgifgiipojedbaaDoorHeapU
namespace Go.Proofs.YtgifgiipojedbaaDoor
open Go Go.RowKit
set_option maxRecDepth 100000

/-- where a scanner stands; all else is as it was -/
structure ScanAt (w0 w : World) (sb : Nat) (text : ByteArray) (at' : Nat) : Prop where
  blk : w.heap[sb]? = some (.cells #[.string text, .int .i64 at'] 151 (0, 0))
  os : w.os = w0.os
  tape : w.tape = w0.tape
  output : w.output = w0.output
  size : w0.heap.size ≤ w.heap.size
  block : ∀ k, k < w0.heap.size → k ≠ sb → w.heap[k]? = w0.heap[k]?
variable {w0 w w' : World} {sb : Nat} {text : ByteArray} {a b : Nat}
theorem ScanAt.refl (h : w.heap[sb]? = some (.cells #[.string text, .int .i64 a] 151 (0, 0))) : ScanAt w w sb text a := ⟨h, rfl, rfl, rfl, Nat.le_refl _, fun _ _ _ => rfl⟩
theorem ScanAt.trans (h : ScanAt w0 w sb text a) (g : ScanAt w w' sb text b) : ScanAt w0 w' sb text b :=
  ⟨g.blk, g.os.trans h.os, g.tape.trans h.tape, g.output.trans h.output, Nat.le_trans h.size g.size, fun k hk hn => (g.block k (Nat.lt_of_lt_of_le hk h.size) hn).trans (h.block k hk hn)⟩
theorem ScanAt.drew (h : ScanAt w0 w sb text a) : ScanAt w0 w.drew sb text a := ⟨h.blk, h.os, h.tape, h.output, h.size, h.block⟩
theorem ScanAt.lt (h : ScanAt w0 w sb text a) : sb < w.heap.size := (Array.getElem?_eq_some_iff.1 h.blk).1
theorem ScanAt.below (h : ScanAt w0 w sb text a) (hB : Below w.heap.size w w') : ScanAt w0 w' sb text a :=
  ⟨(hB.block sb h.lt).trans h.blk, hB.os.trans h.os, hB.tape.trans h.tape, hB.output.trans h.output, Nat.le_trans h.size hB.size, fun k hk hn => (hB.block k (Nat.lt_of_lt_of_le hk h.size)).trans (h.block k hk hn)⟩
theorem ScanAt.c0 (h : ScanAt w0 w sb text a) : w.cell? ⟨sb, 0, none⟩ = some (.string text) := by simp [World.cell?, h.blk]
theorem ScanAt.c1 (h : ScanAt w0 w sb text a) : w.cell? ⟨sb, 1, none⟩ = some (.int .i64 a) := by simp [World.cell?, h.blk]
theorem ScanAt.fz (h : ScanAt w0 w sb text a) (o : Nat) : w.frozen? ⟨sb, o, none⟩ = false := by simp [World.frozen?, h.blk]
theorem ScanAt.set (h : ScanAt w0 w sb text a) (b : Nat) : ScanAt w0 (w.setCell ⟨sb, 1, none⟩ (.int .i64 b)) sb text b :=
  ⟨setCell_block _ h.blk, h.os, h.tape, h.output, by simpa using h.size, fun k hk hn => (Below.heap_setCell _ _ _ _ hn).trans (h.block k hk hn)⟩

/-- the byte at a place -/
def byteAt (text : ByteArray) (i : Nat) : Int := ((text.data.getD i 0).toNat : Int)
def spanEnd (p : Int → Bool) (text : ByteArray) : Nat → Nat → Nat
  | 0, i => i
  | f + 1, i => if i < text.size && p (byteAt text i) then spanEnd p text f (i + 1) else i

theorem byteAt_get {i : Nat} (h : i < text.size) : byteAt text i = ((text[i]'h).toNat : Int) := by
  unfold byteAt
  have : i < text.data.size := h
  simp only [Array.getD, dif_pos this]
  rfl
theorem spanEnd_step {p : Int → Bool} {j : Nat} (h : j < text.size) (hp : p (byteAt text j) = true) : spanEnd p text (text.size - j) j = spanEnd p text (text.size - (j + 1)) (j + 1) := by
  obtain ⟨f, hf⟩ : ∃ f, text.size - j = f + 1 := ⟨text.size - j - 1, by omega⟩
  rw [hf, show text.size - (j + 1) = f by omega]
  simp [spanEnd, h, hp]
theorem spanEnd_stop {p : Int → Bool} {j : Nat} (hp : ¬ j < text.size ∨ p (byteAt text j) = false) : spanEnd p text (text.size - j) j = j := by
  cases hf : text.size - j with
  | zero => rfl
  | succ f =>
    rcases hp with h | h
    · omega
    · simp [spanEnd, h]

set_option maxHeartbeats 1600000 in
theorem run_blank (h : w.heap[sb]? = some (.cells #[.string text, .int .i64 a] 151 (0, 0))) (ha : a ≤ text.size) (hm : text.size ≤ 1000000) :
    Calls Tryd.prog 73 #[.pointer (some ⟨sb, 0, none⟩), .func (.func 74) #[] #[]] w fun e w' => ∃ b, b = spanEnd blankB text (text.size - a) a ∧ a ≤ b ∧ b ≤ text.size ∧ e = .returned (.string (text.extract a b)) ∧ ScanAt w w' sb text b := by
  have S0 := Lib.hid (ScanAt.refl h)
  have c0 := S0.out.c0
  have c1 := S0.out.c1
  clear h
  go_enter Tryd.func73, Tryd.ntmps73
  go_wp2
  go_loopw [] (fun wr => ∃ j : Nat, a ≤ j ∧ j ≤ text.size ∧ spanEnd blankB text (text.size - j) j = spanEnd blankB text (text.size - a) a ∧ ScanAt w wr sb text j) (fun wr => text.size - (intOf ((wr.cell? ⟨sb, 1, none⟩).getD .nilIface)).toNat)
  case atStart => exact ⟨a, Nat.le_refl _, ha, rfl, S0.out⟩
  case round =>
    obtain ⟨j, hj1, hj2, hsp, hS⟩ := hrel
    have q0 := hS.c0
    have q1 := hS.c1
    have SJ := Lib.hid hS
    have HSP := Lib.hid hsp
    clear hS hsp c0 c1
    by_cases hlt : j < text.size
    · obtain ⟨B, hB⟩ : ∃ B, B = blankB (byteAt text j) := ⟨_, rfl⟩
      have HB := Lib.hid hB
      have HC := blank_any wr.drew (byteAt text j)
      rw [← hB, byteAt_get hlt] at HC
      have HC := Lib.hid HC
      clear hB
      cases B
      · go_wp2_with fail
        refine wp_region_plan [(true, 0), (true, 1), (true, 2), (true, 3), (true, 4), (true, 5), (true, 6), (true, 7), (true, 8), (true, 9), (true, 10), (true, 11), (true, 12), (true, 13), (true, 14), (true, 15), (true, 16), (true, 17), (true, 18), (true, 19), (true, 20)] [21, 22] (fun W => W.cell? ⟨sb, 0, none⟩ = some (.string text) ∧ W.cell? ⟨sb, 1, none⟩ = some (.int .i64 j)) (by kernel_rfl) (by kernel_rfl) (fun _ _ d _ _ h => by cases d <;> exact h) ⟨q0, q1⟩ (fun hS0 => ?_)
        simp only [planOps, List.filterMap_cons, List.filterMap_nil, List.getElem?_toArray, List.getElem?_cons_zero, List.getElem?_cons_succ, Option.map_some]
        iterate 21
          first
            | (refine wpPlan_take ?_ (by rfl) (fun w' hS' => ?_) ?_; rotate_left; (obtain ⟨s0, s1⟩ := hS'; go_simp; first | done | with_reducible rfl); simp only [Act.put, List.setIfInBounds_toArray, List.set_cons_zero, List.set_cons_succ])
            | (refine wpPlan_skip (by rfl) ?_; simp only [Act.put, List.setIfInBounds_toArray, List.set_cons_zero, List.set_cons_succ])
        refine wpPlan_end ?_
        go_wp2_with fail
        refine HC.out.mono ?_
        rintro e w1 ⟨rfl, rfl⟩
        go_wp2_with fail
        refine wp_region_plan [(true, 0), (true, 1), (true, 2), (true, 3), (true, 4), (true, 5), (true, 6), (true, 7), (true, 8)] [9, 10] (fun W => W.cell? ⟨sb, 0, none⟩ = some (.string text) ∧ W.cell? ⟨sb, 1, none⟩ = some (.int .i64 j)) (by kernel_rfl) (by kernel_rfl) (fun _ _ d _ _ h => by cases d <;> exact h) ⟨q0, q1⟩ (fun hS0 => ?_)
        simp only [planOps, List.filterMap_cons, List.filterMap_nil, List.getElem?_toArray, List.getElem?_cons_zero, List.getElem?_cons_succ, Option.map_some]
        iterate 9
          first
            | (refine wpPlan_take ?_ (by rfl) (fun w' hS' => ?_) ?_; rotate_left; (obtain ⟨s0, s1⟩ := hS'; go_simp; first | done | with_reducible rfl); simp only [Act.put, List.setIfInBounds_toArray, List.set_cons_zero, List.set_cons_succ])
            | (refine wpPlan_skip (by rfl) ?_; simp only [Act.put, List.setIfInBounds_toArray, List.set_cons_zero, List.set_cons_succ])
        refine wpPlan_end ?_
        go_wp2
        go_ret
        exact ⟨j, by rw [← HSP.out]; exact (spanEnd_stop (.inr HB.out.symm)).symm, hj1, hj2, rfl, SJ.out.drew.drew⟩
      · go_wp2_with fail
        refine wp_region_plan [(true, 0), (true, 1), (true, 2), (true, 3), (true, 4), (true, 5), (true, 6), (true, 7), (true, 8), (true, 9), (true, 10), (true, 11), (true, 12), (true, 13), (true, 14), (true, 15), (true, 16), (true, 17), (true, 18), (true, 19), (true, 20)] [21, 22] (fun W => W.cell? ⟨sb, 0, none⟩ = some (.string text) ∧ W.cell? ⟨sb, 1, none⟩ = some (.int .i64 j)) (by kernel_rfl) (by kernel_rfl) (fun _ _ d _ _ h => by cases d <;> exact h) ⟨q0, q1⟩ (fun hS0 => ?_)
        simp only [planOps, List.filterMap_cons, List.filterMap_nil, List.getElem?_toArray, List.getElem?_cons_zero, List.getElem?_cons_succ, Option.map_some]
        iterate 21
          first
            | (refine wpPlan_take ?_ (by rfl) (fun w' hS' => ?_) ?_; rotate_left; (obtain ⟨s0, s1⟩ := hS'; go_simp; first | done | with_reducible rfl); simp only [Act.put, List.setIfInBounds_toArray, List.set_cons_zero, List.set_cons_succ])
            | (refine wpPlan_skip (by rfl) ?_; simp only [Act.put, List.setIfInBounds_toArray, List.set_cons_zero, List.set_cons_succ])
        refine wpPlan_end ?_
        go_wp2_with fail
        refine HC.out.mono ?_
        rintro e w1 ⟨rfl, rfl⟩
        have z1 := SJ.out.fz 1
        go_wp2
        go_roundw
        case rel => exact ⟨j + 1, by omega, by omega, by rw [← spanEnd_step hlt HB.out.symm]; exact HSP.out, SJ.out.drew.set (j + 1)⟩
        case measure =>
          have e1 : (wr.setCell ⟨sb, 1, none⟩ (.int .i64 ((j : Int) + 1))).cell? ⟨sb, 1, none⟩ = some (.int .i64 ((j : Int) + 1)) := (SJ.out.set (j + 1)).c1
          have e2 := SJ.out.c1
          rw [World.cell?_drew, e1, e2]
          simp [intOf]
          omega
    · go_wp2_with fail
      refine wp_region_plan [(true, 0), (true, 1), (true, 2), (true, 3), (true, 4), (true, 5), (true, 6), (true, 7), (true, 8), (true, 9), (true, 10), (true, 11), (true, 12), (true, 13), (true, 14), (true, 15), (true, 16), (true, 17), (true, 18), (true, 19), (true, 20)] [21, 22] (fun W => W.cell? ⟨sb, 0, none⟩ = some (.string text) ∧ W.cell? ⟨sb, 1, none⟩ = some (.int .i64 j)) (by kernel_rfl) (by kernel_rfl) (fun _ _ d _ _ h => by cases d <;> exact h) ⟨q0, q1⟩ (fun hS0 => ?_)
      simp only [planOps, List.filterMap_cons, List.filterMap_nil, List.getElem?_toArray, List.getElem?_cons_zero, List.getElem?_cons_succ, Option.map_some]
      iterate 21
        first
          | (refine wpPlan_take ?_ (by rfl) (fun w' hS' => ?_) ?_; rotate_left; (obtain ⟨s0, s1⟩ := hS'; go_simp; first | done | with_reducible rfl); simp only [Act.put, List.setIfInBounds_toArray, List.set_cons_zero, List.set_cons_succ])
          | (refine wpPlan_skip (by rfl) ?_; simp only [Act.put, List.setIfInBounds_toArray, List.set_cons_zero, List.set_cons_succ])
      refine wpPlan_end ?_
      go_wp2_with fail
      refine wp_region_plan [(true, 0), (true, 1), (true, 2), (true, 3), (true, 4), (true, 5), (true, 6), (true, 7), (true, 8)] [9, 10] (fun W => W.cell? ⟨sb, 0, none⟩ = some (.string text) ∧ W.cell? ⟨sb, 1, none⟩ = some (.int .i64 j)) (by kernel_rfl) (by kernel_rfl) (fun _ _ d _ _ h => by cases d <;> exact h) ⟨q0, q1⟩ (fun hS0 => ?_)
      simp only [planOps, List.filterMap_cons, List.filterMap_nil, List.getElem?_toArray, List.getElem?_cons_zero, List.getElem?_cons_succ, Option.map_some]
      iterate 9
        first
          | (refine wpPlan_take ?_ (by rfl) (fun w' hS' => ?_) ?_; rotate_left; (obtain ⟨s0, s1⟩ := hS'; go_simp; first | done | with_reducible rfl); simp only [Act.put, List.setIfInBounds_toArray, List.set_cons_zero, List.set_cons_succ])
          | (refine wpPlan_skip (by rfl) ?_; simp only [Act.put, List.setIfInBounds_toArray, List.set_cons_zero, List.set_cons_succ])
      refine wpPlan_end ?_
      go_wp2
      go_ret
      exact ⟨j, by rw [← HSP.out]; exact (spanEnd_stop (.inl hlt)).symm, hj1, hj2, rfl, SJ.out.drew.drew⟩
set_option maxHeartbeats 1600000 in
theorem run_word (h : w.heap[sb]? = some (.cells #[.string text, .int .i64 a] 151 (0, 0))) (ha : a ≤ text.size) (hm : text.size ≤ 1000000) :
    Calls Tryd.prog 73 #[.pointer (some ⟨sb, 0, none⟩), .func (.func 76) #[] #[]] w fun e w' => ∃ b, b = spanEnd wordB text (text.size - a) a ∧ a ≤ b ∧ b ≤ text.size ∧ e = .returned (.string (text.extract a b)) ∧ ScanAt w w' sb text b := by
  have S0 := Lib.hid (ScanAt.refl h)
  have c0 := S0.out.c0
  have c1 := S0.out.c1
  clear h
  go_enter Tryd.func73, Tryd.ntmps73
  go_wp2
  go_loopw [] (fun wr => ∃ j : Nat, a ≤ j ∧ j ≤ text.size ∧ spanEnd wordB text (text.size - j) j = spanEnd wordB text (text.size - a) a ∧ ScanAt w wr sb text j) (fun wr => text.size - (intOf ((wr.cell? ⟨sb, 1, none⟩).getD .nilIface)).toNat)
  case atStart => exact ⟨a, Nat.le_refl _, ha, rfl, S0.out⟩
  case round =>
    obtain ⟨j, hj1, hj2, hsp, hS⟩ := hrel
    have q0 := hS.c0
    have q1 := hS.c1
    have SJ := Lib.hid hS
    have HSP := Lib.hid hsp
    clear hS hsp c0 c1
    by_cases hlt : j < text.size
    · obtain ⟨B, hB⟩ : ∃ B, B = wordB (byteAt text j) := ⟨_, rfl⟩
      have HB := Lib.hid hB
      have HC := word_any wr.drew (byteAt text j)
      rw [← hB, byteAt_get hlt] at HC
      have HC := Lib.hid HC
      clear hB
      cases B
      · go_wp2_with fail
        refine wp_region_plan [(true, 0), (true, 1), (true, 2), (true, 3), (true, 4), (true, 5), (true, 6), (true, 7), (true, 8), (true, 9), (true, 10), (true, 11), (true, 12), (true, 13), (true, 14), (true, 15), (true, 16), (true, 17), (true, 18), (true, 19), (true, 20)] [21, 22] (fun W => W.cell? ⟨sb, 0, none⟩ = some (.string text) ∧ W.cell? ⟨sb, 1, none⟩ = some (.int .i64 j)) (by kernel_rfl) (by kernel_rfl) (fun _ _ d _ _ h => by cases d <;> exact h) ⟨q0, q1⟩ (fun hS0 => ?_)
        simp only [planOps, List.filterMap_cons, List.filterMap_nil, List.getElem?_toArray, List.getElem?_cons_zero, List.getElem?_cons_succ, Option.map_some]
        iterate 21
          first
            | (refine wpPlan_take ?_ (by rfl) (fun w' hS' => ?_) ?_; rotate_left; (obtain ⟨s0, s1⟩ := hS'; go_simp; first | done | with_reducible rfl); simp only [Act.put, List.setIfInBounds_toArray, List.set_cons_zero, List.set_cons_succ])
            | (refine wpPlan_skip (by rfl) ?_; simp only [Act.put, List.setIfInBounds_toArray, List.set_cons_zero, List.set_cons_succ])
        refine wpPlan_end ?_
        go_wp2_with fail
        refine HC.out.mono ?_
        rintro e w1 ⟨rfl, rfl⟩
        go_wp2_with fail
        refine wp_region_plan [(true, 0), (true, 1), (true, 2), (true, 3), (true, 4), (true, 5), (true, 6), (true, 7), (true, 8)] [9, 10] (fun W => W.cell? ⟨sb, 0, none⟩ = some (.string text) ∧ W.cell? ⟨sb, 1, none⟩ = some (.int .i64 j)) (by kernel_rfl) (by kernel_rfl) (fun _ _ d _ _ h => by cases d <;> exact h) ⟨q0, q1⟩ (fun hS0 => ?_)
        simp only [planOps, List.filterMap_cons, List.filterMap_nil, List.getElem?_toArray, List.getElem?_cons_zero, List.getElem?_cons_succ, Option.map_some]
        iterate 9
          first
            | (refine wpPlan_take ?_ (by rfl) (fun w' hS' => ?_) ?_; rotate_left; (obtain ⟨s0, s1⟩ := hS'; go_simp; first | done | with_reducible rfl); simp only [Act.put, List.setIfInBounds_toArray, List.set_cons_zero, List.set_cons_succ])
            | (refine wpPlan_skip (by rfl) ?_; simp only [Act.put, List.setIfInBounds_toArray, List.set_cons_zero, List.set_cons_succ])
        refine wpPlan_end ?_
        go_wp2
        go_ret
        exact ⟨j, by rw [← HSP.out]; exact (spanEnd_stop (.inr HB.out.symm)).symm, hj1, hj2, rfl, SJ.out.drew.drew⟩
      · go_wp2_with fail
        refine wp_region_plan [(true, 0), (true, 1), (true, 2), (true, 3), (true, 4), (true, 5), (true, 6), (true, 7), (true, 8), (true, 9), (true, 10), (true, 11), (true, 12), (true, 13), (true, 14), (true, 15), (true, 16), (true, 17), (true, 18), (true, 19), (true, 20)] [21, 22] (fun W => W.cell? ⟨sb, 0, none⟩ = some (.string text) ∧ W.cell? ⟨sb, 1, none⟩ = some (.int .i64 j)) (by kernel_rfl) (by kernel_rfl) (fun _ _ d _ _ h => by cases d <;> exact h) ⟨q0, q1⟩ (fun hS0 => ?_)
        simp only [planOps, List.filterMap_cons, List.filterMap_nil, List.getElem?_toArray, List.getElem?_cons_zero, List.getElem?_cons_succ, Option.map_some]
        iterate 21
          first
            | (refine wpPlan_take ?_ (by rfl) (fun w' hS' => ?_) ?_; rotate_left; (obtain ⟨s0, s1⟩ := hS'; go_simp; first | done | with_reducible rfl); simp only [Act.put, List.setIfInBounds_toArray, List.set_cons_zero, List.set_cons_succ])
            | (refine wpPlan_skip (by rfl) ?_; simp only [Act.put, List.setIfInBounds_toArray, List.set_cons_zero, List.set_cons_succ])
        refine wpPlan_end ?_
        go_wp2_with fail
        refine HC.out.mono ?_
        rintro e w1 ⟨rfl, rfl⟩
        have z1 := SJ.out.fz 1
        go_wp2
        go_roundw
        case rel => exact ⟨j + 1, by omega, by omega, by rw [← spanEnd_step hlt HB.out.symm]; exact HSP.out, SJ.out.drew.set (j + 1)⟩
        case measure =>
          have e1 : (wr.setCell ⟨sb, 1, none⟩ (.int .i64 ((j : Int) + 1))).cell? ⟨sb, 1, none⟩ = some (.int .i64 ((j : Int) + 1)) := (SJ.out.set (j + 1)).c1
          have e2 := SJ.out.c1
          rw [World.cell?_drew, e1, e2]
          simp [intOf]
          omega
    · go_wp2_with fail
      refine wp_region_plan [(true, 0), (true, 1), (true, 2), (true, 3), (true, 4), (true, 5), (true, 6), (true, 7), (true, 8), (true, 9), (true, 10), (true, 11), (true, 12), (true, 13), (true, 14), (true, 15), (true, 16), (true, 17), (true, 18), (true, 19), (true, 20)] [21, 22] (fun W => W.cell? ⟨sb, 0, none⟩ = some (.string text) ∧ W.cell? ⟨sb, 1, none⟩ = some (.int .i64 j)) (by kernel_rfl) (by kernel_rfl) (fun _ _ d _ _ h => by cases d <;> exact h) ⟨q0, q1⟩ (fun hS0 => ?_)
      simp only [planOps, List.filterMap_cons, List.filterMap_nil, List.getElem?_toArray, List.getElem?_cons_zero, List.getElem?_cons_succ, Option.map_some]
      iterate 21
        first
          | (refine wpPlan_take ?_ (by rfl) (fun w' hS' => ?_) ?_; rotate_left; (obtain ⟨s0, s1⟩ := hS'; go_simp; first | done | with_reducible rfl); simp only [Act.put, List.setIfInBounds_toArray, List.set_cons_zero, List.set_cons_succ])
          | (refine wpPlan_skip (by rfl) ?_; simp only [Act.put, List.setIfInBounds_toArray, List.set_cons_zero, List.set_cons_succ])
      refine wpPlan_end ?_
      go_wp2_with fail
      refine wp_region_plan [(true, 0), (true, 1), (true, 2), (true, 3), (true, 4), (true, 5), (true, 6), (true, 7), (true, 8)] [9, 10] (fun W => W.cell? ⟨sb, 0, none⟩ = some (.string text) ∧ W.cell? ⟨sb, 1, none⟩ = some (.int .i64 j)) (by kernel_rfl) (by kernel_rfl) (fun _ _ d _ _ h => by cases d <;> exact h) ⟨q0, q1⟩ (fun hS0 => ?_)
      simp only [planOps, List.filterMap_cons, List.filterMap_nil, List.getElem?_toArray, List.getElem?_cons_zero, List.getElem?_cons_succ, Option.map_some]
      iterate 9
        first
          | (refine wpPlan_take ?_ (by rfl) (fun w' hS' => ?_) ?_; rotate_left; (obtain ⟨s0, s1⟩ := hS'; go_simp; first | done | with_reducible rfl); simp only [Act.put, List.setIfInBounds_toArray, List.set_cons_zero, List.set_cons_succ])
          | (refine wpPlan_skip (by rfl) ?_; simp only [Act.put, List.setIfInBounds_toArray, List.set_cons_zero, List.set_cons_succ])
      refine wpPlan_end ?_
      go_wp2
      go_ret
      exact ⟨j, by rw [← HSP.out]; exact (spanEnd_stop (.inl hlt)).symm, hj1, hj2, rfl, SJ.out.drew.drew⟩
set_option maxHeartbeats 1600000 in
theorem run_digit (h : w.heap[sb]? = some (.cells #[.string text, .int .i64 a] 151 (0, 0))) (ha : a ≤ text.size) (hm : text.size ≤ 1000000) :
    Calls Tryd.prog 73 #[.pointer (some ⟨sb, 0, none⟩), .func (.func 77) #[] #[]] w fun e w' => ∃ b, b = spanEnd digitB text (text.size - a) a ∧ a ≤ b ∧ b ≤ text.size ∧ e = .returned (.string (text.extract a b)) ∧ ScanAt w w' sb text b := by
  have S0 := Lib.hid (ScanAt.refl h)
  have c0 := S0.out.c0
  have c1 := S0.out.c1
  clear h
  go_enter Tryd.func73, Tryd.ntmps73
  go_wp2
  go_loopw [] (fun wr => ∃ j : Nat, a ≤ j ∧ j ≤ text.size ∧ spanEnd digitB text (text.size - j) j = spanEnd digitB text (text.size - a) a ∧ ScanAt w wr sb text j) (fun wr => text.size - (intOf ((wr.cell? ⟨sb, 1, none⟩).getD .nilIface)).toNat)
  case atStart => exact ⟨a, Nat.le_refl _, ha, rfl, S0.out⟩
  case round =>
    obtain ⟨j, hj1, hj2, hsp, hS⟩ := hrel
    have q0 := hS.c0
    have q1 := hS.c1
    have SJ := Lib.hid hS
    have HSP := Lib.hid hsp
    clear hS hsp c0 c1
    by_cases hlt : j < text.size
    · obtain ⟨B, hB⟩ : ∃ B, B = digitB (byteAt text j) := ⟨_, rfl⟩
      have HB := Lib.hid hB
      have HC := digit_any wr.drew (byteAt text j)
      rw [← hB, byteAt_get hlt] at HC
      have HC := Lib.hid HC
      clear hB
      cases B
      · go_wp2_with fail
        refine wp_region_plan [(true, 0), (true, 1), (true, 2), (true, 3), (true, 4), (true, 5), (true, 6), (true, 7), (true, 8), (true, 9), (true, 10), (true, 11), (true, 12), (true, 13), (true, 14), (true, 15), (true, 16), (true, 17), (true, 18), (true, 19), (true, 20)] [21, 22] (fun W => W.cell? ⟨sb, 0, none⟩ = some (.string text) ∧ W.cell? ⟨sb, 1, none⟩ = some (.int .i64 j)) (by kernel_rfl) (by kernel_rfl) (fun _ _ d _ _ h => by cases d <;> exact h) ⟨q0, q1⟩ (fun hS0 => ?_)
        simp only [planOps, List.filterMap_cons, List.filterMap_nil, List.getElem?_toArray, List.getElem?_cons_zero, List.getElem?_cons_succ, Option.map_some]
        iterate 21
          first
            | (refine wpPlan_take ?_ (by rfl) (fun w' hS' => ?_) ?_; rotate_left; (obtain ⟨s0, s1⟩ := hS'; go_simp; first | done | with_reducible rfl); simp only [Act.put, List.setIfInBounds_toArray, List.set_cons_zero, List.set_cons_succ])
            | (refine wpPlan_skip (by rfl) ?_; simp only [Act.put, List.setIfInBounds_toArray, List.set_cons_zero, List.set_cons_succ])
        refine wpPlan_end ?_
        go_wp2_with fail
        refine HC.out.mono ?_
        rintro e w1 ⟨rfl, rfl⟩
        go_wp2_with fail
        refine wp_region_plan [(true, 0), (true, 1), (true, 2), (true, 3), (true, 4), (true, 5), (true, 6), (true, 7), (true, 8)] [9, 10] (fun W => W.cell? ⟨sb, 0, none⟩ = some (.string text) ∧ W.cell? ⟨sb, 1, none⟩ = some (.int .i64 j)) (by kernel_rfl) (by kernel_rfl) (fun _ _ d _ _ h => by cases d <;> exact h) ⟨q0, q1⟩ (fun hS0 => ?_)
        simp only [planOps, List.filterMap_cons, List.filterMap_nil, List.getElem?_toArray, List.getElem?_cons_zero, List.getElem?_cons_succ, Option.map_some]
        iterate 9
          first
            | (refine wpPlan_take ?_ (by rfl) (fun w' hS' => ?_) ?_; rotate_left; (obtain ⟨s0, s1⟩ := hS'; go_simp; first | done | with_reducible rfl); simp only [Act.put, List.setIfInBounds_toArray, List.set_cons_zero, List.set_cons_succ])
            | (refine wpPlan_skip (by rfl) ?_; simp only [Act.put, List.setIfInBounds_toArray, List.set_cons_zero, List.set_cons_succ])
        refine wpPlan_end ?_
        go_wp2
        go_ret
        exact ⟨j, by rw [← HSP.out]; exact (spanEnd_stop (.inr HB.out.symm)).symm, hj1, hj2, rfl, SJ.out.drew.drew⟩
      · go_wp2_with fail
        refine wp_region_plan [(true, 0), (true, 1), (true, 2), (true, 3), (true, 4), (true, 5), (true, 6), (true, 7), (true, 8), (true, 9), (true, 10), (true, 11), (true, 12), (true, 13), (true, 14), (true, 15), (true, 16), (true, 17), (true, 18), (true, 19), (true, 20)] [21, 22] (fun W => W.cell? ⟨sb, 0, none⟩ = some (.string text) ∧ W.cell? ⟨sb, 1, none⟩ = some (.int .i64 j)) (by kernel_rfl) (by kernel_rfl) (fun _ _ d _ _ h => by cases d <;> exact h) ⟨q0, q1⟩ (fun hS0 => ?_)
        simp only [planOps, List.filterMap_cons, List.filterMap_nil, List.getElem?_toArray, List.getElem?_cons_zero, List.getElem?_cons_succ, Option.map_some]
        iterate 21
          first
            | (refine wpPlan_take ?_ (by rfl) (fun w' hS' => ?_) ?_; rotate_left; (obtain ⟨s0, s1⟩ := hS'; go_simp; first | done | with_reducible rfl); simp only [Act.put, List.setIfInBounds_toArray, List.set_cons_zero, List.set_cons_succ])
            | (refine wpPlan_skip (by rfl) ?_; simp only [Act.put, List.setIfInBounds_toArray, List.set_cons_zero, List.set_cons_succ])
        refine wpPlan_end ?_
        go_wp2_with fail
        refine HC.out.mono ?_
        rintro e w1 ⟨rfl, rfl⟩
        have z1 := SJ.out.fz 1
        go_wp2
        go_roundw
        case rel => exact ⟨j + 1, by omega, by omega, by rw [← spanEnd_step hlt HB.out.symm]; exact HSP.out, SJ.out.drew.set (j + 1)⟩
        case measure =>
          have e1 : (wr.setCell ⟨sb, 1, none⟩ (.int .i64 ((j : Int) + 1))).cell? ⟨sb, 1, none⟩ = some (.int .i64 ((j : Int) + 1)) := (SJ.out.set (j + 1)).c1
          have e2 := SJ.out.c1
          rw [World.cell?_drew, e1, e2]
          simp [intOf]
          omega
    · go_wp2_with fail
      refine wp_region_plan [(true, 0), (true, 1), (true, 2), (true, 3), (true, 4), (true, 5), (true, 6), (true, 7), (true, 8), (true, 9), (true, 10), (true, 11), (true, 12), (true, 13), (true, 14), (true, 15), (true, 16), (true, 17), (true, 18), (true, 19), (true, 20)] [21, 22] (fun W => W.cell? ⟨sb, 0, none⟩ = some (.string text) ∧ W.cell? ⟨sb, 1, none⟩ = some (.int .i64 j)) (by kernel_rfl) (by kernel_rfl) (fun _ _ d _ _ h => by cases d <;> exact h) ⟨q0, q1⟩ (fun hS0 => ?_)
      simp only [planOps, List.filterMap_cons, List.filterMap_nil, List.getElem?_toArray, List.getElem?_cons_zero, List.getElem?_cons_succ, Option.map_some]
      iterate 21
        first
          | (refine wpPlan_take ?_ (by rfl) (fun w' hS' => ?_) ?_; rotate_left; (obtain ⟨s0, s1⟩ := hS'; go_simp; first | done | with_reducible rfl); simp only [Act.put, List.setIfInBounds_toArray, List.set_cons_zero, List.set_cons_succ])
          | (refine wpPlan_skip (by rfl) ?_; simp only [Act.put, List.setIfInBounds_toArray, List.set_cons_zero, List.set_cons_succ])
      refine wpPlan_end ?_
      go_wp2_with fail
      refine wp_region_plan [(true, 0), (true, 1), (true, 2), (true, 3), (true, 4), (true, 5), (true, 6), (true, 7), (true, 8)] [9, 10] (fun W => W.cell? ⟨sb, 0, none⟩ = some (.string text) ∧ W.cell? ⟨sb, 1, none⟩ = some (.int .i64 j)) (by kernel_rfl) (by kernel_rfl) (fun _ _ d _ _ h => by cases d <;> exact h) ⟨q0, q1⟩ (fun hS0 => ?_)
      simp only [planOps, List.filterMap_cons, List.filterMap_nil, List.getElem?_toArray, List.getElem?_cons_zero, List.getElem?_cons_succ, Option.map_some]
      iterate 9
        first
          | (refine wpPlan_take ?_ (by rfl) (fun w' hS' => ?_) ?_; rotate_left; (obtain ⟨s0, s1⟩ := hS'; go_simp; first | done | with_reducible rfl); simp only [Act.put, List.setIfInBounds_toArray, List.set_cons_zero, List.set_cons_succ])
          | (refine wpPlan_skip (by rfl) ?_; simp only [Act.put, List.setIfInBounds_toArray, List.set_cons_zero, List.set_cons_succ])
      refine wpPlan_end ?_
      go_wp2
      go_ret
      exact ⟨j, by rw [← HSP.out]; exact (spanEnd_stop (.inl hlt)).symm, hj1, hj2, rfl, SJ.out.drew.drew⟩
end Go.Proofs.YtgifgiipojedbaaDoor
