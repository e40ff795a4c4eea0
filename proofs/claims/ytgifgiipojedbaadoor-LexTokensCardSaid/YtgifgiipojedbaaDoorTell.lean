/- api.Tell at the errors that package heap hands back. -/
import Derived.Test.YtgifgiipojedbaaDoorAs
import Derived.Test.YtgifgiipojedbaaDoorHeapE
namespace Go.Proofs.YtgifgiipojedbaaDoor
open Go Go.RowKit
set_option maxRecDepth 100000

/-- what is told of errors.errorType -/
def ErrType (w : World) : Prop := w.cell? ⟨6, 0, none⟩ = some (.iface 229 (.agg #[.pointer (some ⟨11, 45, none⟩)]))
theorem ErrType.lt {w : World} (h : ErrType w) : 6 < w.heap.size := by
  rcases Nat.lt_or_ge 6 w.heap.size with h' | h'
  · exact h'
  · simp [ErrType, World.cell?, Array.getElem?_eq_none h'] at h
theorem ErrType.below {w w' : World} (h : ErrType w) (hB : Below w.heap.size w w') : ErrType w' := (hB.cell (p := ⟨6, 0, none⟩) h.lt).trans h

set_option maxHeartbeats 800000 in
theorem tell_any (w : World) (c : Int) (hg : ErrType w) :
    Calls Tryd.prog 102 #[errV c] w fun e w' => e = .returned (.int .i64 c) ∧ Below w.heap.size w w' := by
  by_cases hc : c = 0
  · subst hc
    simp only [errV, if_true]
    go_enter Tryd.func102, Tryd.ntmps102
    go_wp2
    go_ret
    exact ⟨rfl, Below.refl _ _⟩
  · simp only [errV, if_neg hc]
    have hlt := hg.lt
    have hit := Lib.hid (as_hit c ⟨w.heap.size, 0, none⟩ (.int .i64 0) (w.alloc (.cells #[.int .i64 0] 47)) ((cell_old (p := ⟨6, 0, none⟩) hlt).trans hg) (World.cell?_alloc_new _ _ _ 0) (World.frozen?_alloc_new _ _ _ _))
    clear hg
    go_enter Tryd.func102, Tryd.ntmps102
    go_wp2_with fail
    refine hit.out.mono ?_
    rintro e w1 ⟨rfl, hw1⟩
    have hB : Below w.heap.size w w1 := by
      rw [hw1]
      refine Below.setCell ?_ (by simp) _
      repeat (refine Below.alloc ?_ (by simp; try omega) _)
      exact Below.refl _ _
    have hx : w1.cell? ⟨w.heap.size, 0, none⟩ = some (.int .i64 c) := by
      rw [hw1]
      rw [World.cell?_setCell_same']
      rw [cell_old (by simp; omega), cell_old (by simp; omega), cell_old (by simp; omega), cell_old (by simp)]
      rw [World.cell?_alloc_new]
      rfl
    have HB := Lib.hid hB
    clear hB hw1 hit
    go_wp2
    go_ret
    exact ⟨rfl, HB.out⟩
end Go.Proofs.YtgifgiipojedbaaDoor
