/- plain.Place; the laws' at. -/
import Derived.Test.YtgifgiipojedbaaDoorAt
import Derived.Test.YtgifgiipojedbaaDoorTell
import Derived.Test.YtgifgiipojedbaaDoorPlan
namespace Go.Proofs.YtgifgiipojedbaaDoor
open Go Go.RowKit Go.Extern.Stop Go.Stop Go.Extern
set_option maxRecDepth 100000
set_option linter.unusedVariables false

set_option maxHeartbeats 800000 in
theorem tell_at (w : World) (c p : Int) (b : Nat) (hg : ErrType w) (hb : w.heap[b]? = some (.cells #[.int .i64 c, .int .i64 p] 154 (0, 0))) :
    Calls Tryd.prog 102 #[.iface 153 (.pointer (some ⟨b, 0, none⟩))] w fun e w' => e = .returned (.int .i64 c) ∧ Below w.heap.size w w' := by
  have hlt := hg.lt
  have hbl := (Array.getElem?_eq_some_iff.1 hb).1
  have hit := Lib.hid (as_at c p b ⟨w.heap.size, 0, none⟩ (.int .i64 0) (w.alloc (.cells #[.int .i64 0] 47)) ((cell_old (p := ⟨6, 0, none⟩) hlt).trans hg) (World.cell?_alloc_new _ _ _ 0) (World.frozen?_alloc_new _ _ _ _) (((Go.MapKept.heap_alloc w _).2 _ hbl).trans hb))
  clear hg hb
  go_enter Tryd.func102, Tryd.ntmps102
  go_wp2_with fail
  refine hit.out.mono ?_
  rintro e w1 ⟨rfl, hw1⟩
  have hB : Below w.heap.size w w1 := by
    rw [hw1]
    refine Below.setCell ?_ (by simp) _
    repeat (refine Below.alloc ?_ (by simp; try omega) _)
    exact Below.refl _ _
  have hx : w1.cell? ⟨w.heap.size, 0, none⟩ = some (.int .i64 c) := by
    rw [hw1]
    rw [World.cell?_setCell_same']
    rw [cell_old (by simp; omega), cell_old (by simp; omega), cell_old (by simp; omega), cell_old (by simp)]
    rw [World.cell?_alloc_new]
    rfl
  have HB := Lib.hid hB
  clear hB hw1 hit
  go_wp2
  go_ret
  exact ⟨rfl, HB.out⟩
theorem Tryd.assertPl1 (b : Nat) (w : World) : (Instr.typeAssert (.iface 153 (.pointer (some ⟨b, 0, none⟩))) 45 153 true).run Tryd.prog w = .ok (.tuple #[.pointer (some ⟨b, 0, none⟩), .bool true]) w := by kernel_rfl
theorem Tryd.assertPl2 (v : Value) (w : World) : (Instr.typeAssert (.iface 47 v) 45 153 true).run Tryd.prog w = .ok (.tuple #[.pointer none, .bool false]) w := by kernel_rfl
theorem Tryd.assertPl3 (v : Value) (w : World) : (Instr.typeAssert (.iface 47 v) 45 179 true).run Tryd.prog w = .ok (.tuple #[.nilIface, .bool false]) w := run_typeAssert_lacksB Tryd.underlying179 (by kernel_rfl) (by kernel_rfl) _ _ w
set_option maxHeartbeats 4000000 in
theorem place_at (w : World) (c p : Int) (b : Nat) (hg : ErrType w) (hb : w.heap[b]? = some (.cells #[.int .i64 c, .int .i64 p] 154 (0, 0))) :
    Calls Tryd.prog 81 #[.iface 153 (.pointer (some ⟨b, 0, none⟩))] w fun e w' => e = .returned (.tuple #[.int .i64 c, .int .i64 p]) ∧ Below w.heap.size w w' := by
  have HT := Lib.hid (tell_at w c p b hg hb)
  have a1 := Tryd.assertPl1
  have HBK := Lib.hid hb
  clear hg hb
  go_enter Tryd.func81, Tryd.ntmps81
  go_wp2_with fail
  refine HT.out.mono ?_
  rintro e w1 ⟨rfl, hB⟩
  have b1 : w1.cell? ⟨b, 1, none⟩ = some (.int .i64 p) := by
    have h := (hB.block b (Array.getElem?_eq_some_iff.1 HBK.out).1).trans HBK.out
    simp [World.cell?, h]
  have HB := Lib.hid hB
  clear hB HT
  go_wp2_with fail
  refine wp_loop_rounds 1 ?_
  rw [rounds_succ]
  go_wp2_with fail
  refine wp_region_plan [(true, 0), (true, 1), (true, 2), (true, 3), (true, 4), (true, 5)] [6] (fun W => W.cell? ⟨b, 1, none⟩ = some (.int .i64 p)) (by kernel_rfl) (by kernel_rfl) (fun _ _ d _ _ h => by cases d <;> exact h) b1 (fun hS0 => ?_)
  simp only [planOps, List.filterMap_cons, List.filterMap_nil, List.getElem?_toArray, List.getElem?_cons_zero, List.getElem?_cons_succ, Option.map_some]
  iterate 6
    first
      | (refine wpPlan_take ?_ (by rfl) (fun w' hS' => ?_) ?_; rotate_left; (have s0 := hS'; go_simp; first | done | with_reducible rfl); simp only [Act.put, List.setIfInBounds_toArray, List.set_cons_zero, List.set_cons_succ])
      | (refine wpPlan_skip (by rfl) ?_; simp only [Act.put, List.setIfInBounds_toArray, List.set_cons_zero, List.set_cons_succ])
  refine wpPlan_end ?_
  go_wp2
  go_ret2
  exact ⟨rfl, HB.out.drew⟩
set_option maxHeartbeats 4000000 in
theorem place_errno (w : World) (c : Int) (hc : c ≠ 0) (hg : ErrType w) :
    Calls Tryd.prog 81 #[.iface 47 (.int .i64 c)] w fun e w' => e = .returned (.tuple #[.int .i64 c, .int .i64 (-1)]) ∧ Below w.heap.size w w' := by
  have ht := tell_any w c hg
  rw [show errV c = .iface 47 (.int .i64 c) by unfold errV; rw [if_neg hc]] at ht
  have HT := Lib.hid ht
  have a2 := Tryd.assertPl2
  have a3 := Tryd.assertPl3
  clear hg ht hc
  go_enter Tryd.func81, Tryd.ntmps81
  go_wp2_with fail
  refine HT.out.mono ?_
  rintro e w1 ⟨rfl, hB⟩
  have HB := Lib.hid hB
  clear hB HT
  go_wp2_with fail
  refine wp_loop_rounds 1 ?_
  rw [rounds_succ]
  go_wp2
  go_ret2
  exact ⟨rfl, HB.out⟩
set_option maxHeartbeats 4000000 in
/-- an error is this one, at this place -/
theorem at_any (w : World) (v : Value) (c p : Int)
    (HP : Hid (∀ W, Below w.heap.size w W → Calls Tryd.prog 81 #[v] W fun e w' => e = .returned (.tuple #[.int .i64 c, .int .i64 p]) ∧ Below W.heap.size W w')) :
    Calls Tryd.prog 47 #[v, .agg #[.int .i64 c, .int .i64 p]] w fun e w' => e = .returned (.bool true) ∧ Below w.heap.size w w' := by
  have hb : Below w.heap.size w (w.alloc (.cells #[.int .i64 c, .int .i64 p] 86)) := (Below.refl _ _).alloc (Nat.le_refl _) _
  have HB := Lib.hid hb
  clear hb
  go_enter Tryd.func47, Tryd.ntmps47
  go_wp2_with fail
  refine (HP.out _ HB.out).mono ?_
  rintro e w1 ⟨rfl, hB⟩
  have hsz : w.heap.size < (w.alloc (.cells #[.int .i64 c, .int .i64 p] 86)).heap.size := by simp
  have z0 : w1.cell? ⟨w.heap.size, 0, none⟩ = some (.int .i64 c) := (World.cell?_of_block (hB.block w.heap.size hsz)).trans (by simp)
  have z1 : w1.cell? ⟨w.heap.size, 1, none⟩ = some (.int .i64 p) := (World.cell?_of_block (hB.block w.heap.size hsz)).trans (by simp)
  have HB1 := Lib.hid (HB.out.trans (hB.mono HB.out.size))
  clear hB hsz
  go_wp2
  go_ret
  exact ⟨rfl, HB1.out⟩
end Go.Proofs.YtgifgiipojedbaaDoor
