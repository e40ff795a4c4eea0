/- Walks of the laws on package heap: heaped. -/
import Derived.Test.YtgoaljfhciimhaaDoorHeapK
import Derived.Test.YtgoaljfhciimhaaDoorPlan
namespace Go.Proofs.YtgoaljfhciimhaaDoor
open Go Go.RowKit
set_option maxRecDepth 100000

def noB : Nat → List LBind := fun _ => []
theorem empty_chain : ({ LHeap.empty with scopes := LHeap.empty.scopes ++ [⟨-1, -1, []⟩] } : LHeap) = chainH 1 noB := rfl
theorem errV0 : errV 0 = .nilIface := rfl
theorem bytes_a : (⟨#[97]⟩ : ByteArray) ≠ ⟨#[98]⟩ := by decide

section
set_option maxHeartbeats 1600000 in
theorem heaped_any (w : World) :
    Calls Tryd.prog 17 #[] w fun e w' => e = .returned (.bool true) ∧ Below w.heap.size w w' := by
  obtain ⟨ρ, L, h0, hr⟩ := heap_new w 34
  have o0 : Own w ρ (w.alloc (.cells #[.slice none 0 0, .slice none 0 0] 34)) w.heap.size L .empty :=
    ⟨h0, (Below.refl _ _).alloc (Nat.le_refl _) _, fun b hb => hr b (by omega)⟩
  have HC := newScope_any h0 (-1) (-1) (by simp [LHeap.empty])
  rw [empty_chain] at HC
  have HC := Lib.hid (HC.mono (R' := fun e w' => e = .returned (.int .i64 0) ∧ ∃ ρ' L', HeapAt ρ' w' w.heap.size 0 L' (chainH 1 noB) ∧ Fr ρ ρ' w.heap.size 0 (w.alloc (.cells #[.slice none 0 0, .slice none 0 0] 34)) w') (fun e w' h => ⟨h.1.trans (ret_int rfl), h.2⟩))
  have O0 := Lib.hid o0
  clear h0 hr o0
  go_enter Tryd.func17, Tryd.ntmps17
  go_wp2_with fail
  refine HC.out.mono ?_
  rintro e w1 ⟨rfl, ρ1, L1, hA1, hF1⟩
  have o1 := O0.out.step hA1 hF1
  clear HC O0 hA1 hF1
  have O1 := Lib.hid o1
  clear o1
  go_wp2_with fail
  refine (of_any _ 3).mono ?_
  rintro e w2 ⟨rfl, hB⟩
  have o2 := O1.out.below hB
  clear O1 hB
  have HD := declare_any o2.at' ((0 : Nat) : Int) ⟨#[97]⟩ 0 ⟨3, 3, ⟨#[]⟩⟩ (chain_lens (fun _ => by simp [noB]))
  rw [chain_declare (by omega) (by rw [chain_has (by omega)]; rfl) (by decide) (by decide)] at HD
  have HD := Lib.hid HD
  have O2 := Lib.hid o2
  clear o2
  simp only [LVal.agg]
  go_wp2_with fail
  refine HD.out.mono ?_
  rintro e w3 ⟨rfl, ρ3, L3, hA3, hF3⟩
  have o3 := O2.out.step hA3 hF3
  clear HD O2 hA3 hF3
  rw [errV0]
  obtain ⟨B, hB⟩ : ∃ B, B = updB noB 0 (noB 0 ++ [⟨⟨#[97]⟩, ⟨3, 3, ⟨#[]⟩⟩, 0, true⟩]) := ⟨_, rfl⟩
  rw [← hB] at o3
  have hB0 : B 0 = [⟨⟨#[97]⟩, ⟨3, 3, ⟨#[]⟩⟩, 0, true⟩] := by rw [hB]; rfl
  have ha : (chainH 1 B).has (0 : Nat) ⟨#[97]⟩ = true := by rw [chain_has (by omega), hB0, idx_self]; rfl
  have hnb : (chainH 1 B).has (0 : Nat) ⟨#[98]⟩ = false := by rw [chain_has (by omega), hB0]; rfl
  have hrd : (chainH 1 B).read (0 : Nat) ⟨#[97]⟩ = (⟨3, 3, ⟨#[]⟩⟩, 0) := chain_read (k := 0) (b := ⟨⟨#[97]⟩, ⟨3, 3, ⟨#[]⟩⟩, 0, true⟩) (by omega) (by rw [hB0]; exact idx_self _ _ _ _) (by rw [hB0]; rfl) rfl
  have hfa : (chainH 1 B).find (0 : Nat) ⟨#[97]⟩ = (0 : Nat) := chain_find ha (Nat.le_refl _) (by omega) (fun j h1 h2 => by omega)
  have hfb : (chainH 1 B).find (0 : Nat) ⟨#[98]⟩ = -1 := chain_noneF 0 _ (by omega) (fun j hj => by rw [show j = 0 by omega]; exact hnb)
  have HR := read_any o3.at' (0 : Nat) ⟨#[97]⟩
  rw [hrd] at HR
  have HR := Lib.hid HR
  have HFa := Lib.hid hfa
  have HFb := Lib.hid hfb
  have O3 := Lib.hid o3
  clear o3 hB hB0 ha hnb hrd hfa hfb
  go_wp2_with fail
  refine HR.out.mono ?_
  rintro e w4 ⟨rfl, hB⟩
  have O4 := Lib.hid (O3.out.below hB)
  clear O3 HR hB
  simp only [LVal.agg, errV0]
  go_wp2_with fail
  obtain ⟨w5, hw5⟩ : ∃ W, W = w4.alloc (.cells #[.int .i64 3, .int .i64 3, .string ⟨#[]⟩] 39) := ⟨_, rfl⟩
  rw [← hw5]
  obtain ⟨x, hx⟩ : ∃ x, x = w4.heap.size := ⟨_, rfl⟩
  rw [← hx]
  have q0 : w5.cell? ⟨x, 0, none⟩ = some (.int .i64 3) := by rw [hw5, hx]; exact World.cell?_alloc_new _ _ _ 0
  have q1 : w5.cell? ⟨x, 1, none⟩ = some (.int .i64 3) := by rw [hw5, hx]; exact World.cell?_alloc_new _ _ _ 1
  have q2 : w5.cell? ⟨x, 2, none⟩ = some (.string ⟨#[]⟩) := by rw [hw5, hx]; exact World.cell?_alloc_new _ _ _ 2
  have hlt : x < w5.heap.size := by rw [hw5, hx]; simp
  have O5 := Lib.hid (O4.out.below (w' := w5) (by rw [hw5]; exact (Below.refl _ _).alloc (Nat.le_refl _) _))
  clear hw5 hx O4
  refine wp_region_plan [(true, 0), (true, 1), (true, 2), (true, 3), (true, 4), (true, 5), (true, 6), (true, 7), (false, 8), (true, 9), (true, 10), (true, 11), (true, 12), (true, 14), (false, 13)] [15, 16, 17, 18, 19, 20, 21, 22] (fun W => W.cell? ⟨x, 0, none⟩ = some (.int .i64 3) ∧ W.cell? ⟨x, 1, none⟩ = some (.int .i64 3) ∧ W.cell? ⟨x, 2, none⟩ = some (.string ⟨#[]⟩)) (by kernel_rfl) (by kernel_rfl) (fun _ _ d _ _ h => by cases d <;> exact h) ⟨q0, q1, q2⟩ (fun hS0 => ?_)
  simp only [planOps, List.filterMap_cons, List.filterMap_nil, List.getElem?_toArray, List.getElem?_cons_zero, List.getElem?_cons_succ, Option.map_some]
  iterate 8
    first
      | (refine wpPlan_take ?_ (by rfl) (fun w' hS' => ?_) ?_; rotate_left; (obtain ⟨s0, s1, s2⟩ := hS'; go_simp; first | done | with_reducible rfl); simp only [Act.put, List.setIfInBounds_toArray, List.set_cons_zero, List.set_cons_succ])
      | (refine wpPlan_skip (by rfl) ?_; simp only [Act.put, List.setIfInBounds_toArray, List.set_cons_zero, List.set_cons_succ])
  refine wpPlan_go (fun K hK => ?_)
  go_simp
  refine (of_any _ 3).mono ?_
  rintro e w6 ⟨rfl, hB⟩
  have O6 := Lib.hid (O5.out.drew.below hB)
  have hlt6 : x < w6.heap.size := Nat.lt_of_lt_of_le hlt hB.size
  have q0' := (hB.cell (p := ⟨x, 0, none⟩) hlt).trans q0
  have q1' := (hB.cell (p := ⟨x, 1, none⟩) hlt).trans q1
  have q2' := (hB.cell (p := ⟨x, 2, none⟩) hlt).trans q2
  refine hK _ _ ⟨q0', q1', q2'⟩ ?_
  clear hK K hB q0 q1 q2 O5
  simp only [LVal.agg]
  iterate 5
    first
      | (refine wpPlan_take ?_ (by rfl) (fun w' hS' => ?_) ?_; rotate_left; (obtain ⟨s0, s1, s2⟩ := hS'; go_simp; first | done | with_reducible rfl); simp only [Act.put, List.setIfInBounds_toArray, List.set_cons_zero, List.set_cons_succ])
      | (refine wpPlan_skip (by rfl) ?_; simp only [Act.put, List.setIfInBounds_toArray, List.set_cons_zero, List.set_cons_succ])
  refine wpPlan_go (fun K hK => ?_)
  go_simp
  refine (find_at O6.out.at' (chain_wf _ _) ((0 : Nat) : Int) ⟨#[97]⟩).mono ?_
  rintro e w7 ⟨rfl, hB⟩
  have O7 := Lib.hid (O6.out.below hB)
  refine hK _ _ ⟨(hB.cell (p := ⟨x, 0, none⟩) hlt6).trans q0', (hB.cell (p := ⟨x, 1, none⟩) hlt6).trans q1', (hB.cell (p := ⟨x, 2, none⟩) hlt6).trans q2'⟩ ?_
  rw [HFa.out]
  clear hK K hB O6
  refine wpPlan_end ?_
  go_wp2_with fail
  refine (find_at O7.out.at' (chain_wf _ _) ((0 : Nat) : Int) ⟨#[98]⟩).mono ?_
  rintro e w8 ⟨rfl, hB⟩
  have O8 := Lib.hid (O7.out.below hB)
  rw [HFb.out]
  clear hB O7
  go_wp2
  go_ret
  exact ⟨rfl, O8.out.old⟩
end
end Go.Proofs.YtgoaljfhciimhaaDoor
