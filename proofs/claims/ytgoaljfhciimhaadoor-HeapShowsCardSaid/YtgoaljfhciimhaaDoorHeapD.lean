/- Walks of package heap that change it: Declare. -/
import Derived.Test.YtgoaljfhciimhaaDoorHeapS
import Derived.Test.YtgoaljfhciimhaaDoorPlan
namespace Go.Proofs.YtgoaljfhciimhaaDoor
open Go Go.RowKit
set_option maxRecDepth 100000

/-- an error, or the heap that is left -/
def LHeap.declare (H : LHeap) (n : Int) (name : ByteArray) (kind : Int) (v : LVal) : LHeap × Int :=
  match H.scope? n with
  | none => (H, 7)
  | some s =>
    if 0 ≤ s.object then (H, 1)
    else if H.has n name then (H, 9)
    else ({ H with scopes := H.scopes.set n.toNat { s with names := s.names ++ [⟨name, v, kind, !decide (kind = 1) && !decide (kind = 2)⟩] } }, 0)

section
variable {ρ : Nat → Option Role} {w : World} {hb ho : Nat} {L : HL} {H : LHeap}

theorem Fr.mono_below {w1 w' : World} {ρ' : Nat → Option Role} (hh : hb < w.heap.size) (hB : Below w.heap.size w w1) (hF : Fr ρ ρ' hb ho w1 w') : Fr ρ ρ' hb ho w w' := (Fr.of_below hh hB).trans hF

/-- the heap behind the region of Declare -/
theorem decl_fin {w1 w2 : World} {m gg cap : Nat} {s : LScope} {nv : Value} {b : LBind} {T : TypeId} (h : HeapAt ρ w1 hb ho L H) (hm : H.scopes[m]? = some s) (hnv : nv = L.nv m)
    (hblk : w1.heap[L.sb m]? = some (.cells #[.int .i64 s.outer, .int .i64 s.object, nv] 120 (0, 0)))
    (hg : ((w1.alloc (.cells b.cells.toArray T)).drew).grownBy w2 nv.ownBlock)
    (hown : w2.ownsRow 0 124 6 (.slice (some ⟨gg, 0, none⟩) (s.names.length + 1) cap) (s.names.length + 1) (s.names.flatMap LBind.cells ++ b.cells))
    (hat : nv.ownBlock = some gg ∨ gg = w1.heap.size + 1) :
    ∃ ρ' L', HeapAt ρ' (w2.setCell ⟨L.sb m, 2, none⟩ (.slice (some ⟨gg, 0, none⟩) (s.names.length + 1) cap)) hb ho L' { H with scopes := H.scopes.set m { s with names := s.names ++ [b] } } ∧
      Fr ρ ρ' hb ho w1 (w2.setCell ⟨L.sb m, 2, none⟩ (.slice (some ⟨gg, 0, none⟩) (s.names.length + 1) cap)) := by
  have hml := getElem?_lt hm
  have hA : Below w1.heap.size w1 ((w1.alloc (.cells b.cells.toArray T)).drew) := ((Below.refl _ _).alloc (Nat.le_refl _) _).drew
  have hsb : L.sb m < w1.heap.size := (Array.getElem?_eq_some_iff.1 hblk).1
  have hne : nv.ownBlock ≠ some (L.sb m) := fun e => by
    rw [hnv] at e
    have h1 := h.rnv m _ hml e
    rw [h.rsb m hml] at h1
    cases h1
  have hgb : gg ≠ L.sb m := by
    rcases hat with h' | h'
    · rintro rfl; exact hne h'
    · omega
  have d2 : w1.cell? ⟨L.sb m, 2, none⟩ = some nv := by simp [World.cell?, hblk]
  obtain ⟨k1, k2, k3, k4, k5, k6, k7, k8, k9, k10⟩ := push_field (.slice (some ⟨gg, 0, none⟩) (s.names.length + 1) cap) hA hg hsb hne d2
  have hblk2 : w2.heap[L.sb m]? = some (.cells #[.int .i64 s.outer, .int .i64 s.object, nv] 120 (0, 0)) :=
    (hg.block _ (Nat.lt_of_lt_of_le hsb hA.size) (fun e => hne e.symm)).trans ((hA.block _ hsb).trans hblk)
  refine h.setNames hm (nv' := .slice (some ⟨gg, 0, none⟩) (s.names.length + 1) cap) (names' := s.names ++ [b]) ?_ ?_ k7 ?_ ?_ k8 k9 k10
  · exact setCell_block _ hblk2
  · have := ownsRow_block hown fun g' hg' => k5 g' (by simp only [Value.ownBlock, Option.some.injEq] at hg'; omega)
    simpa using this
  · intro b' h1 h2 h3
    rw [← hnv] at h3
    exact k4 b' h1 h2 h3
  · intro g' hg'
    simp only [Value.ownBlock, Option.some.injEq] at hg'
    subst hg'
    rw [← hnv]
    rcases hat with h' | h'
    · exact .inl h'
    · exact .inr (by omega)

set_option maxHeartbeats 1600000 in
theorem declare_ok1 (h : HeapAt ρ w hb ho L H) (m : Nat) (s : LScope) (name : ByteArray) (kind : Int) (vk vn : Int) (vs : ByteArray) (hm : H.scopes[m]? = some s) (hso : ¬ 0 ≤ s.object) (hq' : H.has (m : Int) name = false) (hln : s.names.length < 1099511627776)
    (k1 : ((kind : Int) != 1) = false) :
    Calls Tryd.prog 18 #[.pointer (some ⟨hb, ho, none⟩), .int .i64 m, .string name, .int .i64 kind, .agg #[.int .i64 vk, .int .i64 vn, .string vs]] w fun e w' => e = .returned (errV 0) ∧
      ∃ ρ' L', HeapAt ρ' w' hb ho L' { H with scopes := H.scopes.set m { s with names := s.names ++ [⟨name, ⟨vk, vn, vs⟩, kind, false⟩] } } ∧ Fr ρ ρ' hb ho w w' := by
  have hhb := h.hbLt
  have hnew : ∀ b, ρ b ≠ none → b < w.heap.size := h.live
  have h1 := h.below ((Below.refl _ _).alloc (Nat.le_refl _) (.cells #[.int .i64 vk, .int .i64 vn, .string vs] 39))
  have hB0 : Below w.heap.size w (w.alloc (.cells #[.int .i64 vk, .int .i64 vn, .string vs] 39)) := (Below.refl _ _).alloc (Nat.le_refl _) _
  have hc1 : (w.alloc (.cells #[.int .i64 vk, .int .i64 vn, .string vs] 39)).cell? ⟨L.sb m, 1, none⟩ = some (.int .i64 s.object) := by have := (h1.scp m s hm).1; simp [World.cell?, this]
  have HC := Lib.hid (scope_yes h1 m (getElem?_lt hm))
  have HA := Lib.hid (has_any h1 (m : Int) name)
  rw [hq'] at HA
  obtain ⟨i0, hi, hz0, hz1, hz2⟩ := info_parts Tryd.infoBind
  have HH := Lib.hid h1
  have HB := Lib.hid hB0
  have HM := Lib.hid hm
  clear h h1 hB0 hm hq'
  go_enter Tryd.func18, Tryd.ntmps18
  go_wp2_with fail
  refine HC.out.mono ?_
  rintro e w1 ⟨rfl, rfl⟩
  go_wp2_with fail
  refine HA.out.mono ?_
  rintro e w1 ⟨rfl, hB⟩
  obtain ⟨q0, q1, q2, f0, f1, f2, hs, hB'⟩ := box_facts hB
  have hH1 := HH.out.below hB
  obtain ⟨hblk, hown⟩ := hH1.scp m s HM.out
  obtain ⟨nv, hnv⟩ : ∃ v, v = L.nv m := ⟨_, rfl⟩
  rw [← hnv] at hblk hown
  have hsb : L.sb m < w1.heap.size := (Array.getElem?_eq_some_iff.1 hblk).1
  have d2 : w1.cell? ⟨L.sb m, 2, none⟩ = some nv := by simp [World.cell?, hblk]
  have fz2 : w1.frozen? ⟨L.sb m, 2, none⟩ = false := by simp [World.frozen?, hblk]
  have hneb : nv.ownBlock ≠ some (L.sb m) := fun e => by
    rw [hnv] at e
    have h1 := hH1.rnv m _ (getElem?_lt HM.out) e
    rw [hH1.rsb m (getElem?_lt HM.out)] at h1
    cases h1
  have HH1 := Lib.hid hH1
  have HBk := Lib.hid hblk
  have HO := Lib.hid hown
  have HN := Lib.hid hnv
  have HNe := Lib.hid hneb
  have HB1 := Lib.hid hB'
  clear hB hB' hH1 hblk hown hnv hneb
  have HNw : Hid (nv.ownBlock ≠ some w.heap.size) := fun e => by
    have h1 := HH1.out.rnv m w.heap.size (getElem?_lt HM.out) (by rw [← HN.out]; exact e)
    have h2 := HH.out.rnv m w.heap.size (getElem?_lt HM.out) (by rw [← HN.out]; exact e)
    have h3 := h2.symm.trans h1
    exact absurd (hnew w.heap.size (by rw [h2]; simp)) (by omega)
  go_wp2_with fail
  refine wp_region_plan [(true, 0), (true, 1), (true, 2), (true, 3), (true, 4), (true, 5), (true, 6), (true, 7), (true, 8), (true, 9), (true, 10), (true, 11), (true, 12), (true, 13), (true, 14), (false, 15), (false, 16)] [17, 18, 19] (fun W => W.cell? ⟨L.sb m, 2, none⟩ = some nv ∧ W.cell? ⟨w.heap.size, 0, none⟩ = some (.int .i64 vk) ∧ W.cell? ⟨w.heap.size, 1, none⟩ = some (.int .i64 vn) ∧ W.cell? ⟨w.heap.size, 2, none⟩ = some (.string vs)) (by kernel_rfl) (by kernel_rfl) (fun _ _ d _ _ h => by cases d <;> exact h) ⟨d2, q0, q1, q2⟩ (fun hS0 => ?_)
  simp only [planOps, List.filterMap_cons, List.filterMap_nil, List.getElem?_toArray, List.getElem?_cons_zero, List.getElem?_cons_succ, Option.map_some]
  iterate 15
    first
      | (refine wpPlan_take ?_ (by rfl) (fun w' hS' => ?_) ?_; rotate_left; (obtain ⟨s0, s1, s2, s3⟩ := hS'; go_simp; first | done | with_reducible rfl); simp only [Act.put, List.setIfInBounds_toArray, List.set_cons_zero, List.set_cons_succ])
      | (refine wpPlan_skip (by rfl) ?_; simp only [Act.put, List.setIfInBounds_toArray, List.set_cons_zero, List.set_cons_succ])
  refine wpPlan_go (fun K hK => ?_)
  go_simp
  refine hK _ _ ⟨(cell_old hsb).trans d2, (cell_old hs).trans q0, (cell_old hs).trans q1, (cell_old hs).trans q2⟩ ?_
  clear hK K
  refine wpPlan_go (fun K hK => ?_)
  refine step_append_lies _ (by rfl) (.tmp 40) (.tmp 51) 118 (by rfl) 0 124 i0 _ 6 64 Tryd.underlying118 hi hz0 hz1 hz2 rfl (by decide) nv s.names.length (s.names.flatMap LBind.cells) (by rfl) ((HO.out.alloc _).drew) ⟨w1.heap.size, 0, none⟩ 1 1 (LBind.cells ⟨name, ⟨vk, vn, vs⟩, kind, false⟩) (by rfl) rfl (World.news_of_block (cs := (LBind.cells ⟨name, ⟨vk, vn, vs⟩, kind, false⟩).toArray) (t := 124) (fr := (0, 0)) (heap_alloc_new w1 _)) (by simp [LBind.cells, Value.oneCell']) (by decide) (by unfold maxLen; omega) (by omega) (by omega) (w1.heap.size + 1) (by simp) ?_
  intro gg cap w2 hown2 hgrow2 hat2 hlt2
  have far2 : ∀ b o, b < w1.heap.size → nv.ownBlock ≠ some b → w2.cell? ⟨b, o, none⟩ = w1.cell? ⟨b, o, none⟩ := fun b o hb1 hb2 => (hgrow2.cell_far ⟨b, o, none⟩ (by simp; omega) (fun e => hb2 e.symm)).trans (cell_old hb1)
  have fz2' : w2.frozen? ⟨L.sb m, 2, none⟩ = false := (hgrow2.frozen_far ⟨L.sb m, 2, none⟩ (by simp; omega) (fun e => HNe.out e.symm)).trans ((frozen_old hsb).trans fz2)
  have e2 := (far2 _ 2 hsb HNe.out).trans d2
  refine hK _ _ ⟨e2, (far2 _ 0 hs HNw.out).trans q0, (far2 _ 1 hs HNw.out).trans q1, (far2 _ 2 hs HNw.out).trans q2⟩ ?_
  clear hK K
  simp only [Act.put, List.setIfInBounds_toArray, List.set_cons_zero, List.set_cons_succ]
  have HG := Lib.hid hgrow2
  have HW := Lib.hid hown2
  have HT := Lib.hid hat2
  have HGL := Lib.hid hlt2
  clear hgrow2 hown2 hat2 hlt2 far2
  refine wpPlan_end ?_
  go_wp2
  go_ret
  refine ⟨rfl, ?_⟩
  have hfin := decl_fin (b := ⟨name, ⟨vk, vn, vs⟩, kind, false⟩) HH1.out HM.out HN.out HBk.out HG.out HW.out HT.out
  obtain ⟨ρ', L', hA, hF⟩ := hfin
  exact ⟨ρ', L', hA, (Fr.of_below hhb HB1.out).trans hF⟩

set_option maxHeartbeats 1600000 in
theorem declare_ok2 (h : HeapAt ρ w hb ho L H) (m : Nat) (s : LScope) (name : ByteArray) (kind : Int) (vk vn : Int) (vs : ByteArray) (hm : H.scopes[m]? = some s) (hso : ¬ 0 ≤ s.object) (hq' : H.has (m : Int) name = false) (hln : s.names.length < 1099511627776)
    (k1 : ((kind : Int) != 1) = true) (k2 : ((kind : Int) != 2) = false) :
    Calls Tryd.prog 18 #[.pointer (some ⟨hb, ho, none⟩), .int .i64 m, .string name, .int .i64 kind, .agg #[.int .i64 vk, .int .i64 vn, .string vs]] w fun e w' => e = .returned (errV 0) ∧
      ∃ ρ' L', HeapAt ρ' w' hb ho L' { H with scopes := H.scopes.set m { s with names := s.names ++ [⟨name, ⟨vk, vn, vs⟩, kind, false⟩] } } ∧ Fr ρ ρ' hb ho w w' := by
  have hhb := h.hbLt
  have hnew : ∀ b, ρ b ≠ none → b < w.heap.size := h.live
  have h1 := h.below ((Below.refl _ _).alloc (Nat.le_refl _) (.cells #[.int .i64 vk, .int .i64 vn, .string vs] 39))
  have hB0 : Below w.heap.size w (w.alloc (.cells #[.int .i64 vk, .int .i64 vn, .string vs] 39)) := (Below.refl _ _).alloc (Nat.le_refl _) _
  have hc1 : (w.alloc (.cells #[.int .i64 vk, .int .i64 vn, .string vs] 39)).cell? ⟨L.sb m, 1, none⟩ = some (.int .i64 s.object) := by have := (h1.scp m s hm).1; simp [World.cell?, this]
  have HC := Lib.hid (scope_yes h1 m (getElem?_lt hm))
  have HA := Lib.hid (has_any h1 (m : Int) name)
  rw [hq'] at HA
  obtain ⟨i0, hi, hz0, hz1, hz2⟩ := info_parts Tryd.infoBind
  have HH := Lib.hid h1
  have HB := Lib.hid hB0
  have HM := Lib.hid hm
  clear h h1 hB0 hm hq'
  go_enter Tryd.func18, Tryd.ntmps18
  go_wp2_with fail
  refine HC.out.mono ?_
  rintro e w1 ⟨rfl, rfl⟩
  go_wp2_with fail
  refine HA.out.mono ?_
  rintro e w1 ⟨rfl, hB⟩
  obtain ⟨q0, q1, q2, f0, f1, f2, hs, hB'⟩ := box_facts hB
  have hH1 := HH.out.below hB
  obtain ⟨hblk, hown⟩ := hH1.scp m s HM.out
  obtain ⟨nv, hnv⟩ : ∃ v, v = L.nv m := ⟨_, rfl⟩
  rw [← hnv] at hblk hown
  have hsb : L.sb m < w1.heap.size := (Array.getElem?_eq_some_iff.1 hblk).1
  have d2 : w1.cell? ⟨L.sb m, 2, none⟩ = some nv := by simp [World.cell?, hblk]
  have fz2 : w1.frozen? ⟨L.sb m, 2, none⟩ = false := by simp [World.frozen?, hblk]
  have hneb : nv.ownBlock ≠ some (L.sb m) := fun e => by
    rw [hnv] at e
    have h1 := hH1.rnv m _ (getElem?_lt HM.out) e
    rw [hH1.rsb m (getElem?_lt HM.out)] at h1
    cases h1
  have HH1 := Lib.hid hH1
  have HBk := Lib.hid hblk
  have HO := Lib.hid hown
  have HN := Lib.hid hnv
  have HNe := Lib.hid hneb
  have HB1 := Lib.hid hB'
  clear hB hB' hH1 hblk hown hnv hneb
  have HNw : Hid (nv.ownBlock ≠ some w.heap.size) := fun e => by
    have h1 := HH1.out.rnv m w.heap.size (getElem?_lt HM.out) (by rw [← HN.out]; exact e)
    have h2 := HH.out.rnv m w.heap.size (getElem?_lt HM.out) (by rw [← HN.out]; exact e)
    have h3 := h2.symm.trans h1
    exact absurd (hnew w.heap.size (by rw [h2]; simp)) (by omega)
  go_wp2_with fail
  refine wp_region_plan [(true, 0), (true, 1), (true, 2), (true, 3), (true, 4), (true, 5), (true, 6), (true, 7), (true, 8), (true, 9), (true, 10), (true, 11), (true, 12), (true, 13), (true, 14), (false, 15), (false, 16)] [17, 18, 19] (fun W => W.cell? ⟨L.sb m, 2, none⟩ = some nv ∧ W.cell? ⟨w.heap.size, 0, none⟩ = some (.int .i64 vk) ∧ W.cell? ⟨w.heap.size, 1, none⟩ = some (.int .i64 vn) ∧ W.cell? ⟨w.heap.size, 2, none⟩ = some (.string vs)) (by kernel_rfl) (by kernel_rfl) (fun _ _ d _ _ h => by cases d <;> exact h) ⟨d2, q0, q1, q2⟩ (fun hS0 => ?_)
  simp only [planOps, List.filterMap_cons, List.filterMap_nil, List.getElem?_toArray, List.getElem?_cons_zero, List.getElem?_cons_succ, Option.map_some]
  iterate 15
    first
      | (refine wpPlan_take ?_ (by rfl) (fun w' hS' => ?_) ?_; rotate_left; (obtain ⟨s0, s1, s2, s3⟩ := hS'; go_simp; first | done | with_reducible rfl); simp only [Act.put, List.setIfInBounds_toArray, List.set_cons_zero, List.set_cons_succ])
      | (refine wpPlan_skip (by rfl) ?_; simp only [Act.put, List.setIfInBounds_toArray, List.set_cons_zero, List.set_cons_succ])
  refine wpPlan_go (fun K hK => ?_)
  go_simp
  refine hK _ _ ⟨(cell_old hsb).trans d2, (cell_old hs).trans q0, (cell_old hs).trans q1, (cell_old hs).trans q2⟩ ?_
  clear hK K
  refine wpPlan_go (fun K hK => ?_)
  refine step_append_lies _ (by rfl) (.tmp 40) (.tmp 51) 118 (by rfl) 0 124 i0 _ 6 64 Tryd.underlying118 hi hz0 hz1 hz2 rfl (by decide) nv s.names.length (s.names.flatMap LBind.cells) (by rfl) ((HO.out.alloc _).drew) ⟨w1.heap.size, 0, none⟩ 1 1 (LBind.cells ⟨name, ⟨vk, vn, vs⟩, kind, false⟩) (by rfl) rfl (World.news_of_block (cs := (LBind.cells ⟨name, ⟨vk, vn, vs⟩, kind, false⟩).toArray) (t := 124) (fr := (0, 0)) (heap_alloc_new w1 _)) (by simp [LBind.cells, Value.oneCell']) (by decide) (by unfold maxLen; omega) (by omega) (by omega) (w1.heap.size + 1) (by simp) ?_
  intro gg cap w2 hown2 hgrow2 hat2 hlt2
  have far2 : ∀ b o, b < w1.heap.size → nv.ownBlock ≠ some b → w2.cell? ⟨b, o, none⟩ = w1.cell? ⟨b, o, none⟩ := fun b o hb1 hb2 => (hgrow2.cell_far ⟨b, o, none⟩ (by simp; omega) (fun e => hb2 e.symm)).trans (cell_old hb1)
  have fz2' : w2.frozen? ⟨L.sb m, 2, none⟩ = false := (hgrow2.frozen_far ⟨L.sb m, 2, none⟩ (by simp; omega) (fun e => HNe.out e.symm)).trans ((frozen_old hsb).trans fz2)
  have e2 := (far2 _ 2 hsb HNe.out).trans d2
  refine hK _ _ ⟨e2, (far2 _ 0 hs HNw.out).trans q0, (far2 _ 1 hs HNw.out).trans q1, (far2 _ 2 hs HNw.out).trans q2⟩ ?_
  clear hK K
  simp only [Act.put, List.setIfInBounds_toArray, List.set_cons_zero, List.set_cons_succ]
  have HG := Lib.hid hgrow2
  have HW := Lib.hid hown2
  have HT := Lib.hid hat2
  have HGL := Lib.hid hlt2
  clear hgrow2 hown2 hat2 hlt2 far2
  refine wpPlan_end ?_
  go_wp2
  go_ret
  refine ⟨rfl, ?_⟩
  have hfin := decl_fin (b := ⟨name, ⟨vk, vn, vs⟩, kind, false⟩) HH1.out HM.out HN.out HBk.out HG.out HW.out HT.out
  obtain ⟨ρ', L', hA, hF⟩ := hfin
  exact ⟨ρ', L', hA, (Fr.of_below hhb HB1.out).trans hF⟩

set_option maxHeartbeats 1600000 in
theorem declare_ok3 (h : HeapAt ρ w hb ho L H) (m : Nat) (s : LScope) (name : ByteArray) (kind : Int) (vk vn : Int) (vs : ByteArray) (hm : H.scopes[m]? = some s) (hso : ¬ 0 ≤ s.object) (hq' : H.has (m : Int) name = false) (hln : s.names.length < 1099511627776)
    (k1 : ((kind : Int) != 1) = true) (k2 : ((kind : Int) != 2) = true) :
    Calls Tryd.prog 18 #[.pointer (some ⟨hb, ho, none⟩), .int .i64 m, .string name, .int .i64 kind, .agg #[.int .i64 vk, .int .i64 vn, .string vs]] w fun e w' => e = .returned (errV 0) ∧
      ∃ ρ' L', HeapAt ρ' w' hb ho L' { H with scopes := H.scopes.set m { s with names := s.names ++ [⟨name, ⟨vk, vn, vs⟩, kind, true⟩] } } ∧ Fr ρ ρ' hb ho w w' := by
  have hhb := h.hbLt
  have hnew : ∀ b, ρ b ≠ none → b < w.heap.size := h.live
  have h1 := h.below ((Below.refl _ _).alloc (Nat.le_refl _) (.cells #[.int .i64 vk, .int .i64 vn, .string vs] 39))
  have hB0 : Below w.heap.size w (w.alloc (.cells #[.int .i64 vk, .int .i64 vn, .string vs] 39)) := (Below.refl _ _).alloc (Nat.le_refl _) _
  have hc1 : (w.alloc (.cells #[.int .i64 vk, .int .i64 vn, .string vs] 39)).cell? ⟨L.sb m, 1, none⟩ = some (.int .i64 s.object) := by have := (h1.scp m s hm).1; simp [World.cell?, this]
  have HC := Lib.hid (scope_yes h1 m (getElem?_lt hm))
  have HA := Lib.hid (has_any h1 (m : Int) name)
  rw [hq'] at HA
  obtain ⟨i0, hi, hz0, hz1, hz2⟩ := info_parts Tryd.infoBind
  have HH := Lib.hid h1
  have HB := Lib.hid hB0
  have HM := Lib.hid hm
  clear h h1 hB0 hm hq'
  go_enter Tryd.func18, Tryd.ntmps18
  go_wp2_with fail
  refine HC.out.mono ?_
  rintro e w1 ⟨rfl, rfl⟩
  go_wp2_with fail
  refine HA.out.mono ?_
  rintro e w1 ⟨rfl, hB⟩
  obtain ⟨q0, q1, q2, f0, f1, f2, hs, hB'⟩ := box_facts hB
  have hH1 := HH.out.below hB
  obtain ⟨hblk, hown⟩ := hH1.scp m s HM.out
  obtain ⟨nv, hnv⟩ : ∃ v, v = L.nv m := ⟨_, rfl⟩
  rw [← hnv] at hblk hown
  have hsb : L.sb m < w1.heap.size := (Array.getElem?_eq_some_iff.1 hblk).1
  have d2 : w1.cell? ⟨L.sb m, 2, none⟩ = some nv := by simp [World.cell?, hblk]
  have fz2 : w1.frozen? ⟨L.sb m, 2, none⟩ = false := by simp [World.frozen?, hblk]
  have hneb : nv.ownBlock ≠ some (L.sb m) := fun e => by
    rw [hnv] at e
    have h1 := hH1.rnv m _ (getElem?_lt HM.out) e
    rw [hH1.rsb m (getElem?_lt HM.out)] at h1
    cases h1
  have HH1 := Lib.hid hH1
  have HBk := Lib.hid hblk
  have HO := Lib.hid hown
  have HN := Lib.hid hnv
  have HNe := Lib.hid hneb
  have HB1 := Lib.hid hB'
  clear hB hB' hH1 hblk hown hnv hneb
  have HNw : Hid (nv.ownBlock ≠ some w.heap.size) := fun e => by
    have h1 := HH1.out.rnv m w.heap.size (getElem?_lt HM.out) (by rw [← HN.out]; exact e)
    have h2 := HH.out.rnv m w.heap.size (getElem?_lt HM.out) (by rw [← HN.out]; exact e)
    have h3 := h2.symm.trans h1
    exact absurd (hnew w.heap.size (by rw [h2]; simp)) (by omega)
  go_wp2_with fail
  refine wp_region_plan [(true, 0), (true, 1), (true, 2), (true, 3), (true, 4), (true, 5), (true, 6), (true, 7), (true, 8), (true, 9), (true, 10), (true, 11), (true, 12), (true, 13), (true, 14), (false, 15), (false, 16)] [17, 18, 19] (fun W => W.cell? ⟨L.sb m, 2, none⟩ = some nv ∧ W.cell? ⟨w.heap.size, 0, none⟩ = some (.int .i64 vk) ∧ W.cell? ⟨w.heap.size, 1, none⟩ = some (.int .i64 vn) ∧ W.cell? ⟨w.heap.size, 2, none⟩ = some (.string vs)) (by kernel_rfl) (by kernel_rfl) (fun _ _ d _ _ h => by cases d <;> exact h) ⟨d2, q0, q1, q2⟩ (fun hS0 => ?_)
  simp only [planOps, List.filterMap_cons, List.filterMap_nil, List.getElem?_toArray, List.getElem?_cons_zero, List.getElem?_cons_succ, Option.map_some]
  iterate 15
    first
      | (refine wpPlan_take ?_ (by rfl) (fun w' hS' => ?_) ?_; rotate_left; (obtain ⟨s0, s1, s2, s3⟩ := hS'; go_simp; first | done | with_reducible rfl); simp only [Act.put, List.setIfInBounds_toArray, List.set_cons_zero, List.set_cons_succ])
      | (refine wpPlan_skip (by rfl) ?_; simp only [Act.put, List.setIfInBounds_toArray, List.set_cons_zero, List.set_cons_succ])
  refine wpPlan_go (fun K hK => ?_)
  go_simp
  refine hK _ _ ⟨(cell_old hsb).trans d2, (cell_old hs).trans q0, (cell_old hs).trans q1, (cell_old hs).trans q2⟩ ?_
  clear hK K
  refine wpPlan_go (fun K hK => ?_)
  refine step_append_lies _ (by rfl) (.tmp 40) (.tmp 51) 118 (by rfl) 0 124 i0 _ 6 64 Tryd.underlying118 hi hz0 hz1 hz2 rfl (by decide) nv s.names.length (s.names.flatMap LBind.cells) (by rfl) ((HO.out.alloc _).drew) ⟨w1.heap.size, 0, none⟩ 1 1 (LBind.cells ⟨name, ⟨vk, vn, vs⟩, kind, true⟩) (by rfl) rfl (World.news_of_block (cs := (LBind.cells ⟨name, ⟨vk, vn, vs⟩, kind, true⟩).toArray) (t := 124) (fr := (0, 0)) (heap_alloc_new w1 _)) (by simp [LBind.cells, Value.oneCell']) (by decide) (by unfold maxLen; omega) (by omega) (by omega) (w1.heap.size + 1) (by simp) ?_
  intro gg cap w2 hown2 hgrow2 hat2 hlt2
  have far2 : ∀ b o, b < w1.heap.size → nv.ownBlock ≠ some b → w2.cell? ⟨b, o, none⟩ = w1.cell? ⟨b, o, none⟩ := fun b o hb1 hb2 => (hgrow2.cell_far ⟨b, o, none⟩ (by simp; omega) (fun e => hb2 e.symm)).trans (cell_old hb1)
  have fz2' : w2.frozen? ⟨L.sb m, 2, none⟩ = false := (hgrow2.frozen_far ⟨L.sb m, 2, none⟩ (by simp; omega) (fun e => HNe.out e.symm)).trans ((frozen_old hsb).trans fz2)
  have e2 := (far2 _ 2 hsb HNe.out).trans d2
  refine hK _ _ ⟨e2, (far2 _ 0 hs HNw.out).trans q0, (far2 _ 1 hs HNw.out).trans q1, (far2 _ 2 hs HNw.out).trans q2⟩ ?_
  clear hK K
  simp only [Act.put, List.setIfInBounds_toArray, List.set_cons_zero, List.set_cons_succ]
  have HG := Lib.hid hgrow2
  have HW := Lib.hid hown2
  have HT := Lib.hid hat2
  have HGL := Lib.hid hlt2
  clear hgrow2 hown2 hat2 hlt2 far2
  refine wpPlan_end ?_
  go_wp2
  go_ret
  refine ⟨rfl, ?_⟩
  have hfin := decl_fin (b := ⟨name, ⟨vk, vn, vs⟩, kind, true⟩) HH1.out HM.out HN.out HBk.out HG.out HW.out HT.out
  obtain ⟨ρ', L', hA, hF⟩ := hfin
  exact ⟨ρ', L', hA, (Fr.of_below hhb HB1.out).trans hF⟩

set_option maxHeartbeats 1600000 in
theorem declare_any (h : HeapAt ρ w hb ho L H) (n : Int) (name : ByteArray) (kind : Int) (v : LVal) (hlen : ∀ (m : Nat) (s : LScope), H.scopes[m]? = some s → s.names.length < 1099511627776) :
    Calls Tryd.prog 18 #[.pointer (some ⟨hb, ho, none⟩), .int .i64 n, .string name, .int .i64 kind, v.agg] w fun e w' => e = .returned (errV (H.declare n name kind v).2) ∧
      ∃ ρ' L', HeapAt ρ' w' hb ho L' (H.declare n name kind v).1 ∧ Fr ρ ρ' hb ho w w' := by
  have hhb := h.hbLt
  have hnew : ∀ b, ρ b ≠ none → b < w.heap.size := h.live
  obtain ⟨vk, vn, vs⟩ := v
  simp only [LVal.agg]
  have h1 := h.below ((Below.refl _ _).alloc (Nat.le_refl _) (.cells #[.int .i64 vk, .int .i64 vn, .string vs] 39))
  have hB0 : Below w.heap.size w (w.alloc (.cells #[.int .i64 vk, .int .i64 vn, .string vs] 39)) := (Below.refl _ _).alloc (Nat.le_refl _) _
  rcases hob : H.scope? n with _ | s
  · have HC := Lib.hid (scope_no h1 n hob)
    have hd : H.declare n name kind ⟨vk, vn, vs⟩ = (H, 7) := by simp [LHeap.declare, hob]
    rw [hd]
    have HH := Lib.hid h1
    have HB := Lib.hid hB0
    clear h h1 hob hlen hd hB0
    go_enter Tryd.func18, Tryd.ntmps18
    go_wp2_with fail
    refine HC.out.mono ?_
    rintro e w1 ⟨rfl, rfl⟩
    go_wp2
    go_ret
    exact ⟨rfl, ρ, L, HH.out, Fr.of_below hhb HB.out⟩
  · obtain ⟨m, rfl, hm⟩ := LHeap.scope?_some hob
    have hc1 : (w.alloc (.cells #[.int .i64 vk, .int .i64 vn, .string vs] 39)).cell? ⟨L.sb m, 1, none⟩ = some (.int .i64 s.object) := by have := (h1.scp m s hm).1; simp [World.cell?, this]
    have HC := Lib.hid (scope_yes h1 m (getElem?_lt hm))
    by_cases hso : 0 ≤ s.object
    · have hd : H.declare m name kind ⟨vk, vn, vs⟩ = (H, 1) := by simp [LHeap.declare, hob, hso]
      rw [hd]
      have HH := Lib.hid h1
      have HB := Lib.hid hB0
      clear h h1 hob hlen hd hB0 hm
      go_enter Tryd.func18, Tryd.ntmps18
      go_wp2_with fail
      refine HC.out.mono ?_
      rintro e w1 ⟨rfl, rfl⟩
      go_wp2
      go_ret
      exact ⟨rfl, ρ, L, HH.out, Fr.of_below hhb HB.out⟩
    · have HA := Lib.hid (has_any h1 (m : Int) name)
      by_cases hq : H.has (m : Int) name = true
      · have hd : H.declare m name kind ⟨vk, vn, vs⟩ = (H, 9) := by simp [LHeap.declare, hob, hso, hq]
        rw [hd]
        rw [hq] at HA
        have HH := Lib.hid h1
        have HB := Lib.hid hB0
        clear h h1 hob hlen hd hB0 hm hq
        go_enter Tryd.func18, Tryd.ntmps18
        go_wp2_with fail
        refine HC.out.mono ?_
        rintro e w1 ⟨rfl, rfl⟩
        go_wp2_with fail
        refine HA.out.mono ?_
        rintro e w1 ⟨rfl, hB⟩
        have HB1 := Lib.hid hB
        clear hB
        go_wp2
        go_ret
        exact ⟨rfl, ρ, L, HH.out.below HB1.out, Fr.of_below hhb (HB.out.trans (HB1.out.mono HB.out.size))⟩
      · have hq' : H.has (m : Int) name = false := by simpa using hq
        have hd : H.declare m name kind ⟨vk, vn, vs⟩ = ({ H with scopes := H.scopes.set m { s with names := s.names ++ [⟨name, ⟨vk, vn, vs⟩, kind, !decide (kind = 1) && !decide (kind = 2)⟩] } }, 0) := by simp [LHeap.declare, hob, hso, hq']
        rw [hd]
        have hln := hlen m s hm
        by_cases k1 : kind = 1
        · have e : (!decide (kind = 1) && !decide (kind = 2)) = false := by simp [k1]
          rw [e]
          exact declare_ok1 h m s name kind vk vn vs hm hso hq' hln (by simp [k1])
        · by_cases k2 : kind = 2
          · have e : (!decide (kind = 1) && !decide (kind = 2)) = false := by simp [k2]
            rw [e]
            exact declare_ok2 h m s name kind vk vn vs hm hso hq' hln (by simp [k1]) (by simp [k2])
          · have e : (!decide (kind = 1) && !decide (kind = 2)) = true := by simp [k1, k2]
            rw [e]
            exact declare_ok3 h m s name kind vk vn vs hm hso hq' hln (by simp [k1]) (by simp [k2])
end
end Go.Proofs.YtgoaljfhciimhaaDoor
