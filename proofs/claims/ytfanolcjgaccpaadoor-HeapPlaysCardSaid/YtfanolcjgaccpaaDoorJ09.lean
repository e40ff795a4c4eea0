/- Walks of package heap that change it: Put. -/
import Derived.Test.YtfanolcjgaccpaaDoorJ08
namespace Go.Proofs.YtfanolcjgaccpaaDoor
open Go Go.RowKit
set_option maxRecDepth 100000

def LHeap.put (H : LHeap) (n : Int) (name : ByteArray) (v : LVal) (fixed : Bool) : LHeap × Int :=
  match H.object? n with
  | none => (H, 7)
  | some o =>
    match o.idx name with
    | some k => ({ H with objects := H.objects.set n.toNat { o with props := o.props.modify k fun p => { p with v := v } } }, 0)
    | none => ({ H with objects := H.objects.set n.toNat { o with props := o.props ++ [⟨name, v, fixed⟩] } }, 0)

theorem Tryd.infoProp : (Tryd.prog.info? 87).map (fun i => (i.zero, i.size, i.bytes)) = some (some (.agg #[.string ⟨#[]⟩, .int .i64 0, .int .i64 0, .string ⟨#[]⟩, .bool false]), 5, 56) := by kernel_rfl

/-- a store of three cells into a row of structs -/
theorem row_store3 {w : World} {base : Nat} {e : TypeId} {m : Nat} {g cap n : Nat} {α : Type} {f : α → List Value} {l : List α} (hf : ∀ a, (f a).length = m)
    (h : w.ownsRow base e m (.slice (some ⟨g, 0, none⟩) n cap) n (l.flatMap f)) {k : Nat} {a a' : α} (hk : l[k]? = some a) {j : Nat} (hj : j + 2 < m) {x y z : Value}
    (ha : f a' = (((f a).set j x).set (j + 1) y).set (j + 2) z) :
    (((w.setCell ⟨g, k * m + j, none⟩ x).setCell ⟨g, k * m + j + 1, none⟩ y).setCell ⟨g, k * m + j + 2, none⟩ z).ownsRow base e m (.slice (some ⟨g, 0, none⟩) n cap) n ((l.set k a').flatMap f) := by
  have h3 := ((((h.stored (k * m + j) x).1.stored (k * m + j + 1) y).1).stored (k * m + j + 2) z).1
  have hkl := getElem?_lt hk
  have : (l.set k a').flatMap f = (((l.flatMap f).set (k * m + j) x).set (k * m + j + 1) y).set (k * m + j + 2) z := by
    clear h h3
    induction l generalizing k with
    | nil => simp at hkl
    | cons b l ih =>
      cases k with
      | zero =>
        simp only [List.getElem?_cons_zero, Option.some.injEq] at hk
        subst hk
        simp only [List.set_cons_zero, List.flatMap_cons, Nat.zero_mul, Nat.zero_add]
        rw [List.set_append_left _ _ (by rw [hf]; omega), List.set_append_left _ _ (by simp only [List.length_set]; rw [hf]; omega), List.set_append_left _ _ (by simp only [List.length_set]; rw [hf]; omega), ha]
      | succ k =>
        simp only [List.getElem?_cons_succ] at hk
        simp only [List.set_cons_succ, List.flatMap_cons]
        have e : (k + 1) * m + j = (f b).length + (k * m + j) := by rw [hf, Nat.succ_mul]; omega
        rw [e, List.set_append_right _ _ (by omega), Nat.add_sub_cancel_left, List.set_append_right _ _ (by omega), List.set_append_right _ _ (by omega)]
        rw [show (f b).length + (k * m + j) + 1 - (f b).length = k * m + j + 1 by omega, show (f b).length + (k * m + j) + 2 - (f b).length = k * m + j + 2 by omega]
        rw [ih hk (by simpa using hkl)]
  rw [this]
  exact h3

theorem modify_set {α : Type} {l : List α} {k : Nat} {a : α} (f : α → α) (h : l[k]? = some a) : l.modify k f = l.set k (f a) := by
  induction l generalizing k with
  | nil => simp at h
  | cons b l ih =>
    cases k with
    | zero => simp only [List.getElem?_cons_zero, Option.some.injEq] at h; subst h; rfl
    | succ k => simp only [List.getElem?_cons_succ] at h; simp [List.modify_succ_cons, ih h]

section
variable {ρ : Nat → Option Role} {w : World} {hb ho : Nat} {L : HL} {H : LHeap}

/-- the heap behind a store into a property -/
theorem put_fin {w1 : World} {m k g c : Nat} {o : LObj} {p : LProp} {vk vn : Int} {vs : ByteArray} (h : HeapAt ρ w1 hb ho L H) (hm : H.objects[m]? = some o) (hp : o.props[k]? = some p)
    (hv : L.pv m = .slice (some ⟨g, 0, none⟩) o.props.length c) :
    ∃ ρ' L', HeapAt ρ' (((w1.setCell ⟨g, k * 5 + 1, none⟩ (.int .i64 vk)).setCell ⟨g, k * 5 + 1 + 1, none⟩ (.int .i64 vn)).setCell ⟨g, k * 5 + 1 + 2, none⟩ (.string vs)) hb ho L' { H with objects := H.objects.set m { o with props := o.props.set k { p with v := ⟨vk, vn, vs⟩ } } } ∧
      Fr ρ ρ' hb ho w1 (((w1.setCell ⟨g, k * 5 + 1, none⟩ (.int .i64 vk)).setCell ⟨g, k * 5 + 1 + 1, none⟩ (.int .i64 vn)).setCell ⟨g, k * 5 + 1 + 2, none⟩ (.string vs)) := by
  have hml := getElem?_lt hm
  obtain ⟨hblk, hown⟩ := h.obj m o hm
  have hgo : g ≠ L.ob m := fun e => by
    have h1 := h.rpv m g hml (by rw [hv]; rfl)
    rw [e, h.rob m hml] at h1
    cases h1
  rw [hv] at hown
  have hst := row_store3 (f := LProp.cells) (m := 5) (fun _ => rfl) hown hp (j := 1) (by omega) (x := .int .i64 vk) (y := .int .i64 vn) (z := .string vs) (a' := { p with v := ⟨vk, vn, vs⟩ }) rfl
  have far : ∀ b, b ≠ g → (((w1.setCell ⟨g, k * 5 + 1, none⟩ (.int .i64 vk)).setCell ⟨g, k * 5 + 1 + 1, none⟩ (.int .i64 vn)).setCell ⟨g, k * 5 + 1 + 2, none⟩ (.string vs)).heap[b]? = w1.heap[b]? := fun b hb => by
    rw [Below.heap_setCell _ _ _ _ hb, Below.heap_setCell _ _ _ _ hb, Below.heap_setCell _ _ _ _ hb]
  refine h.setProps hm (nv' := .slice (some ⟨g, 0, none⟩) o.props.length c) (props' := o.props.set k { p with v := ⟨vk, vn, vs⟩ }) ?_ ?_ (by simp) ?_ ?_ rfl rfl rfl
  · rw [far _ (Ne.symm hgo), ← hv]; exact hblk
  · simp only [List.length_set]; exact hst
  · intro b _ _ h3
    rw [hv] at h3
    exact far b (fun e => h3 (by rw [e]; rfl))
  · intro g' hg'
    rw [hv]
    exact .inl hg'

/-- the heap behind a new property -/
theorem put_new {w1 w2 : World} {m gg cap : Nat} {o : LObj} {nv : Value} {b : LProp} {T : TypeId} (h : HeapAt ρ w1 hb ho L H) (hm : H.objects[m]? = some o) (hnv : nv = L.pv m)
    (hblk : w1.heap[L.ob m]? = some (.cells #[nv, .int .i64 o.code] 74 (0, 0)))
    (hg : ((w1.alloc (.cells b.cells.toArray T)).drew).grownBy w2 nv.ownBlock)
    (hown : w2.ownsRow 0 87 5 (.slice (some ⟨gg, 0, none⟩) (o.props.length + 1) cap) (o.props.length + 1) (o.props.flatMap LProp.cells ++ b.cells))
    (hat : nv.ownBlock = some gg ∨ gg = w1.heap.size + 1) :
    ∃ ρ' L', HeapAt ρ' (w2.setCell ⟨L.ob m, 0, none⟩ (.slice (some ⟨gg, 0, none⟩) (o.props.length + 1) cap)) hb ho L' { H with objects := H.objects.set m { o with props := o.props ++ [b] } } ∧
      Fr ρ ρ' hb ho w1 (w2.setCell ⟨L.ob m, 0, none⟩ (.slice (some ⟨gg, 0, none⟩) (o.props.length + 1) cap)) := by
  have hml := getElem?_lt hm
  have hA : Below w1.heap.size w1 ((w1.alloc (.cells b.cells.toArray T)).drew) := ((Below.refl _ _).alloc (Nat.le_refl _) _).drew
  have hsb : L.ob m < w1.heap.size := (Array.getElem?_eq_some_iff.1 hblk).1
  have hne : nv.ownBlock ≠ some (L.ob m) := fun e => by
    rw [hnv] at e
    have h1 := h.rpv m _ hml e
    rw [h.rob m hml] at h1
    cases h1
  have hgb : gg ≠ L.ob m := by
    rcases hat with h' | h'
    · rintro rfl; exact hne h'
    · omega
  have d2 : w1.cell? ⟨L.ob m, 0, none⟩ = some nv := by simp [World.cell?, hblk]
  obtain ⟨k1, k2, k3, k4, k5, k6, k7, k8, k9, k10⟩ := push_field (.slice (some ⟨gg, 0, none⟩) (o.props.length + 1) cap) hA hg hsb hne d2
  have hblk2 : w2.heap[L.ob m]? = some (.cells #[nv, .int .i64 o.code] 74 (0, 0)) :=
    (hg.block _ (Nat.lt_of_lt_of_le hsb hA.size) (fun e => hne e.symm)).trans ((hA.block _ hsb).trans hblk)
  refine h.setProps hm (nv' := .slice (some ⟨gg, 0, none⟩) (o.props.length + 1) cap) (props' := o.props ++ [b]) ?_ ?_ k7 ?_ ?_ k8 k9 k10
  · exact setCell_block _ hblk2
  · have := ownsRow_block hown fun g' hg' => k5 g' (by simp only [Value.ownBlock, Option.some.injEq] at hg'; omega)
    simpa using this
  · intro b' h1 h2 h3
    rw [← hnv] at h3
    exact k4 b' h1 h2 h3
  · intro g' hg'
    simp only [Value.ownBlock, Option.some.injEq] at hg'
    subst hg'
    rw [← hnv]
    rcases hat with h' | h'
    · exact .inl h'
    · exact .inr (by omega)

set_option maxHeartbeats 1600000 in
theorem put_any (h : HeapAt ρ w hb ho L H) (n : Int) (name : ByteArray) (v : LVal) (fixed : Bool) (hlen : ∀ (m : Nat) (o : LObj), H.objects[m]? = some o → o.props.length < 1099511627776) :
    Calls Tryd.prog 8 #[.pointer (some ⟨hb, ho, none⟩), .int .i64 n, .string name, v.agg, .bool fixed] w fun e w' => e = .returned (errV (H.put n name v fixed).2) ∧
      ∃ ρ' L', HeapAt ρ' w' hb ho L' (H.put n name v fixed).1 ∧ Fr ρ ρ' hb ho w w' := by
  have hhb := h.hbLt
  have hnew : ∀ b, ρ b ≠ none → b < w.heap.size := h.live
  obtain ⟨vk, vn, vs⟩ := v
  simp only [LVal.agg]
  have h1 := h.below ((Below.refl _ _).alloc (Nat.le_refl _) (.cells #[.int .i64 vk, .int .i64 vn, .string vs] 36))
  have hB0 : Below w.heap.size w (w.alloc (.cells #[.int .i64 vk, .int .i64 vn, .string vs] 36)) := (Below.refl _ _).alloc (Nat.le_refl _) _
  rcases hob : H.object? n with _ | o
  · have HC := Lib.hid (object_no h1 n hob)
    have hd : H.put n name ⟨vk, vn, vs⟩ fixed = (H, 7) := by simp [LHeap.put, hob]
    rw [hd]
    have HH := Lib.hid h1
    have HB := Lib.hid hB0
    clear h h1 hob hlen hd hB0
    go_enter Tryd.func8, Tryd.ntmps8
    go_wp2_with fail
    refine HC.out.mono ?_
    rintro e w1 ⟨rfl, rfl⟩
    go_wp2
    go_ret
    exact ⟨rfl, ρ, L, HH.out, Fr.of_below hhb HB.out⟩
  · obtain ⟨m, rfl, hm⟩ := LHeap.object?_some hob
    have hml := getElem?_lt hm
    have HC := Lib.hid (object_yes h1 m hml)
    have HF := Lib.hid (find_any h1 m o hm name)
    have hln := hlen m o hm
    rcases hk : o.idx name with _ | k
    · have hd : H.put m name ⟨vk, vn, vs⟩ fixed = ({ H with objects := H.objects.set m { o with props := o.props ++ [⟨name, ⟨vk, vn, vs⟩, fixed⟩] } }, 0) := by simp [LHeap.put, hob, hk]
      rw [hd]
      rw [hk] at HF
      obtain ⟨i0, hi, hz0, hz1, hz2⟩ := info_parts Tryd.infoProp
      have HH := Lib.hid h1
      have HM := Lib.hid hm
      clear h h1 hob hlen hd hB0 hm hk
      go_enter Tryd.func8, Tryd.ntmps8
      go_wp2_with fail
      refine HC.out.mono ?_
      rintro e w1 ⟨rfl, rfl⟩
      go_wp2_with fail
      refine HF.out.mono ?_
      rintro e w1 ⟨rfl, hB⟩
      simp only [optI]
      obtain ⟨q0, q1, q2, f0, f1, f2, hs, hB'⟩ := box_facts hB
      have hH1 := HH.out.below hB
      obtain ⟨hblk, hown⟩ := hH1.obj m o HM.out
      obtain ⟨nv, hnv⟩ : ∃ v, v = L.pv m := ⟨_, rfl⟩
      rw [← hnv] at hblk hown
      have hsb : L.ob m < w1.heap.size := (Array.getElem?_eq_some_iff.1 hblk).1
      have d2 : w1.cell? ⟨L.ob m, 0, none⟩ = some nv := by simp [World.cell?, hblk]
      have fz2 : w1.frozen? ⟨L.ob m, 0, none⟩ = false := by simp [World.frozen?, hblk]
      have hneb : nv.ownBlock ≠ some (L.ob m) := fun e => by
        rw [hnv] at e
        have h1 := hH1.rpv m _ hml e
        rw [hH1.rob m hml] at h1
        cases h1
      have HNw : Hid (nv.ownBlock ≠ some w.heap.size) := fun e => by
        have h2 := HH.out.rpv m w.heap.size hml (by rw [← hnv]; exact e)
        exact absurd (hnew w.heap.size (by rw [h2]; simp)) (by omega)
      have HH1 := Lib.hid hH1
      have HBk := Lib.hid hblk
      have HO := Lib.hid hown
      have HN := Lib.hid hnv
      have HNe := Lib.hid hneb
      have HB1 := Lib.hid hB'
      clear hB hB' hH1 hblk hown hnv hneb
      go_wp2_with fail
      refine wp_region_plan [(true, 0), (true, 1), (true, 2), (true, 3), (true, 4), (true, 5), (true, 6), (true, 7), (true, 8), (false, 9), (false, 10)] [11, 12, 13] (fun W => W.cell? ⟨L.ob m, 0, none⟩ = some nv ∧ W.cell? ⟨w.heap.size, 0, none⟩ = some (.int .i64 vk) ∧ W.cell? ⟨w.heap.size, 1, none⟩ = some (.int .i64 vn) ∧ W.cell? ⟨w.heap.size, 2, none⟩ = some (.string vs)) (by kernel_rfl) (by kernel_rfl) (fun _ _ d _ _ h => by cases d <;> exact h) ⟨d2, q0, q1, q2⟩ (fun hS0 => ?_)
      simp only [planOps, List.filterMap_cons, List.filterMap_nil, List.getElem?_toArray, List.getElem?_cons_zero, List.getElem?_cons_succ, Option.map_some]
      iterate 9
        first
          | (refine wpPlan_take ?_ (by rfl) (fun w' hS' => ?_) ?_; rotate_left; (obtain ⟨s0, s1, s2, s3⟩ := hS'; go_simp; first | done | with_reducible rfl); simp only [Act.put, List.setIfInBounds_toArray, List.set_cons_zero, List.set_cons_succ])
          | (refine wpPlan_skip (by rfl) ?_; simp only [Act.put, List.setIfInBounds_toArray, List.set_cons_zero, List.set_cons_succ])
      refine wpPlan_go (fun K hK => ?_)
      go_simp
      refine hK _ _ ⟨(cell_old hsb).trans d2, (cell_old hs).trans q0, (cell_old hs).trans q1, (cell_old hs).trans q2⟩ ?_
      clear hK K
      refine wpPlan_go (fun K hK => ?_)
      refine step_append_lies _ (by rfl) (.tmp 40) (.tmp 45) 72 (by rfl) 0 87 i0 _ 5 56 Tryd.underlying72 hi hz0 hz1 hz2 rfl (by decide) nv o.props.length (o.props.flatMap LProp.cells) (by rfl) ((HO.out.alloc _).drew) ⟨w1.heap.size, 0, none⟩ 1 1 (LProp.cells ⟨name, ⟨vk, vn, vs⟩, fixed⟩) (by rfl) rfl (World.news_of_block (cs := (LProp.cells ⟨name, ⟨vk, vn, vs⟩, fixed⟩).toArray) (t := 87) (fr := (0, 0)) (heap_alloc_new w1 _)) (by simp [LProp.cells, Value.oneCell']) (by decide) (by unfold maxLen; omega) (by omega) (by omega) (w1.heap.size + 1) (by simp) ?_
      intro gg cap w2 hown2 hgrow2 hat2 hlt2
      have far2 : ∀ b o, b < w1.heap.size → nv.ownBlock ≠ some b → w2.cell? ⟨b, o, none⟩ = w1.cell? ⟨b, o, none⟩ := fun b o hb1 hb2 => (hgrow2.cell_far ⟨b, o, none⟩ (by simp; omega) (fun e => hb2 e.symm)).trans (cell_old hb1)
      have fz2' : w2.frozen? ⟨L.ob m, 0, none⟩ = false := (hgrow2.frozen_far ⟨L.ob m, 0, none⟩ (by simp; omega) (fun e => HNe.out e.symm)).trans ((frozen_old hsb).trans fz2)
      have e2 := (far2 _ 0 hsb HNe.out).trans d2
      refine hK _ _ ⟨e2, (far2 _ 0 hs HNw.out).trans q0, (far2 _ 1 hs HNw.out).trans q1, (far2 _ 2 hs HNw.out).trans q2⟩ ?_
      clear hK K
      simp only [Act.put, List.setIfInBounds_toArray, List.set_cons_zero, List.set_cons_succ]
      have HG := Lib.hid hgrow2
      have HW := Lib.hid hown2
      have HT := Lib.hid hat2
      clear hgrow2 hown2 hat2 hlt2 far2
      refine wpPlan_end ?_
      go_wp2
      go_ret
      refine ⟨rfl, ?_⟩
      obtain ⟨ρ', L', hA, hF⟩ := put_new (b := ⟨name, ⟨vk, vn, vs⟩, fixed⟩) HH1.out HM.out HN.out HBk.out HG.out HW.out HT.out
      exact ⟨ρ', L', hA, (Fr.of_below hhb HB1.out).trans hF⟩
    · obtain ⟨p, hp, _⟩ := LObj.idx_some hk
      have hkl := getElem?_lt hp
      have hd : H.put m name ⟨vk, vn, vs⟩ fixed = ({ H with objects := H.objects.set m { o with props := o.props.set k { p with v := ⟨vk, vn, vs⟩ } } }, 0) := by
        simp only [LHeap.put, hob, hk, Int.toNat_natCast]
        rw [modify_set _ hp]
      rw [hd]
      rw [hk] at HF
      obtain ⟨hblk0, hown0⟩ := h1.obj m o hm
      rcases ownsRow_cases hown0 with ⟨hv, hz⟩ | ⟨g, c, hv, h2, h3, hgl⟩
      · omega
      unfold maxLen at h3
      have HH := Lib.hid h1
      have HM := Lib.hid hm
      have HP := Lib.hid hp
      have HV := Lib.hid hv
      clear h h1 hob hlen hd hB0 hm hk hblk0 hown0 hp hv
      go_enter Tryd.func8, Tryd.ntmps8
      go_wp2_with fail
      refine HC.out.mono ?_
      rintro e w1 ⟨rfl, rfl⟩
      go_wp2_with fail
      refine HF.out.mono ?_
      rintro e w1 ⟨rfl, hB⟩
      simp only [optI]
      obtain ⟨q0, q1, q2, f0, f1, f2, hs, hB'⟩ := box_facts hB
      have hH1 := HH.out.below hB
      obtain ⟨hblk, hown⟩ := hH1.obj m o HM.out
      have d2 : w1.cell? ⟨L.ob m, 0, none⟩ = some (.slice (some ⟨g, 0, none⟩) o.props.length c) := by rw [← HV.out]; simp [World.cell?, hblk]
      have hrow := fun j x => row_cell (f := LProp.cells) (m := 5) (fun _ => rfl) hown (g := g) (by rw [HV.out]; rfl) (i := k) (j := j) (x := x) HP.out
      have r1 := hrow 1 _ rfl
      have r2 := hrow 2 _ rfl
      have r3 := hrow 3 _ rfl
      have z1 := ownsRow_frozen hown (g := g) (by rw [HV.out]; rfl) (k * 5 + 1)
      have z2 := ownsRow_frozen hown (g := g) (by rw [HV.out]; rfl) (k * 5 + 1 + 1)
      have z3 := ownsRow_frozen hown (g := g) (by rw [HV.out]; rfl) (k * 5 + 1 + 2)
      have HH1 := Lib.hid hH1
      have HB1 := Lib.hid hB'
      clear hB hB' hH1 hblk hown hrow
      go_wp2_with fail
      refine wp_region_plan [(true, 0), (true, 1), (true, 2), (true, 3), (true, 4), (true, 5)] [6, 7, 8] (fun W => W.cell? ⟨L.ob m, 0, none⟩ = some (.slice (some ⟨g, 0, none⟩) o.props.length c) ∧ W.cell? ⟨w.heap.size, 0, none⟩ = some (.int .i64 vk) ∧ W.cell? ⟨w.heap.size, 1, none⟩ = some (.int .i64 vn) ∧ W.cell? ⟨w.heap.size, 2, none⟩ = some (.string vs)) (by kernel_rfl) (by kernel_rfl) (fun _ _ d _ _ h => by cases d <;> exact h) ⟨d2, q0, q1, q2⟩ (fun hS0 => ?_)
      simp only [planOps, List.filterMap_cons, List.filterMap_nil, List.getElem?_toArray, List.getElem?_cons_zero, List.getElem?_cons_succ, Option.map_some]
      iterate 6
        first
          | (refine wpPlan_take ?_ (by rfl) (fun w' hS' => ?_) ?_; rotate_left; (obtain ⟨s0, s1, s2, s3⟩ := hS'; go_simp; first | done | with_reducible rfl); simp only [Act.put, List.setIfInBounds_toArray, List.set_cons_zero, List.set_cons_succ])
          | (refine wpPlan_skip (by rfl) ?_; simp only [Act.put, List.setIfInBounds_toArray, List.set_cons_zero, List.set_cons_succ])
      refine wpPlan_end ?_
      go_wp2
      go_ret
      refine ⟨rfl, ?_⟩
      obtain ⟨ρ', L', hA, hF⟩ := put_fin (vk := vk) (vn := vn) (vs := vs) HH1.out HM.out HP.out HV.out
      refine ⟨ρ', L', ?_, ?_⟩
      · exact hA.drew
      · exact ((Fr.of_below hhb HB1.out).trans hF).drew
end
end Go.Proofs.YtfanolcjgaccpaaDoor
