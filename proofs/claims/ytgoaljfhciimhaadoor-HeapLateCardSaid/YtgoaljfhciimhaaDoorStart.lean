/- Walks of package heap that change it: Start. -/
import Derived.Test.YtgoaljfhciimhaaDoorHeapW
namespace Go.Proofs.YtgoaljfhciimhaaDoor
open Go Go.RowKit
set_option maxRecDepth 100000

theorem set_flatMap {α : Type} {f : α → List Value} {m : Nat} (hf : ∀ a, (f a).length = m) {l : List α} {k : Nat} {a a' : α} (hk : l[k]? = some a) {j : Nat} (hj : j < m) {x : Value} (ha : f a' = (f a).set j x) :
    (l.flatMap f).set (k * m + j) x = (l.set k a').flatMap f := by
  induction l generalizing k with
  | nil => simp at hk
  | cons b l ih =>
    cases k with
    | zero =>
      simp only [List.getElem?_cons_zero, Option.some.injEq] at hk
      subst hk
      simp only [List.set_cons_zero, List.flatMap_cons, Nat.zero_mul, Nat.zero_add]
      rw [List.set_append_left _ _ (by rw [hf]; omega), ha]
    | succ k =>
      simp only [List.getElem?_cons_succ] at hk
      simp only [List.set_cons_succ, List.flatMap_cons]
      have e : (k + 1) * m + j = (f b).length + (k * m + j) := by rw [hf, Nat.succ_mul]; omega
      rw [e, List.set_append_right _ _ (by omega), Nat.add_sub_cancel_left, ih hk]

def LHeap.start (H : LHeap) (n : Int) (name : ByteArray) (v : LVal) : LHeap × Int :=
  match H.scope? n with
  | none => (H, 7)
  | some s =>
    if 0 ≤ s.object then (H, 7)
    else
      match s.idx name with
      | none => (H, 7)
      | some k =>
        match s.names[k]? with
        | none => (H, 7)
        | some b => (H.setNames n.toNat s (s.names.set k { b with v := v, ready := true }), 0)

section
variable {ρ : Nat → Option Role} {w : World} {hb ho : Nat} {L : HL} {H : LHeap}

theorem start_fin {w1 : World} {m k g c : Nat} {s : LScope} {b : LBind} {vk vn : Int} {vs : ByteArray} (h : HeapAt ρ w1 hb ho L H) (hm : H.scopes[m]? = some s) (hp : s.names[k]? = some b)
    (hv : L.nv m = .slice (some ⟨g, 0, none⟩) s.names.length c) :
    ∃ ρ' L', HeapAt ρ' ((((w1.setCell ⟨g, k * 6 + 1, none⟩ (.int .i64 vk)).setCell ⟨g, k * 6 + 1 + 1, none⟩ (.int .i64 vn)).setCell ⟨g, k * 6 + 1 + 2, none⟩ (.string vs)).setCell ⟨g, k * 6 + 5, none⟩ (.bool true)) hb ho L' (H.setNames m s (s.names.set k { b with v := ⟨vk, vn, vs⟩, ready := true })) ∧
      Fr ρ ρ' hb ho w1 ((((w1.setCell ⟨g, k * 6 + 1, none⟩ (.int .i64 vk)).setCell ⟨g, k * 6 + 1 + 1, none⟩ (.int .i64 vn)).setCell ⟨g, k * 6 + 1 + 2, none⟩ (.string vs)).setCell ⟨g, k * 6 + 5, none⟩ (.bool true)) := by
  have hml := getElem?_lt hm
  have hkl := getElem?_lt hp
  obtain ⟨hblk, hown⟩ := h.scp m s hm
  have hgo : g ≠ L.sb m := fun e => by
    have h1 := h.rnv m g hml (by rw [hv]; rfl)
    rw [e, h.rsb m hml] at h1
    cases h1
  rw [hv] at hown
  have hst := ((row_store3 (f := LBind.cells) (m := 6) (fun _ => rfl) hown hp (j := 1) (by omega) (x := .int .i64 vk) (y := .int .i64 vn) (z := .string vs) (a' := { b with v := ⟨vk, vn, vs⟩ }) rfl).stored (k * 6 + 5) (.bool true)).1
  rw [set_flatMap (f := LBind.cells) (m := 6) (fun _ => rfl) (k := k) (a := { b with v := ⟨vk, vn, vs⟩ }) (a' := { b with v := ⟨vk, vn, vs⟩, ready := true }) (by simp [hkl]) (by omega) rfl, List.set_set] at hst
  have far : ∀ b, b ≠ g → ((((w1.setCell ⟨g, k * 6 + 1, none⟩ (.int .i64 vk)).setCell ⟨g, k * 6 + 1 + 1, none⟩ (.int .i64 vn)).setCell ⟨g, k * 6 + 1 + 2, none⟩ (.string vs)).setCell ⟨g, k * 6 + 5, none⟩ (.bool true)).heap[b]? = w1.heap[b]? := fun b hb => by
    rw [Below.heap_setCell _ _ _ _ hb, Below.heap_setCell _ _ _ _ hb, Below.heap_setCell _ _ _ _ hb, Below.heap_setCell _ _ _ _ hb]
  refine h.setNames hm (nv' := .slice (some ⟨g, 0, none⟩) s.names.length c) (names' := s.names.set k { b with v := ⟨vk, vn, vs⟩, ready := true }) ?_ ?_ (by simp) ?_ ?_ rfl rfl rfl
  · rw [far _ (Ne.symm hgo), ← hv]; exact hblk
  · simp only [List.length_set]; exact hst
  · intro b _ _ h3
    rw [hv] at h3
    exact far b (fun e => h3 (by rw [e]; rfl))
  · intro g' hg'
    rw [hv]
    exact .inl hg'

set_option maxHeartbeats 1600000 in
theorem start_any (h : HeapAt ρ w hb ho L H) (n : Int) (name : ByteArray) (v : LVal) :
    Calls Tryd.prog 22 #[.pointer (some ⟨hb, ho, none⟩), .int .i64 n, .string name, v.agg] w fun e w' => e = .returned (errV (H.start n name v).2) ∧
      ∃ ρ' L', HeapAt ρ' w' hb ho L' (H.start n name v).1 ∧ Fr ρ ρ' hb ho w w' := by
  have hhb := h.hbLt
  obtain ⟨vk, vn, vs⟩ := v
  simp only [LVal.agg]
  have h1 := h.below ((Below.refl _ _).alloc (Nat.le_refl _) (.cells #[.int .i64 vk, .int .i64 vn, .string vs] 39))
  have hB0 : Below w.heap.size w (w.alloc (.cells #[.int .i64 vk, .int .i64 vn, .string vs] 39)) := (Below.refl _ _).alloc (Nat.le_refl _) _
  have q0 : (w.alloc (.cells #[.int .i64 vk, .int .i64 vn, .string vs] 39)).cell? ⟨w.heap.size, 0, none⟩ = some (.int .i64 vk) := World.cell?_alloc_new _ _ _ 0
  have q1 : (w.alloc (.cells #[.int .i64 vk, .int .i64 vn, .string vs] 39)).cell? ⟨w.heap.size, 1, none⟩ = some (.int .i64 vn) := World.cell?_alloc_new _ _ _ 1
  have q2 : (w.alloc (.cells #[.int .i64 vk, .int .i64 vn, .string vs] 39)).cell? ⟨w.heap.size, 2, none⟩ = some (.string vs) := World.cell?_alloc_new _ _ _ 2
  have hs : w.heap.size < (w.alloc (.cells #[.int .i64 vk, .int .i64 vn, .string vs] 39)).heap.size := by simp
  rcases hob : H.scope? n with _ | s
  · have HC := Lib.hid (scope_no h1 n hob)
    have hw : H.start n name ⟨vk, vn, vs⟩ = (H, 7) := by simp [LHeap.start, hob]
    rw [hw]
    have HH := Lib.hid h1
    have HB := Lib.hid hB0
    clear h h1 hB0 hob hw q0 q1 q2
    go_enter Tryd.func22, Tryd.ntmps22
    go_wp2_with fail
    refine HC.out.mono ?_
    rintro e w1 ⟨rfl, rfl⟩
    go_wp2
    go_ret
    exact ⟨rfl, ρ, L, HH.out, Fr.of_below hhb HB.out⟩
  obtain ⟨m, rfl, hm⟩ := LHeap.scope?_some hob
  have hml := getElem?_lt hm
  have HC := Lib.hid (scope_yes h1 m hml)
  have hc1 : (w.alloc (.cells #[.int .i64 vk, .int .i64 vn, .string vs] 39)).cell? ⟨L.sb m, 1, none⟩ = some (.int .i64 s.object) := by have := (h1.scp m s hm).1; simp [World.cell?, this]
  by_cases hso : 0 ≤ s.object
  · have hw : H.start m name ⟨vk, vn, vs⟩ = (H, 7) := by simp [LHeap.start, hob, hso]
    rw [hw]
    have HH := Lib.hid h1
    have HB := Lib.hid hB0
    clear h h1 hB0 hob hw q0 q1 q2 hm
    go_enter Tryd.func22, Tryd.ntmps22
    go_wp2_with fail
    refine HC.out.mono ?_
    rintro e w1 ⟨rfl, rfl⟩
    go_wp2
    go_ret
    exact ⟨rfl, ρ, L, HH.out, Fr.of_below hhb HB.out⟩
  have hso' : s.object < 0 := by omega
  have HBind := Lib.hid (fun w1 (hh : HeapAt ρ w1 hb ho L H) => bind_any hh m s hm name)
  rcases hk : s.idx name with _ | k
  · have hw : H.start m name ⟨vk, vn, vs⟩ = (H, 7) := by simp [LHeap.start, hob, hso, hk]
    rw [hw]
    rw [hk] at HBind
    simp only [ptrOpt] at HBind
    have HH := Lib.hid h1
    have HB := Lib.hid hB0
    clear h h1 hB0 hob hw q0 q1 q2 hm hk hso
    go_enter Tryd.func22, Tryd.ntmps22
    go_wp2_with fail
    refine HC.out.mono ?_
    rintro e w1 ⟨rfl, rfl⟩
    go_wp2_with fail
    refine (HBind.out _ HH.out).mono ?_
    rintro e w2 ⟨rfl, hB2⟩
    have HB2 := Lib.hid hB2
    clear hB2
    go_wp2
    go_ret
    exact ⟨rfl, ρ, L, HH.out.below HB2.out, Fr.of_below hhb (HB.out.trans (HB2.out.mono (Nat.le_of_lt hs)))⟩
  obtain ⟨b, hp, _⟩ := LScope.idx_some hk
  have hkl := getElem?_lt hp
  have hw : H.start m name ⟨vk, vn, vs⟩ = (H.setNames m s (s.names.set k { b with v := ⟨vk, vn, vs⟩, ready := true }), 0) := by simp [LHeap.start, hob, hso, hk, hp]
  rw [hw]
  obtain ⟨_, hown⟩ := h.scp m s hm
  rcases ownsRow_cases hown with ⟨hv, hz⟩ | ⟨g, c, hv, h2, h3, hgl⟩
  · omega
  obtain ⟨pn, ⟨pk, pm, ps⟩, pkd, prd⟩ := b
  have hrow := fun w1 (hh : HeapAt ρ w1 hb ho L H) j x => row_cell (f := LBind.cells) (m := 6) (fun _ => rfl) (hh.scp m s hm).2 (g := g) (by rw [hv]; rfl) (i := k) (j := j) (x := x) hp
  have hfz := fun w1 (hh : HeapAt ρ w1 hb ho L H) j => ownsRow_frozen (hh.scp m s hm).2 (g := g) (by rw [hv]; rfl) j
  have hgx : g ≠ w.heap.size := by omega
  have HR := Lib.hid hrow
  have HZ := Lib.hid hfz
  rw [hk, hv] at HBind
  simp only [ptrOpt, Value.ownBlock, Option.map_some] at HBind
  have HH := Lib.hid h1
  have HB := Lib.hid hB0
  have HM := Lib.hid hm
  have HP := Lib.hid hp
  have HV := Lib.hid hv
  clear h h1 hB0 hob hw hm hk hso hp hown hv hrow hfz
  go_enter Tryd.func22, Tryd.ntmps22
  go_wp2_with fail
  refine HC.out.mono ?_
  rintro e w1 ⟨rfl, hw1⟩
  rw [hw1] at HH hc1 q0 q1 q2 hs HB
  clear hw1
  go_wp2_with fail
  refine (HBind.out _ HH.out).mono ?_
  rintro e w2 ⟨rfl, hB2⟩
  have hH2 := HH.out.below hB2
  have hs2 := Nat.lt_of_lt_of_le hs hB2.size
  have q0' := (hB2.cell (p := ⟨w.heap.size, 0, none⟩) hs).trans q0
  have q1' := (hB2.cell (p := ⟨w.heap.size, 1, none⟩) hs).trans q1
  have q2' := (hB2.cell (p := ⟨w.heap.size, 2, none⟩) hs).trans q2
  have HH2 := Lib.hid hH2
  have HB2 := Lib.hid (HB.out.trans (hB2.mono (Nat.le_of_lt hs)))
  clear hB2 hH2 q0 q1 q2 hc1 HH HB
  go_wp2_with fail
  refine (HBind.out _ HH2.out).mono ?_
  rintro e w3 ⟨rfl, hB3⟩
  have hH3 := HH2.out.below hB3
  have r1 := HR.out w3 hH3 1 (.int .i64 pk) rfl
  have r2 := HR.out w3 hH3 2 (.int .i64 pm) rfl
  have r3 := HR.out w3 hH3 3 (.string ps) rfl
  have r5 := HR.out w3 hH3 5 (.bool prd) rfl
  have z1 := HZ.out w3 hH3 (k * 6 + 1)
  have z2 := HZ.out w3 hH3 (k * 6 + 1 + 1)
  have z3 := HZ.out w3 hH3 (k * 6 + 1 + 2)
  have z5 := HZ.out w3 hH3 (k * 6 + 5)
  have z6 := HZ.out w3 hH3 (k * 6 + 3)
  have p0 := (hB3.cell (p := ⟨w.heap.size, 0, none⟩) hs2).trans q0'
  have p1 := (hB3.cell (p := ⟨w.heap.size, 1, none⟩) hs2).trans q1'
  have p2 := (hB3.cell (p := ⟨w.heap.size, 2, none⟩) hs2).trans q2'
  have HH3 := Lib.hid hH3
  have HB3 := Lib.hid (HB2.out.trans (hB3.mono (Nat.le_of_lt hs2)))
  clear hB3 hH3 q0' q1' q2' HH2 HB2
  go_wp2
  go_ret
  refine ⟨rfl, ?_⟩
  obtain ⟨ρ', L', hA, hF⟩ := start_fin (vk := vk) (vn := vn) (vs := vs) HH3.out HM.out HP.out HV.out
  exact ⟨ρ', L', hA, (Fr.of_below hhb HB3.out).trans hF⟩
end
end Go.Proofs.YtgoaljfhciimhaaDoor
