/- Walks of package heap that change it: Write. Walks of package heap that change it: Start. -/
import Derived.Test.YtfanolcjgaccpaaDoorJ09
namespace Go.Proofs.YtfanolcjgaccpaaDoor
open Go Go.RowKit
set_option maxRecDepth 100000

def LHeap.setNames (H : LHeap) (m : Nat) (s : LScope) (l : List LBind) : LHeap := { H with scopes := H.scopes.set m { s with names := l } }
def LHeap.write (H : LHeap) (n : Int) (name : ByteArray) (v : LVal) : LHeap × Int :=
  match H.scope? n with
  | none => (H, 7)
  | some s =>
    if s.object < 0 then
      match s.idx name with
      | none => (H, 7)
      | some k =>
        match s.names[k]? with
        | none => (H, 7)
        | some b =>
          if b.ready = false then (H, 6)
          else if b.kind = 2 then (H, 1)
          else if b.kind = 3 then (H, 5)
          else (H.setNames n.toNat s (s.names.set k { b with v := v }), 0)
    else if (H.get s.object name).isSome then H.put s.object name v false else (H, 7)

section
variable {ρ : Nat → Option Role} {w : World} {hb ho : Nat} {L : HL} {H : LHeap}

/-- the heap behind a store into a binding's value -/
theorem write_fin {w1 : World} {m k g c : Nat} {s : LScope} {b : LBind} {vk vn : Int} {vs : ByteArray} (h : HeapAt ρ w1 hb ho L H) (hm : H.scopes[m]? = some s) (hp : s.names[k]? = some b)
    (hv : L.nv m = .slice (some ⟨g, 0, none⟩) s.names.length c) :
    ∃ ρ' L', HeapAt ρ' (((w1.setCell ⟨g, k * 6 + 1, none⟩ (.int .i64 vk)).setCell ⟨g, k * 6 + 1 + 1, none⟩ (.int .i64 vn)).setCell ⟨g, k * 6 + 1 + 2, none⟩ (.string vs)) hb ho L' (H.setNames m s (s.names.set k { b with v := ⟨vk, vn, vs⟩ })) ∧
      Fr ρ ρ' hb ho w1 (((w1.setCell ⟨g, k * 6 + 1, none⟩ (.int .i64 vk)).setCell ⟨g, k * 6 + 1 + 1, none⟩ (.int .i64 vn)).setCell ⟨g, k * 6 + 1 + 2, none⟩ (.string vs)) := by
  have hml := getElem?_lt hm
  obtain ⟨hblk, hown⟩ := h.scp m s hm
  have hgo : g ≠ L.sb m := fun e => by
    have h1 := h.rnv m g hml (by rw [hv]; rfl)
    rw [e, h.rsb m hml] at h1
    cases h1
  rw [hv] at hown
  have hst := row_store3 (f := LBind.cells) (m := 6) (fun _ => rfl) hown hp (j := 1) (by omega) (x := .int .i64 vk) (y := .int .i64 vn) (z := .string vs) (a' := { b with v := ⟨vk, vn, vs⟩ }) rfl
  have far : ∀ b, b ≠ g → (((w1.setCell ⟨g, k * 6 + 1, none⟩ (.int .i64 vk)).setCell ⟨g, k * 6 + 1 + 1, none⟩ (.int .i64 vn)).setCell ⟨g, k * 6 + 1 + 2, none⟩ (.string vs)).heap[b]? = w1.heap[b]? := fun b hb => by
    rw [Below.heap_setCell _ _ _ _ hb, Below.heap_setCell _ _ _ _ hb, Below.heap_setCell _ _ _ _ hb]
  refine h.setNames hm (nv' := .slice (some ⟨g, 0, none⟩) s.names.length c) (names' := s.names.set k { b with v := ⟨vk, vn, vs⟩ }) ?_ ?_ (by simp) ?_ ?_ rfl rfl rfl
  · rw [far _ (Ne.symm hgo), ← hv]; exact hblk
  · simp only [List.length_set]; exact hst
  · intro b _ _ h3
    rw [hv] at h3
    exact far b (fun e => h3 (by rw [e]; rfl))
  · intro g' hg'
    rw [hv]
    exact .inl hg'

set_option maxHeartbeats 1600000 in
theorem write_late (h : HeapAt ρ w hb ho L H) (m : Nat) (s : LScope) (name : ByteArray) (k : Nat) (b : LBind) (vk vn : Int) (vs : ByteArray) (hm : H.scopes[m]? = some s) (hso : s.object < 0) (hk : s.idx name = some k) (hp : s.names[k]? = some b) (hr : b.ready = false) :
    Calls Tryd.prog 14 #[.pointer (some ⟨hb, ho, none⟩), .int .i64 m, .string name, .agg #[.int .i64 vk, .int .i64 vn, .string vs]] w fun e w' => e = .returned (errV 6) ∧
      ∃ ρ' L', HeapAt ρ' w' hb ho L' H ∧ Fr ρ ρ' hb ho w w' := by
  have hhb := h.hbLt
  have hml := getElem?_lt hm
  have hkl := getElem?_lt hp
  have h1 := h.below ((Below.refl _ _).alloc (Nat.le_refl _) (.cells #[.int .i64 vk, .int .i64 vn, .string vs] 36))
  have hob : H.scope? (m : Int) = some s := by simp [LHeap.scope?, hm]
  have hhas : H.has (m : Int) name = true := by rw [has_eq hob, if_pos hso, hk]; rfl
  have HC := Lib.hid (has_any h1 (m : Int) name)
  rw [hhas] at HC
  rcases ownsRow_cases h.rowS with ⟨hvs, hz⟩ | ⟨gs, cs, hvs, hs1, hs2, hgs⟩
  · omega
  unfold maxLen at hs2
  have facts : ∀ w1, HeapAt ρ w1 hb ho L H → w1.cell? ⟨hb, ho + 1, none⟩ = some (.slice (some ⟨gs, 0, none⟩) H.scopes.length cs) ∧ w1.cell? ⟨gs, m, none⟩ = some (.pointer (some ⟨L.sb m, 0, none⟩)) ∧ w1.cell? ⟨L.sb m, 1, none⟩ = some (.int .i64 s.object) := fun w1 hh =>
    ⟨by rw [← hvs]; exact hh.cellS, ownsRow_cell1 hh.rowS (g := gs) (by rw [hvs]; rfl) (ptrs_get L.sb _ m hml), by have := (hh.scp m s hm).1; simp [World.cell?, this]⟩
  obtain ⟨_, hown⟩ := h.scp m s hm
  rcases ownsRow_cases hown with ⟨hv, hz⟩ | ⟨g, c, hv, h2, h3, hgl⟩
  · omega
  unfold maxLen at h3
  obtain ⟨pn, ⟨pk, pm, ps⟩, pkd, prd⟩ := b
  have hrow := fun w1 (hh : HeapAt ρ w1 hb ho L H) j x => row_cell (f := LBind.cells) (m := 6) (fun _ => rfl) (hh.scp m s hm).2 (g := g) (by rw [hv]; rfl) (i := k) (j := j) (x := x) hp
  have hfz := fun w1 (hh : HeapAt ρ w1 hb ho L H) j => ownsRow_frozen (hh.scp m s hm).2 (g := g) (by rw [hv]; rfl) j
  have HF := Lib.hid facts
  have HR := Lib.hid hrow
  have HZ := Lib.hid hfz
  have HBind := Lib.hid (fun w1 (hh : HeapAt ρ w1 hb ho L H) => bind_any hh m s hm name)
  rw [hk, hv] at HBind
  simp only [ptrOpt, Value.ownBlock, Option.map_some] at HBind
  have HH := Lib.hid h1
  have HM := Lib.hid hm
  have HP := Lib.hid hp
  have HV := Lib.hid hv
  simp only at hr
  subst hr
  clear h h1 hob hhas hm hvs facts hk hp hown hv hrow hfz
  go_enter Tryd.func14, Tryd.ntmps14
  go_wp2_with fail
  refine HC.out.mono ?_
  rintro e w1 ⟨rfl, hB⟩
  obtain ⟨q0, q1, q2, f0, f1, f2, hs, hB'⟩ := box_facts hB
  have hH1 := HH.out.below hB
  obtain ⟨d0, d1, d2⟩ := HF.out w1 hH1
  have HH1 := Lib.hid hH1
  have HB := Lib.hid hB'
  clear hB hB' hH1
  go_wp2_with fail
  refine (HBind.out w1 HH1.out).mono ?_
  rintro e w2 ⟨rfl, hB2⟩
  have hH2 := HH1.out.below hB2
  have r0 := HR.out w2 hH2 5 _ rfl
  have r1 := HR.out w2 hH2 1 (.int .i64 pk) rfl
  have r2 := HR.out w2 hH2 2 (.int .i64 pm) rfl
  have r3 := HR.out w2 hH2 3 (.string ps) rfl
  have r4 := HR.out w2 hH2 4 (.int .i64 pkd) rfl
  have z1 := HZ.out w2 hH2 (k * 6 + 1)
  have z2 := HZ.out w2 hH2 (k * 6 + 1 + 1)
  have z3 := HZ.out w2 hH2 (k * 6 + 1 + 2)
  have q0' := (hB2.cell (p := ⟨w.heap.size, 0, none⟩) hs).trans q0
  have q1' := (hB2.cell (p := ⟨w.heap.size, 1, none⟩) hs).trans q1
  have q2' := (hB2.cell (p := ⟨w.heap.size, 2, none⟩) hs).trans q2
  have HH2 := Lib.hid hH2
  have HB2 := Lib.hid (HB.out.trans (hB2.mono (Nat.le_of_lt hs)))
  clear hB2 hH2 q0 q1 q2 f0 f1 f2 d0 d1 d2
  go_wp2
  go_ret
  exact ⟨rfl, ρ, L, HH2.out, Fr.of_below hhb HB2.out⟩

set_option maxHeartbeats 1600000 in
theorem write_final (h : HeapAt ρ w hb ho L H) (m : Nat) (s : LScope) (name : ByteArray) (k : Nat) (b : LBind) (vk vn : Int) (vs : ByteArray) (hm : H.scopes[m]? = some s) (hso : s.object < 0) (hk : s.idx name = some k) (hp : s.names[k]? = some b) (hr : b.ready = true) (hkd : (b.kind == 2) = true) :
    Calls Tryd.prog 14 #[.pointer (some ⟨hb, ho, none⟩), .int .i64 m, .string name, .agg #[.int .i64 vk, .int .i64 vn, .string vs]] w fun e w' => e = .returned (errV 1) ∧
      ∃ ρ' L', HeapAt ρ' w' hb ho L' H ∧ Fr ρ ρ' hb ho w w' := by
  have hhb := h.hbLt
  have hml := getElem?_lt hm
  have hkl := getElem?_lt hp
  have h1 := h.below ((Below.refl _ _).alloc (Nat.le_refl _) (.cells #[.int .i64 vk, .int .i64 vn, .string vs] 36))
  have hob : H.scope? (m : Int) = some s := by simp [LHeap.scope?, hm]
  have hhas : H.has (m : Int) name = true := by rw [has_eq hob, if_pos hso, hk]; rfl
  have HC := Lib.hid (has_any h1 (m : Int) name)
  rw [hhas] at HC
  rcases ownsRow_cases h.rowS with ⟨hvs, hz⟩ | ⟨gs, cs, hvs, hs1, hs2, hgs⟩
  · omega
  unfold maxLen at hs2
  have facts : ∀ w1, HeapAt ρ w1 hb ho L H → w1.cell? ⟨hb, ho + 1, none⟩ = some (.slice (some ⟨gs, 0, none⟩) H.scopes.length cs) ∧ w1.cell? ⟨gs, m, none⟩ = some (.pointer (some ⟨L.sb m, 0, none⟩)) ∧ w1.cell? ⟨L.sb m, 1, none⟩ = some (.int .i64 s.object) := fun w1 hh =>
    ⟨by rw [← hvs]; exact hh.cellS, ownsRow_cell1 hh.rowS (g := gs) (by rw [hvs]; rfl) (ptrs_get L.sb _ m hml), by have := (hh.scp m s hm).1; simp [World.cell?, this]⟩
  obtain ⟨_, hown⟩ := h.scp m s hm
  rcases ownsRow_cases hown with ⟨hv, hz⟩ | ⟨g, c, hv, h2, h3, hgl⟩
  · omega
  unfold maxLen at h3
  obtain ⟨pn, ⟨pk, pm, ps⟩, pkd, prd⟩ := b
  have hrow := fun w1 (hh : HeapAt ρ w1 hb ho L H) j x => row_cell (f := LBind.cells) (m := 6) (fun _ => rfl) (hh.scp m s hm).2 (g := g) (by rw [hv]; rfl) (i := k) (j := j) (x := x) hp
  have hfz := fun w1 (hh : HeapAt ρ w1 hb ho L H) j => ownsRow_frozen (hh.scp m s hm).2 (g := g) (by rw [hv]; rfl) j
  have HF := Lib.hid facts
  have HR := Lib.hid hrow
  have HZ := Lib.hid hfz
  have HBind := Lib.hid (fun w1 (hh : HeapAt ρ w1 hb ho L H) => bind_any hh m s hm name)
  rw [hk, hv] at HBind
  simp only [ptrOpt, Value.ownBlock, Option.map_some] at HBind
  have HH := Lib.hid h1
  have HM := Lib.hid hm
  have HP := Lib.hid hp
  have HV := Lib.hid hv
  simp only at hr hkd
  subst hr
  clear h h1 hob hhas hm hvs facts hk hp hown hv hrow hfz
  go_enter Tryd.func14, Tryd.ntmps14
  go_wp2_with fail
  refine HC.out.mono ?_
  rintro e w1 ⟨rfl, hB⟩
  obtain ⟨q0, q1, q2, f0, f1, f2, hs, hB'⟩ := box_facts hB
  have hH1 := HH.out.below hB
  obtain ⟨d0, d1, d2⟩ := HF.out w1 hH1
  have HH1 := Lib.hid hH1
  have HB := Lib.hid hB'
  clear hB hB' hH1
  go_wp2_with fail
  refine (HBind.out w1 HH1.out).mono ?_
  rintro e w2 ⟨rfl, hB2⟩
  have hH2 := HH1.out.below hB2
  have r0 := HR.out w2 hH2 5 _ rfl
  have r1 := HR.out w2 hH2 1 (.int .i64 pk) rfl
  have r2 := HR.out w2 hH2 2 (.int .i64 pm) rfl
  have r3 := HR.out w2 hH2 3 (.string ps) rfl
  have r4 := HR.out w2 hH2 4 (.int .i64 pkd) rfl
  have z1 := HZ.out w2 hH2 (k * 6 + 1)
  have z2 := HZ.out w2 hH2 (k * 6 + 1 + 1)
  have z3 := HZ.out w2 hH2 (k * 6 + 1 + 2)
  have q0' := (hB2.cell (p := ⟨w.heap.size, 0, none⟩) hs).trans q0
  have q1' := (hB2.cell (p := ⟨w.heap.size, 1, none⟩) hs).trans q1
  have q2' := (hB2.cell (p := ⟨w.heap.size, 2, none⟩) hs).trans q2
  have HH2 := Lib.hid hH2
  have HB2 := Lib.hid (HB.out.trans (hB2.mono (Nat.le_of_lt hs)))
  clear hB2 hH2 q0 q1 q2 f0 f1 f2 d0 d1 d2
  go_wp2
  go_ret
  exact ⟨rfl, ρ, L, HH2.out, Fr.of_below hhb HB2.out⟩

set_option maxHeartbeats 1600000 in
theorem write_own (h : HeapAt ρ w hb ho L H) (m : Nat) (s : LScope) (name : ByteArray) (k : Nat) (b : LBind) (vk vn : Int) (vs : ByteArray) (hm : H.scopes[m]? = some s) (hso : s.object < 0) (hk : s.idx name = some k) (hp : s.names[k]? = some b) (hr : b.ready = true) (hkd : (b.kind == 2) = false) (hkd3 : (b.kind == 3) = true) :
    Calls Tryd.prog 14 #[.pointer (some ⟨hb, ho, none⟩), .int .i64 m, .string name, .agg #[.int .i64 vk, .int .i64 vn, .string vs]] w fun e w' => e = .returned (errV 5) ∧
      ∃ ρ' L', HeapAt ρ' w' hb ho L' H ∧ Fr ρ ρ' hb ho w w' := by
  have hhb := h.hbLt
  have hml := getElem?_lt hm
  have hkl := getElem?_lt hp
  have h1 := h.below ((Below.refl _ _).alloc (Nat.le_refl _) (.cells #[.int .i64 vk, .int .i64 vn, .string vs] 36))
  have hob : H.scope? (m : Int) = some s := by simp [LHeap.scope?, hm]
  have hhas : H.has (m : Int) name = true := by rw [has_eq hob, if_pos hso, hk]; rfl
  have HC := Lib.hid (has_any h1 (m : Int) name)
  rw [hhas] at HC
  rcases ownsRow_cases h.rowS with ⟨hvs, hz⟩ | ⟨gs, cs, hvs, hs1, hs2, hgs⟩
  · omega
  unfold maxLen at hs2
  have facts : ∀ w1, HeapAt ρ w1 hb ho L H → w1.cell? ⟨hb, ho + 1, none⟩ = some (.slice (some ⟨gs, 0, none⟩) H.scopes.length cs) ∧ w1.cell? ⟨gs, m, none⟩ = some (.pointer (some ⟨L.sb m, 0, none⟩)) ∧ w1.cell? ⟨L.sb m, 1, none⟩ = some (.int .i64 s.object) := fun w1 hh =>
    ⟨by rw [← hvs]; exact hh.cellS, ownsRow_cell1 hh.rowS (g := gs) (by rw [hvs]; rfl) (ptrs_get L.sb _ m hml), by have := (hh.scp m s hm).1; simp [World.cell?, this]⟩
  obtain ⟨_, hown⟩ := h.scp m s hm
  rcases ownsRow_cases hown with ⟨hv, hz⟩ | ⟨g, c, hv, h2, h3, hgl⟩
  · omega
  unfold maxLen at h3
  obtain ⟨pn, ⟨pk, pm, ps⟩, pkd, prd⟩ := b
  have hrow := fun w1 (hh : HeapAt ρ w1 hb ho L H) j x => row_cell (f := LBind.cells) (m := 6) (fun _ => rfl) (hh.scp m s hm).2 (g := g) (by rw [hv]; rfl) (i := k) (j := j) (x := x) hp
  have hfz := fun w1 (hh : HeapAt ρ w1 hb ho L H) j => ownsRow_frozen (hh.scp m s hm).2 (g := g) (by rw [hv]; rfl) j
  have HF := Lib.hid facts
  have HR := Lib.hid hrow
  have HZ := Lib.hid hfz
  have HBind := Lib.hid (fun w1 (hh : HeapAt ρ w1 hb ho L H) => bind_any hh m s hm name)
  rw [hk, hv] at HBind
  simp only [ptrOpt, Value.ownBlock, Option.map_some] at HBind
  have HH := Lib.hid h1
  have HM := Lib.hid hm
  have HP := Lib.hid hp
  have HV := Lib.hid hv
  simp only at hr hkd hkd3
  subst hr
  clear h h1 hob hhas hm hvs facts hk hp hown hv hrow hfz
  go_enter Tryd.func14, Tryd.ntmps14
  go_wp2_with fail
  refine HC.out.mono ?_
  rintro e w1 ⟨rfl, hB⟩
  obtain ⟨q0, q1, q2, f0, f1, f2, hs, hB'⟩ := box_facts hB
  have hH1 := HH.out.below hB
  obtain ⟨d0, d1, d2⟩ := HF.out w1 hH1
  have HH1 := Lib.hid hH1
  have HB := Lib.hid hB'
  clear hB hB' hH1
  go_wp2_with fail
  refine (HBind.out w1 HH1.out).mono ?_
  rintro e w2 ⟨rfl, hB2⟩
  have hH2 := HH1.out.below hB2
  have r0 := HR.out w2 hH2 5 _ rfl
  have r1 := HR.out w2 hH2 1 (.int .i64 pk) rfl
  have r2 := HR.out w2 hH2 2 (.int .i64 pm) rfl
  have r3 := HR.out w2 hH2 3 (.string ps) rfl
  have r4 := HR.out w2 hH2 4 (.int .i64 pkd) rfl
  have z1 := HZ.out w2 hH2 (k * 6 + 1)
  have z2 := HZ.out w2 hH2 (k * 6 + 1 + 1)
  have z3 := HZ.out w2 hH2 (k * 6 + 1 + 2)
  have q0' := (hB2.cell (p := ⟨w.heap.size, 0, none⟩) hs).trans q0
  have q1' := (hB2.cell (p := ⟨w.heap.size, 1, none⟩) hs).trans q1
  have q2' := (hB2.cell (p := ⟨w.heap.size, 2, none⟩) hs).trans q2
  have HH2 := Lib.hid hH2
  have HB2 := Lib.hid (HB.out.trans (hB2.mono (Nat.le_of_lt hs)))
  clear hB2 hH2 q0 q1 q2 f0 f1 f2 d0 d1 d2
  go_wp2
  go_ret
  exact ⟨rfl, ρ, L, HH2.out, Fr.of_below hhb HB2.out⟩

set_option maxHeartbeats 1600000 in
theorem write_ok (h : HeapAt ρ w hb ho L H) (m : Nat) (s : LScope) (name : ByteArray) (k : Nat) (b : LBind) (vk vn : Int) (vs : ByteArray) (hm : H.scopes[m]? = some s) (hso : s.object < 0) (hk : s.idx name = some k) (hp : s.names[k]? = some b) (hr : b.ready = true) (hkd : (b.kind == 2) = false) (hkd3 : (b.kind == 3) = false) :
    Calls Tryd.prog 14 #[.pointer (some ⟨hb, ho, none⟩), .int .i64 m, .string name, .agg #[.int .i64 vk, .int .i64 vn, .string vs]] w fun e w' => e = .returned (errV 0) ∧
      ∃ ρ' L', HeapAt ρ' w' hb ho L' (H.setNames m s (s.names.set k { b with v := ⟨vk, vn, vs⟩ })) ∧ Fr ρ ρ' hb ho w w' := by
  have hhb := h.hbLt
  have hml := getElem?_lt hm
  have hkl := getElem?_lt hp
  have h1 := h.below ((Below.refl _ _).alloc (Nat.le_refl _) (.cells #[.int .i64 vk, .int .i64 vn, .string vs] 36))
  have hob : H.scope? (m : Int) = some s := by simp [LHeap.scope?, hm]
  have hhas : H.has (m : Int) name = true := by rw [has_eq hob, if_pos hso, hk]; rfl
  have HC := Lib.hid (has_any h1 (m : Int) name)
  rw [hhas] at HC
  rcases ownsRow_cases h.rowS with ⟨hvs, hz⟩ | ⟨gs, cs, hvs, hs1, hs2, hgs⟩
  · omega
  unfold maxLen at hs2
  have facts : ∀ w1, HeapAt ρ w1 hb ho L H → w1.cell? ⟨hb, ho + 1, none⟩ = some (.slice (some ⟨gs, 0, none⟩) H.scopes.length cs) ∧ w1.cell? ⟨gs, m, none⟩ = some (.pointer (some ⟨L.sb m, 0, none⟩)) ∧ w1.cell? ⟨L.sb m, 1, none⟩ = some (.int .i64 s.object) := fun w1 hh =>
    ⟨by rw [← hvs]; exact hh.cellS, ownsRow_cell1 hh.rowS (g := gs) (by rw [hvs]; rfl) (ptrs_get L.sb _ m hml), by have := (hh.scp m s hm).1; simp [World.cell?, this]⟩
  obtain ⟨_, hown⟩ := h.scp m s hm
  rcases ownsRow_cases hown with ⟨hv, hz⟩ | ⟨g, c, hv, h2, h3, hgl⟩
  · omega
  unfold maxLen at h3
  obtain ⟨pn, ⟨pk, pm, ps⟩, pkd, prd⟩ := b
  have hrow := fun w1 (hh : HeapAt ρ w1 hb ho L H) j x => row_cell (f := LBind.cells) (m := 6) (fun _ => rfl) (hh.scp m s hm).2 (g := g) (by rw [hv]; rfl) (i := k) (j := j) (x := x) hp
  have hfz := fun w1 (hh : HeapAt ρ w1 hb ho L H) j => ownsRow_frozen (hh.scp m s hm).2 (g := g) (by rw [hv]; rfl) j
  have HF := Lib.hid facts
  have HR := Lib.hid hrow
  have HZ := Lib.hid hfz
  have HBind := Lib.hid (fun w1 (hh : HeapAt ρ w1 hb ho L H) => bind_any hh m s hm name)
  rw [hk, hv] at HBind
  simp only [ptrOpt, Value.ownBlock, Option.map_some] at HBind
  have HH := Lib.hid h1
  have HM := Lib.hid hm
  have HP := Lib.hid hp
  have HV := Lib.hid hv
  simp only at hr hkd hkd3
  subst hr
  clear h h1 hob hhas hm hvs facts hk hp hown hv hrow hfz
  go_enter Tryd.func14, Tryd.ntmps14
  go_wp2_with fail
  refine HC.out.mono ?_
  rintro e w1 ⟨rfl, hB⟩
  obtain ⟨q0, q1, q2, f0, f1, f2, hs, hB'⟩ := box_facts hB
  have hH1 := HH.out.below hB
  obtain ⟨d0, d1, d2⟩ := HF.out w1 hH1
  have HH1 := Lib.hid hH1
  have HB := Lib.hid hB'
  clear hB hB' hH1
  go_wp2_with fail
  refine (HBind.out w1 HH1.out).mono ?_
  rintro e w2 ⟨rfl, hB2⟩
  have hH2 := HH1.out.below hB2
  have r0 := HR.out w2 hH2 5 _ rfl
  have r1 := HR.out w2 hH2 1 (.int .i64 pk) rfl
  have r2 := HR.out w2 hH2 2 (.int .i64 pm) rfl
  have r3 := HR.out w2 hH2 3 (.string ps) rfl
  have r4 := HR.out w2 hH2 4 (.int .i64 pkd) rfl
  have z1 := HZ.out w2 hH2 (k * 6 + 1)
  have z2 := HZ.out w2 hH2 (k * 6 + 1 + 1)
  have z3 := HZ.out w2 hH2 (k * 6 + 1 + 2)
  have q0' := (hB2.cell (p := ⟨w.heap.size, 0, none⟩) hs).trans q0
  have q1' := (hB2.cell (p := ⟨w.heap.size, 1, none⟩) hs).trans q1
  have q2' := (hB2.cell (p := ⟨w.heap.size, 2, none⟩) hs).trans q2
  have HH2 := Lib.hid hH2
  have HB2 := Lib.hid (HB.out.trans (hB2.mono (Nat.le_of_lt hs)))
  clear hB2 hH2 q0 q1 q2 f0 f1 f2 d0 d1 d2
  go_wp2
  go_ret
  refine ⟨rfl, ?_⟩
  obtain ⟨ρ', L', hA, hF⟩ := write_fin (vk := vk) (vn := vn) (vs := vs) HH2.out HM.out HP.out HV.out
  exact ⟨ρ', L', hA, (Fr.of_below hhb HB2.out).trans hF⟩

set_option maxHeartbeats 1600000 in
theorem write_any (h : HeapAt ρ w hb ho L H) (n : Int) (name : ByteArray) (v : LVal) (hlen : ∀ (m : Nat) (o : LObj), H.objects[m]? = some o → o.props.length < 1099511627776) :
    Calls Tryd.prog 14 #[.pointer (some ⟨hb, ho, none⟩), .int .i64 n, .string name, v.agg] w fun e w' => e = .returned (errV (H.write n name v).2) ∧
      ∃ ρ' L', HeapAt ρ' w' hb ho L' (H.write n name v).1 ∧ Fr ρ ρ' hb ho w w' := by
  have hhb := h.hbLt
  obtain ⟨vk, vn, vs⟩ := v
  simp only [LVal.agg]
  have h1 := h.below ((Below.refl _ _).alloc (Nat.le_refl _) (.cells #[.int .i64 vk, .int .i64 vn, .string vs] 36))
  by_cases hq : H.has n name = true
  · obtain ⟨s, hob, hhas⟩ : ∃ s, H.scope? n = some s ∧ (if s.object < 0 then (s.idx name).isSome else (H.get s.object name).isSome) = true := by
      rcases hob : H.scope? n with _ | s
      · simp [LHeap.has, hob] at hq
      · exact ⟨s, rfl, by rw [← has_eq hob]; exact hq⟩
    obtain ⟨m, rfl, hm⟩ := LHeap.scope?_some hob
    have hml := getElem?_lt hm
    by_cases hso : s.object < 0
    · rw [if_pos hso] at hhas
      obtain ⟨k, hk⟩ := Option.isSome_iff_exists.1 hhas
      obtain ⟨b, hp, _⟩ := LScope.idx_some hk
      by_cases hr : b.ready = false
      · have hw : H.write m name ⟨vk, vn, vs⟩ = (H, 6) := by simp [LHeap.write, hob, hso, hk, hp, hr]
        rw [hw]
        exact write_late h m s name k b vk vn vs hm hso hk hp hr
      · have hr' : b.ready = true := by simpa using hr
        by_cases h2 : b.kind = 2
        · have hw : H.write m name ⟨vk, vn, vs⟩ = (H, 1) := by simp [LHeap.write, hob, hso, hk, hp, hr', h2]
          rw [hw]
          exact write_final h m s name k b vk vn vs hm hso hk hp hr' (by simp [h2])
        · by_cases h3 : b.kind = 3
          · have hw : H.write m name ⟨vk, vn, vs⟩ = (H, 5) := by simp [LHeap.write, hob, hso, hk, hp, hr', h3]
            rw [hw]
            exact write_own h m s name k b vk vn vs hm hso hk hp hr' (by simp [h2]) (by simp [h3])
          · have hw : H.write m name ⟨vk, vn, vs⟩ = (H.setNames m s (s.names.set k { b with v := ⟨vk, vn, vs⟩ }), 0) := by simp [LHeap.write, hob, hso, hk, hp, hr', h2, h3]
            rw [hw]
            exact write_ok h m s name k b vk vn vs hm hso hk hp hr' (by simp [h2]) (by simp [h3])
    · rw [if_neg hso] at hhas
      have hw : H.write m name ⟨vk, vn, vs⟩ = H.put s.object name ⟨vk, vn, vs⟩ false := by simp [LHeap.write, hob, hso, hhas]
      rw [hw]
      have HC := Lib.hid (has_any h1 (m : Int) name)
      rw [hq] at HC
      rcases ownsRow_cases h.rowS with ⟨hvs, hz⟩ | ⟨gs, cs, hvs, hs1, hs2, hgs⟩
      · omega
      unfold maxLen at hs2
      have facts : ∀ w1, HeapAt ρ w1 hb ho L H → w1.cell? ⟨hb, ho + 1, none⟩ = some (.slice (some ⟨gs, 0, none⟩) H.scopes.length cs) ∧ w1.cell? ⟨gs, m, none⟩ = some (.pointer (some ⟨L.sb m, 0, none⟩)) ∧ w1.cell? ⟨L.sb m, 1, none⟩ = some (.int .i64 s.object) := fun w1 hh =>
        ⟨by rw [← hvs]; exact hh.cellS, ownsRow_cell1 hh.rowS (g := gs) (by rw [hvs]; rfl) (ptrs_get L.sb _ m hml), by have := (hh.scp m s hm).1; simp [World.cell?, this]⟩
      have HF := Lib.hid facts
      have hput := fun w1 (hh : HeapAt ρ w1 hb ho L H) => put_any hh s.object name ⟨vk, vn, vs⟩ false hlen
      simp only [LVal.agg] at hput
      generalize errV (H.put s.object name ⟨vk, vn, vs⟩ false).2 = er at hput ⊢
      have HPut := Lib.hid hput
      clear hput
      have HH := Lib.hid h1
      clear h h1 hob hhas hm hvs facts hq hw hlen
      go_enter Tryd.func14, Tryd.ntmps14
      go_wp2_with fail
      refine HC.out.mono ?_
      rintro e w1 ⟨rfl, hB⟩
      obtain ⟨q0, q1, q2, f0, f1, f2, hs, hB'⟩ := box_facts hB
      have hH1 := HH.out.below hB
      obtain ⟨d0, d1, d2⟩ := HF.out w1 hH1
      have HH1 := Lib.hid hH1
      have HB := Lib.hid hB'
      clear hB hB' hH1
      go_wp2_with fail
      refine wp_region_plan [(true, 0), (true, 1), (true, 2), (true, 3), (true, 4), (true, 5), (true, 6)] [7, 8] (fun W => W.cell? ⟨L.sb m, 1, none⟩ = some (.int .i64 s.object) ∧ W.cell? ⟨w.heap.size, 0, none⟩ = some (.int .i64 vk) ∧ W.cell? ⟨w.heap.size, 1, none⟩ = some (.int .i64 vn) ∧ W.cell? ⟨w.heap.size, 2, none⟩ = some (.string vs)) (by kernel_rfl) (by kernel_rfl) (fun _ _ d _ _ h => by cases d <;> exact h) ⟨d2, q0, q1, q2⟩ (fun hS0 => ?_)
      simp only [planOps, List.filterMap_cons, List.filterMap_nil, List.getElem?_toArray, List.getElem?_cons_zero, List.getElem?_cons_succ, Option.map_some]
      iterate 7
        first
          | (refine wpPlan_take ?_ (by rfl) (fun w' hS' => ?_) ?_; rotate_left; (obtain ⟨s0, s1, s2, s3⟩ := hS'; go_simp; first | done | with_reducible rfl); simp only [Act.put, List.setIfInBounds_toArray, List.set_cons_zero, List.set_cons_succ])
          | (refine wpPlan_skip (by rfl) ?_; simp only [Act.put, List.setIfInBounds_toArray, List.set_cons_zero, List.set_cons_succ])
      refine wpPlan_end ?_
      go_wp2_with fail
      refine (HPut.out w1.drew HH1.out.drew).mono ?_
      rintro e w2 ⟨rfl, ρ', L', hA, hF⟩
      have HA := Lib.hid hA
      have HFr := Lib.hid hF
      clear hA hF
      go_wp2
      go_ret
      exact ⟨rfl, ρ', L', HA.out, (Fr.of_below hhb HB.out.drew).trans HFr.out⟩
  · have hq' : H.has n name = false := by simpa using hq
    have hw : H.write n name ⟨vk, vn, vs⟩ = (H, 7) := by
      unfold LHeap.has at hq'
      unfold LHeap.write
      split at hq'
      · rename_i hs; simp [hs]
      · rename_i s hs
        simp only [hs]
        split at hq'
        · have : s.idx name = none := by simpa using hq'
          rename_i hso
          rw [if_pos hso, this]
        · rename_i hso
          rw [if_neg hso]
          simp [hq']
    rw [hw]
    have HC := Lib.hid (has_any h1 n name)
    rw [hq'] at HC
    have HH := Lib.hid h1
    clear h h1 hq hq' hw hlen
    go_enter Tryd.func14, Tryd.ntmps14
    go_wp2_with fail
    refine HC.out.mono ?_
    rintro e w1 ⟨rfl, hB⟩
    have HB := Lib.hid hB
    clear hB
    go_wp2
    go_ret
    exact ⟨rfl, ρ, L, HH.out.below HB.out, Fr.of_below hhb (below_old HB.out)⟩
end
end Go.Proofs.YtfanolcjgaccpaaDoor

namespace Go.Proofs.YtfanolcjgaccpaaDoor
open Go Go.RowKit
set_option maxRecDepth 100000

theorem set_flatMap {α : Type} {f : α → List Value} {m : Nat} (hf : ∀ a, (f a).length = m) {l : List α} {k : Nat} {a a' : α} (hk : l[k]? = some a) {j : Nat} (hj : j < m) {x : Value} (ha : f a' = (f a).set j x) :
    (l.flatMap f).set (k * m + j) x = (l.set k a').flatMap f := by
  induction l generalizing k with
  | nil => simp at hk
  | cons b l ih =>
    cases k with
    | zero =>
      simp only [List.getElem?_cons_zero, Option.some.injEq] at hk
      subst hk
      simp only [List.set_cons_zero, List.flatMap_cons, Nat.zero_mul, Nat.zero_add]
      rw [List.set_append_left _ _ (by rw [hf]; omega), ha]
    | succ k =>
      simp only [List.getElem?_cons_succ] at hk
      simp only [List.set_cons_succ, List.flatMap_cons]
      have e : (k + 1) * m + j = (f b).length + (k * m + j) := by rw [hf, Nat.succ_mul]; omega
      rw [e, List.set_append_right _ _ (by omega), Nat.add_sub_cancel_left, ih hk]

def LHeap.start (H : LHeap) (n : Int) (name : ByteArray) (v : LVal) : LHeap × Int :=
  match H.scope? n with
  | none => (H, 7)
  | some s =>
    if 0 ≤ s.object then (H, 7)
    else
      match s.idx name with
      | none => (H, 7)
      | some k =>
        match s.names[k]? with
        | none => (H, 7)
        | some b => (H.setNames n.toNat s (s.names.set k { b with v := v, ready := true }), 0)

section
variable {ρ : Nat → Option Role} {w : World} {hb ho : Nat} {L : HL} {H : LHeap}

theorem start_fin {w1 : World} {m k g c : Nat} {s : LScope} {b : LBind} {vk vn : Int} {vs : ByteArray} (h : HeapAt ρ w1 hb ho L H) (hm : H.scopes[m]? = some s) (hp : s.names[k]? = some b)
    (hv : L.nv m = .slice (some ⟨g, 0, none⟩) s.names.length c) :
    ∃ ρ' L', HeapAt ρ' ((((w1.setCell ⟨g, k * 6 + 1, none⟩ (.int .i64 vk)).setCell ⟨g, k * 6 + 1 + 1, none⟩ (.int .i64 vn)).setCell ⟨g, k * 6 + 1 + 2, none⟩ (.string vs)).setCell ⟨g, k * 6 + 5, none⟩ (.bool true)) hb ho L' (H.setNames m s (s.names.set k { b with v := ⟨vk, vn, vs⟩, ready := true })) ∧
      Fr ρ ρ' hb ho w1 ((((w1.setCell ⟨g, k * 6 + 1, none⟩ (.int .i64 vk)).setCell ⟨g, k * 6 + 1 + 1, none⟩ (.int .i64 vn)).setCell ⟨g, k * 6 + 1 + 2, none⟩ (.string vs)).setCell ⟨g, k * 6 + 5, none⟩ (.bool true)) := by
  have hml := getElem?_lt hm
  have hkl := getElem?_lt hp
  obtain ⟨hblk, hown⟩ := h.scp m s hm
  have hgo : g ≠ L.sb m := fun e => by
    have h1 := h.rnv m g hml (by rw [hv]; rfl)
    rw [e, h.rsb m hml] at h1
    cases h1
  rw [hv] at hown
  have hst := ((row_store3 (f := LBind.cells) (m := 6) (fun _ => rfl) hown hp (j := 1) (by omega) (x := .int .i64 vk) (y := .int .i64 vn) (z := .string vs) (a' := { b with v := ⟨vk, vn, vs⟩ }) rfl).stored (k * 6 + 5) (.bool true)).1
  rw [set_flatMap (f := LBind.cells) (m := 6) (fun _ => rfl) (k := k) (a := { b with v := ⟨vk, vn, vs⟩ }) (a' := { b with v := ⟨vk, vn, vs⟩, ready := true }) (by simp [hkl]) (by omega) rfl, List.set_set] at hst
  have far : ∀ b, b ≠ g → ((((w1.setCell ⟨g, k * 6 + 1, none⟩ (.int .i64 vk)).setCell ⟨g, k * 6 + 1 + 1, none⟩ (.int .i64 vn)).setCell ⟨g, k * 6 + 1 + 2, none⟩ (.string vs)).setCell ⟨g, k * 6 + 5, none⟩ (.bool true)).heap[b]? = w1.heap[b]? := fun b hb => by
    rw [Below.heap_setCell _ _ _ _ hb, Below.heap_setCell _ _ _ _ hb, Below.heap_setCell _ _ _ _ hb, Below.heap_setCell _ _ _ _ hb]
  refine h.setNames hm (nv' := .slice (some ⟨g, 0, none⟩) s.names.length c) (names' := s.names.set k { b with v := ⟨vk, vn, vs⟩, ready := true }) ?_ ?_ (by simp) ?_ ?_ rfl rfl rfl
  · rw [far _ (Ne.symm hgo), ← hv]; exact hblk
  · simp only [List.length_set]; exact hst
  · intro b _ _ h3
    rw [hv] at h3
    exact far b (fun e => h3 (by rw [e]; rfl))
  · intro g' hg'
    rw [hv]
    exact .inl hg'

set_option maxHeartbeats 1600000 in
theorem start_any (h : HeapAt ρ w hb ho L H) (n : Int) (name : ByteArray) (v : LVal) :
    Calls Tryd.prog 16 #[.pointer (some ⟨hb, ho, none⟩), .int .i64 n, .string name, v.agg] w fun e w' => e = .returned (errV (H.start n name v).2) ∧
      ∃ ρ' L', HeapAt ρ' w' hb ho L' (H.start n name v).1 ∧ Fr ρ ρ' hb ho w w' := by
  have hhb := h.hbLt
  obtain ⟨vk, vn, vs⟩ := v
  simp only [LVal.agg]
  have h1 := h.below ((Below.refl _ _).alloc (Nat.le_refl _) (.cells #[.int .i64 vk, .int .i64 vn, .string vs] 36))
  have hB0 : Below w.heap.size w (w.alloc (.cells #[.int .i64 vk, .int .i64 vn, .string vs] 36)) := (Below.refl _ _).alloc (Nat.le_refl _) _
  have q0 : (w.alloc (.cells #[.int .i64 vk, .int .i64 vn, .string vs] 36)).cell? ⟨w.heap.size, 0, none⟩ = some (.int .i64 vk) := World.cell?_alloc_new _ _ _ 0
  have q1 : (w.alloc (.cells #[.int .i64 vk, .int .i64 vn, .string vs] 36)).cell? ⟨w.heap.size, 1, none⟩ = some (.int .i64 vn) := World.cell?_alloc_new _ _ _ 1
  have q2 : (w.alloc (.cells #[.int .i64 vk, .int .i64 vn, .string vs] 36)).cell? ⟨w.heap.size, 2, none⟩ = some (.string vs) := World.cell?_alloc_new _ _ _ 2
  have hs : w.heap.size < (w.alloc (.cells #[.int .i64 vk, .int .i64 vn, .string vs] 36)).heap.size := by simp
  rcases hob : H.scope? n with _ | s
  · have HC := Lib.hid (scope_no h1 n hob)
    have hw : H.start n name ⟨vk, vn, vs⟩ = (H, 7) := by simp [LHeap.start, hob]
    rw [hw]
    have HH := Lib.hid h1
    have HB := Lib.hid hB0
    clear h h1 hB0 hob hw q0 q1 q2
    go_enter Tryd.func16, Tryd.ntmps16
    go_wp2_with fail
    refine HC.out.mono ?_
    rintro e w1 ⟨rfl, rfl⟩
    go_wp2
    go_ret
    exact ⟨rfl, ρ, L, HH.out, Fr.of_below hhb HB.out⟩
  obtain ⟨m, rfl, hm⟩ := LHeap.scope?_some hob
  have hml := getElem?_lt hm
  have HC := Lib.hid (scope_yes h1 m hml)
  have hc1 : (w.alloc (.cells #[.int .i64 vk, .int .i64 vn, .string vs] 36)).cell? ⟨L.sb m, 1, none⟩ = some (.int .i64 s.object) := by have := (h1.scp m s hm).1; simp [World.cell?, this]
  by_cases hso : 0 ≤ s.object
  · have hw : H.start m name ⟨vk, vn, vs⟩ = (H, 7) := by simp [LHeap.start, hob, hso]
    rw [hw]
    have HH := Lib.hid h1
    have HB := Lib.hid hB0
    clear h h1 hB0 hob hw q0 q1 q2 hm
    go_enter Tryd.func16, Tryd.ntmps16
    go_wp2_with fail
    refine HC.out.mono ?_
    rintro e w1 ⟨rfl, rfl⟩
    go_wp2
    go_ret
    exact ⟨rfl, ρ, L, HH.out, Fr.of_below hhb HB.out⟩
  have hso' : s.object < 0 := by omega
  have HBind := Lib.hid (fun w1 (hh : HeapAt ρ w1 hb ho L H) => bind_any hh m s hm name)
  rcases hk : s.idx name with _ | k
  · have hw : H.start m name ⟨vk, vn, vs⟩ = (H, 7) := by simp [LHeap.start, hob, hso, hk]
    rw [hw]
    rw [hk] at HBind
    simp only [ptrOpt] at HBind
    have HH := Lib.hid h1
    have HB := Lib.hid hB0
    clear h h1 hB0 hob hw q0 q1 q2 hm hk hso
    go_enter Tryd.func16, Tryd.ntmps16
    go_wp2_with fail
    refine HC.out.mono ?_
    rintro e w1 ⟨rfl, rfl⟩
    go_wp2_with fail
    refine (HBind.out _ HH.out).mono ?_
    rintro e w2 ⟨rfl, hB2⟩
    have HB2 := Lib.hid hB2
    clear hB2
    go_wp2
    go_ret
    exact ⟨rfl, ρ, L, HH.out.below HB2.out, Fr.of_below hhb (HB.out.trans (HB2.out.mono (Nat.le_of_lt hs)))⟩
  obtain ⟨b, hp, _⟩ := LScope.idx_some hk
  have hkl := getElem?_lt hp
  have hw : H.start m name ⟨vk, vn, vs⟩ = (H.setNames m s (s.names.set k { b with v := ⟨vk, vn, vs⟩, ready := true }), 0) := by simp [LHeap.start, hob, hso, hk, hp]
  rw [hw]
  obtain ⟨_, hown⟩ := h.scp m s hm
  rcases ownsRow_cases hown with ⟨hv, hz⟩ | ⟨g, c, hv, h2, h3, hgl⟩
  · omega
  obtain ⟨pn, ⟨pk, pm, ps⟩, pkd, prd⟩ := b
  have hrow := fun w1 (hh : HeapAt ρ w1 hb ho L H) j x => row_cell (f := LBind.cells) (m := 6) (fun _ => rfl) (hh.scp m s hm).2 (g := g) (by rw [hv]; rfl) (i := k) (j := j) (x := x) hp
  have hfz := fun w1 (hh : HeapAt ρ w1 hb ho L H) j => ownsRow_frozen (hh.scp m s hm).2 (g := g) (by rw [hv]; rfl) j
  have hgx : g ≠ w.heap.size := by omega
  have HR := Lib.hid hrow
  have HZ := Lib.hid hfz
  rw [hk, hv] at HBind
  simp only [ptrOpt, Value.ownBlock, Option.map_some] at HBind
  have HH := Lib.hid h1
  have HB := Lib.hid hB0
  have HM := Lib.hid hm
  have HP := Lib.hid hp
  have HV := Lib.hid hv
  clear h h1 hB0 hob hw hm hk hso hp hown hv hrow hfz
  go_enter Tryd.func16, Tryd.ntmps16
  go_wp2_with fail
  refine HC.out.mono ?_
  rintro e w1 ⟨rfl, hw1⟩
  rw [hw1] at HH hc1 q0 q1 q2 hs HB
  clear hw1
  go_wp2_with fail
  refine (HBind.out _ HH.out).mono ?_
  rintro e w2 ⟨rfl, hB2⟩
  have hH2 := HH.out.below hB2
  have hs2 := Nat.lt_of_lt_of_le hs hB2.size
  have q0' := (hB2.cell (p := ⟨w.heap.size, 0, none⟩) hs).trans q0
  have q1' := (hB2.cell (p := ⟨w.heap.size, 1, none⟩) hs).trans q1
  have q2' := (hB2.cell (p := ⟨w.heap.size, 2, none⟩) hs).trans q2
  have HH2 := Lib.hid hH2
  have HB2 := Lib.hid (HB.out.trans (hB2.mono (Nat.le_of_lt hs)))
  clear hB2 hH2 q0 q1 q2 hc1 HH HB
  go_wp2_with fail
  refine (HBind.out _ HH2.out).mono ?_
  rintro e w3 ⟨rfl, hB3⟩
  have hH3 := HH2.out.below hB3
  have r1 := HR.out w3 hH3 1 (.int .i64 pk) rfl
  have r2 := HR.out w3 hH3 2 (.int .i64 pm) rfl
  have r3 := HR.out w3 hH3 3 (.string ps) rfl
  have r5 := HR.out w3 hH3 5 (.bool prd) rfl
  have z1 := HZ.out w3 hH3 (k * 6 + 1)
  have z2 := HZ.out w3 hH3 (k * 6 + 1 + 1)
  have z3 := HZ.out w3 hH3 (k * 6 + 1 + 2)
  have z5 := HZ.out w3 hH3 (k * 6 + 5)
  have z6 := HZ.out w3 hH3 (k * 6 + 3)
  have p0 := (hB3.cell (p := ⟨w.heap.size, 0, none⟩) hs2).trans q0'
  have p1 := (hB3.cell (p := ⟨w.heap.size, 1, none⟩) hs2).trans q1'
  have p2 := (hB3.cell (p := ⟨w.heap.size, 2, none⟩) hs2).trans q2'
  have HH3 := Lib.hid hH3
  have HB3 := Lib.hid (HB2.out.trans (hB3.mono (Nat.le_of_lt hs2)))
  clear hB3 hH3 q0' q1' q2' HH2 HB2
  go_wp2
  go_ret
  refine ⟨rfl, ?_⟩
  obtain ⟨ρ', L', hA, hF⟩ := start_fin (vk := vk) (vn := vn) (vs := vs) HH3.out HM.out HP.out HV.out
  exact ⟨ρ', L', hA, (Fr.of_below hhb HB3.out).trans hF⟩
end
end Go.Proofs.YtfanolcjgaccpaaDoor
