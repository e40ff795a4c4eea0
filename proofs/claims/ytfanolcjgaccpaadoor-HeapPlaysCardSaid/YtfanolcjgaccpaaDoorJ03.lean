/- Read. -/
import Derived.Test.YtfanolcjgaccpaaDoorJ02
namespace Go.Proofs.YtfanolcjgaccpaaDoor
open Go Go.RowKit
set_option maxRecDepth 100000

/-- an error's value: nil for 0 -/
def errV (c : Int) : Value := if c = 0 then .nilIface else .iface 47 (.int .i64 c)
def LHeap.read (H : LHeap) (n : Int) (name : ByteArray) : LVal × Int :=
  match H.scope? n with
  | none => (LVal.zero, 7)
  | some s =>
    if s.object < 0 then
      match (s.idx name).bind fun k => s.names[k]? with
      | none => (LVal.zero, 7)
      | some b => if b.ready then (b.v, 0) else (LVal.zero, 6)
    else
      match H.get s.object name with
      | none => (LVal.zero, 7)
      | some v => (v, 0)

section
variable {ρ : Nat → Option Role} {w : World} {hb ho : Nat} {L : HL} {H : LHeap}

theorem box_facts {w w1 : World} {k n : Int} {s : ByteArray} {T : TypeId} (hB : Below (w.alloc (.cells #[.int .i64 k, .int .i64 n, .string s] T)).heap.size (w.alloc (.cells #[.int .i64 k, .int .i64 n, .string s] T)) w1) :
    w1.cell? ⟨w.heap.size, 0, none⟩ = some (.int .i64 k) ∧ w1.cell? ⟨w.heap.size, 1, none⟩ = some (.int .i64 n) ∧ w1.cell? ⟨w.heap.size, 2, none⟩ = some (.string s) ∧
    w1.frozen? ⟨w.heap.size, 0, none⟩ = false ∧ w1.frozen? ⟨w.heap.size, 1, none⟩ = false ∧ w1.frozen? ⟨w.heap.size, 2, none⟩ = false ∧ w.heap.size < w1.heap.size ∧ Below w.heap.size w w1 :=
  ⟨below_newcell hB 0 _ rfl, below_newcell hB 1 _ rfl, below_newcell hB 2 _ rfl, below_newfrozen hB 0, below_newfrozen hB 1, below_newfrozen hB 2, below_newsize hB, below_old hB⟩

set_option maxHeartbeats 800000 in
theorem read_any (h : HeapAt ρ w hb ho L H) (n : Int) (name : ByteArray) :
    Calls Tryd.prog 20 #[.pointer (some ⟨hb, ho, none⟩), .int .i64 n, .string name] w fun e w' => e = .returned (.tuple #[(H.read n name).1.agg, errV (H.read n name).2]) ∧ Below w.heap.size w w' := by
  have h1 : ∀ o, HeapAt ρ (w.alloc o) hb ho L H := fun o => h.below ((Below.refl _ _).alloc (Nat.le_refl _) _)
  have HC := Lib.hid (has_any (h1 (.cells #[.int .i64 0, .int .i64 0, .string ⟨#[]⟩] 36)) n name)
  by_cases hq : H.has n name = true
  · rw [hq] at HC
    obtain ⟨s, hob, hhas⟩ : ∃ s, H.scope? n = some s ∧ (if s.object < 0 then (s.idx name).isSome else (H.get s.object name).isSome) = true := by
      rcases hob : H.scope? n with _ | s
      · simp [LHeap.has, hob] at hq
      · exact ⟨s, rfl, by rw [← has_eq hob]; exact hq⟩
    obtain ⟨m, rfl, hm⟩ := LHeap.scope?_some hob
    have hml := getElem?_lt hm
    rcases ownsRow_cases h.rowS with ⟨hvs, hz⟩ | ⟨gs, cs, hvs, hs1, hs2, hgs⟩
    · omega
    unfold maxLen at hs2
    have hread : H.read m name = if s.object < 0 then (match (s.idx name).bind fun k => s.names[k]? with | none => (LVal.zero, 7) | some b => if b.ready then (b.v, 0) else (LVal.zero, 6)) else (match H.get s.object name with | none => (LVal.zero, 7) | some v => (v, 0)) := by
      simp [LHeap.read, hob]
    have facts : ∀ w1, HeapAt ρ w1 hb ho L H → w1.cell? ⟨hb, ho + 1, none⟩ = some (.slice (some ⟨gs, 0, none⟩) H.scopes.length cs) ∧ w1.cell? ⟨gs, m, none⟩ = some (.pointer (some ⟨L.sb m, 0, none⟩)) ∧ w1.cell? ⟨L.sb m, 1, none⟩ = some (.int .i64 s.object) := fun w1 hh =>
      ⟨by rw [← hvs]; exact hh.cellS, ownsRow_cell1 hh.rowS (g := gs) (by rw [hvs]; rfl) (ptrs_get L.sb _ m hml), by have := (hh.scp m s hm).1; simp [World.cell?, this]⟩
    rw [hread]
    by_cases hso : s.object < 0
    · rw [if_pos hso] at hhas ⊢
      obtain ⟨k, hk⟩ := Option.isSome_iff_exists.1 hhas
      obtain ⟨p, hp, _⟩ := LScope.idx_some hk
      have hkl := getElem?_lt hp
      obtain ⟨hblk, hown⟩ := h.scp m s hm
      rcases ownsRow_cases hown with ⟨hv, hz⟩ | ⟨g, c, hv, h2, h3, hgl⟩
      · omega
      unfold maxLen at h3
      have hbd : (s.idx name).bind (fun k => s.names[k]?) = some p := by rw [hk]; exact hp
      simp only [hbd]
      obtain ⟨pn, ⟨pk, pm, ps⟩, pkd, prd⟩ := p
      have hrow := fun w1 (hh : HeapAt ρ w1 hb ho L H) j x => row_cell (f := LBind.cells) (m := 6) (fun _ => rfl) (hh.scp m s hm).2 (g := g) (by rw [hv]; rfl) (i := k) (j := j) (x := x) hp
      have HF := Lib.hid facts
      have HR := Lib.hid hrow
      have HBind := Lib.hid (fun w1 (hh : HeapAt ρ w1 hb ho L H) => bind_any hh m s hm name)
      rw [hk, hv] at HBind
      simp only [ptrOpt, Value.ownBlock, Option.map_some] at HBind
      have HH := Lib.hid (h1 (.cells #[.int .i64 0, .int .i64 0, .string ⟨#[]⟩] 36))
      clear h h1 hq hob hhas hm hvs hread facts hk hp hblk hown hv hbd hrow
      cases prd
      all_goals
        simp only [if_true, Bool.false_eq_true, if_false]
        go_enter Tryd.func20, Tryd.ntmps20
        go_wp2_with fail
        refine HC.out.mono ?_
        rintro e w1 ⟨rfl, hB⟩
        obtain ⟨q0, q1, q2, f0, f1, f2, hs, hB'⟩ := box_facts hB
        have hH1 := HH.out.below hB
        obtain ⟨d0, d1, d2⟩ := HF.out w1 hH1
        have HH1 := Lib.hid hH1
        have HB := Lib.hid hB'
        clear hB hB' hH1
        go_wp2_with fail
        refine (HBind.out w1 HH1.out).mono ?_
        rintro e w2 ⟨rfl, hB2⟩
        have hH2 := HH1.out.below hB2
        have r0 := HR.out w2 hH2 5 _ rfl
        have r1 := HR.out w2 hH2 1 (.int .i64 pk) rfl
        have r2 := HR.out w2 hH2 2 (.int .i64 pm) rfl
        have r3 := HR.out w2 hH2 3 (.string ps) rfl
        have q0' := (hB2.cell (p := ⟨w.heap.size, 0, none⟩) hs).trans q0
        have q1' := (hB2.cell (p := ⟨w.heap.size, 1, none⟩) hs).trans q1
        have q2' := (hB2.cell (p := ⟨w.heap.size, 2, none⟩) hs).trans q2
        have f0' := (hB2.frozen (p := ⟨w.heap.size, 0, none⟩) hs).trans f0
        have f1' := (hB2.frozen (p := ⟨w.heap.size, 1, none⟩) hs).trans f1
        have f2' := (hB2.frozen (p := ⟨w.heap.size, 2, none⟩) hs).trans f2
        have hs' := Nat.lt_of_lt_of_le hs hB2.size
        have HB2 := Lib.hid (HB.out.trans (hB2.mono (Nat.le_of_lt hs)))
        clear hB2 hH2 q0 q1 q2 f0 f1 f2 d0 d1 d2
        go_wp2
      · refine bodyPost_ret (v := .tuple #[.agg #[.int .i64 0, .int .i64 0, .string ⟨#[]⟩], .iface 47 (.int .i64 6)]) ?_ rfl ?_
        · simp [results, Tryd.results20, go_sem, q0', q1', q2']
        · exact ⟨rfl, ((HB2.out.setCell (Nat.le_refl _) _).setCell (Nat.le_refl _) _).setCell (Nat.le_refl _) _⟩
      · refine bodyPost_ret (v := .tuple #[.agg #[.int .i64 pk, .int .i64 pm, .string ps], .nilIface]) ?_ rfl ?_
        · simp [results, Tryd.results20, go_sem, q0', q1', q2']
        · exact ⟨rfl, ((HB2.out.setCell (Nat.le_refl _) _).setCell (Nat.le_refl _) _).setCell (Nat.le_refl _) _⟩
    · rw [if_neg hso] at hhas ⊢
      obtain ⟨v, hv⟩ := Option.isSome_iff_exists.1 hhas
      simp only [hv]
      have HG := Lib.hid (fun w1 (hh : HeapAt ρ w1 hb ho L H) => get_any hh s.object name)
      rw [hv] at HG
      obtain ⟨vk, vn, vs⟩ := v
      simp only [Option.getD_some, Option.isSome_some, LVal.agg] at HG
      have HF := Lib.hid facts
      have HH := Lib.hid (h1 (.cells #[.int .i64 0, .int .i64 0, .string ⟨#[]⟩] 36))
      clear h h1 hq hob hhas hm hvs hread facts hv
      go_enter Tryd.func20, Tryd.ntmps20
      go_wp2_with fail
      refine HC.out.mono ?_
      rintro e w1 ⟨rfl, hB⟩
      obtain ⟨q0, q1, q2, f0, f1, f2, hs, hB'⟩ := box_facts hB
      have hH1 := HH.out.below hB
      obtain ⟨d0, d1, d2⟩ := HF.out w1 hH1
      have HH1 := Lib.hid hH1
      have HB := Lib.hid hB'
      clear hB hB' hH1
      go_wp2_with fail
      refine (HG.out w1 HH1.out).mono ?_
      rintro e w2 ⟨rfl, hB2⟩
      have q0' := (hB2.cell (p := ⟨w.heap.size, 0, none⟩) hs).trans q0
      have q1' := (hB2.cell (p := ⟨w.heap.size, 1, none⟩) hs).trans q1
      have q2' := (hB2.cell (p := ⟨w.heap.size, 2, none⟩) hs).trans q2
      have f0' := (hB2.frozen (p := ⟨w.heap.size, 0, none⟩) hs).trans f0
      have f1' := (hB2.frozen (p := ⟨w.heap.size, 1, none⟩) hs).trans f1
      have f2' := (hB2.frozen (p := ⟨w.heap.size, 2, none⟩) hs).trans f2
      have hs' := Nat.lt_of_lt_of_le hs hB2.size
      have HB2 := Lib.hid (HB.out.trans (hB2.mono (Nat.le_of_lt hs)))
      clear hB2 q0 q1 q2 f0 f1 f2 d0 d1 d2
      go_wp2
      refine bodyPost_ret (v := .tuple #[.agg #[.int .i64 vk, .int .i64 vn, .string vs], .nilIface]) ?_ rfl ?_
      · simp [results, Tryd.results20, go_sem, q0', q1', q2', hs']
      · have h3 := ((HB2.out.setCell (p := ⟨w.heap.size, 0, none⟩) (Nat.le_refl _) (.int .i64 vk)).setCell (p := ⟨w.heap.size, 1, none⟩) (Nat.le_refl _) (.int .i64 vn)).setCell (p := ⟨w.heap.size, 2, none⟩) (Nat.le_refl _) (.string vs)
        exact ⟨rfl, h3.alloc h3.size _⟩
  · have hq' : H.has n name = false := by simpa using hq
    rw [hq'] at HC
    have hr : H.read n name = (LVal.zero, 7) := by
      unfold LHeap.has at hq'
      unfold LHeap.read
      split at hq'
      · rename_i hs; simp [hs]
      · rename_i s hs
        simp only [hs]
        split at hq'
        · have : s.idx name = none := by simpa using hq'
          rename_i hso
          rw [if_pos hso, this]; rfl
        · have : H.get s.object name = none := by simpa using hq'
          rename_i hso
          rw [if_neg hso, this]
    rw [hr]
    clear hq hq' h h1 hr
    go_enter Tryd.func20, Tryd.ntmps20
    go_wp2_with fail
    refine HC.out.mono ?_
    rintro e w1 ⟨rfl, hB⟩
    obtain ⟨q0, q1, q2, f0, f1, f2, hs, hB'⟩ := box_facts hB
    have HB := Lib.hid hB'
    clear hB hB'
    go_wp2
    refine bodyPost_ret (v := .tuple #[.agg #[.int .i64 0, .int .i64 0, .string ⟨#[]⟩], .iface 47 (.int .i64 7)]) ?_ rfl ?_
    · simp [results, Tryd.results20, go_sem, q0, q1, q2]
    · exact ⟨rfl, ((HB.out.setCell (Nat.le_refl _) _).setCell (Nat.le_refl _) _).setCell (Nat.le_refl _) _⟩
end
end Go.Proofs.YtfanolcjgaccpaaDoor
