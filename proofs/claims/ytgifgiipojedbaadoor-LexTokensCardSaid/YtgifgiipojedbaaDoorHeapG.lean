/- Get, Has, Find, Read. -/
import Derived.Test.YtgifgiipojedbaaDoorHeapI
namespace Go.Proofs.YtgifgiipojedbaaDoor
open Go Go.RowKit
set_option maxRecDepth 100000

def LVal.zero : LVal := ⟨0, 0, ⟨#[]⟩⟩
def LHeap.get (H : LHeap) (n : Int) (name : ByteArray) : Option LVal := (H.object? n).bind fun o => (o.idx name).bind fun k => (o.props[k]?).map (·.v)

theorem LHeap.object?_some {H : LHeap} {n : Int} {o : LObj} (h : H.object? n = some o) : ∃ m : Nat, n = m ∧ H.objects[m]? = some o := by
  unfold LHeap.object? at h
  split at h
  · cases h
  · exact ⟨n.toNat, by omega, h⟩
theorem LHeap.scope?_some {H : LHeap} {n : Int} {o : LScope} (h : H.scope? n = some o) : ∃ m : Nat, n = m ∧ H.scopes[m]? = some o := by
  unfold LHeap.scope? at h
  split at h
  · cases h
  · exact ⟨n.toNat, by omega, h⟩
theorem LObj.idx_some {o : LObj} {name : ByteArray} {k : Nat} (h : o.idx name = some k) : ∃ p, o.props[k]? = some p ∧ sameS p.name name = true := by
  obtain ⟨h1, h2, _⟩ := List.findIdx?_eq_some_iff_getElem.1 h
  exact ⟨_, List.getElem?_eq_getElem h1, h2⟩
theorem LScope.idx_some {o : LScope} {name : ByteArray} {k : Nat} (h : o.idx name = some k) : ∃ p, o.names[k]? = some p ∧ sameS p.name name = true := by
  obtain ⟨h1, h2, _⟩ := List.findIdx?_eq_some_iff_getElem.1 h
  exact ⟨_, List.getElem?_eq_getElem h1, h2⟩

section
variable {ρ : Nat → Option Role} {w : World} {hb ho : Nat} {L : HL} {H : LHeap}

theorem get_none {n : Int} {name : ByteArray} (hob : H.object? n = none) : H.get n name = none := by simp [LHeap.get, hob]

set_option maxHeartbeats 400000 in
theorem get_any (h : HeapAt ρ w hb ho L H) (n : Int) (name : ByteArray) :
    Calls Tryd.prog 26 #[.pointer (some ⟨hb, ho, none⟩), .int .i64 n, .string name] w fun e w' => e = .returned (.tuple #[((H.get n name).getD LVal.zero).agg, .bool (H.get n name).isSome]) ∧ Below w.heap.size w w' := by
  have h1 : ∀ o, HeapAt ρ (w.alloc o) hb ho L H := fun o => h.below ((Below.refl _ _).alloc (Nat.le_refl _) _)
  rcases hob : H.object? n with _ | o
  · have HC := Lib.hid (object_no (h1 (.cells #[.int .i64 0, .int .i64 0, .string ⟨#[]⟩] 36)) n hob)
    rw [get_none hob]
    clear h h1 hob
    go_enter Tryd.func26, Tryd.ntmps26
    go_wp2_with fail
    refine HC.out.mono ?_
    rintro e w1 ⟨rfl, rfl⟩
    go_wp2
    exact bodyPost_ret (v := .tuple #[LVal.zero.agg, .bool false]) (by simp [results, Tryd.results26, go_sem, LVal.agg, LVal.zero]) rfl ⟨rfl, (Below.refl _ _).alloc (Nat.le_refl _) _⟩
  · obtain ⟨m, rfl, hm⟩ := LHeap.object?_some hob
    obtain ⟨hblk, hown⟩ := h.obj m o hm
    have hlt : L.ob m < w.heap.size := (Array.getElem?_eq_some_iff.1 hblk).1
    have hc0 : w.cell? ⟨L.ob m, 0, none⟩ = some (L.pv m) := by simp [World.cell?, hblk]
    have HC := Lib.hid (object_yes (h1 (.cells #[.int .i64 0, .int .i64 0, .string ⟨#[]⟩] 36)) m (getElem?_lt hm))
    have HF := Lib.hid (find_any (h1 (.cells #[.int .i64 0, .int .i64 0, .string ⟨#[]⟩] 36)) m o hm name)
    rcases hk : o.idx name with _ | k
    · have hg : H.get m name = none := by simp [LHeap.get, hob, hk]
      rw [hg]
      rw [hk] at HF
      clear h h1 hob hg hk hm hblk hown hc0 hlt
      go_enter Tryd.func26, Tryd.ntmps26
      go_wp2_with fail
      refine HC.out.mono ?_
      rintro e w1 ⟨rfl, rfl⟩
      go_wp2_with fail
      refine HF.out.mono ?_
      rintro e w1 ⟨rfl, hB⟩
      simp only [optI]
      have q0 := below_newcell hB 0 (.int .i64 0) rfl
      have q1 := below_newcell hB 1 (.int .i64 0) rfl
      have q2 := below_newcell hB 2 (.string ⟨#[]⟩) rfl
      have f0 := below_newfrozen hB 0
      have f1 := below_newfrozen hB 1
      have f2 := below_newfrozen hB 2
      have hs := below_newsize hB
      have hB' := Lib.hid (below_old hB)
      clear hB
      go_wp2
      refine bodyPost_ret (v := .tuple #[LVal.zero.agg, .bool false]) ?_ rfl ?_
      · simp [results, Tryd.results26, go_sem, LVal.agg, LVal.zero, q0, q1, q2]
      · exact ⟨rfl, ((hB'.out.setCell (Nat.le_refl _) _).setCell (Nat.le_refl _) _).setCell (Nat.le_refl _) _⟩
    · obtain ⟨p, hp, _⟩ := LObj.idx_some hk
      have hg : H.get m name = some p.v := by simp [LHeap.get, hob, hk, hp]
      rw [hg]
      rw [hk] at HF
      obtain ⟨pn, ⟨pk, pm, ps⟩, pf⟩ := p
      have hkl := getElem?_lt hp
      rcases ownsRow_cases hown with ⟨hv, hz⟩ | ⟨g, c, hv, h2, h3, hgl⟩
      · omega
      rw [hv] at hc0
      have hrow := fun j x => row_cell (f := LProp.cells) (m := 5) (fun _ => rfl) hown (g := g) (by rw [hv]; rfl) (i := k) (j := j) (x := x) hp
      have r1 := hrow 1 (.int .i64 pk) rfl
      have r2 := hrow 2 (.int .i64 pm) rfl
      have r3 := hrow 3 (.string ps) rfl
      clear h h1 hob hg hk hm hblk hown hrow hp hv
      unfold maxLen at h3
      go_enter Tryd.func26, Tryd.ntmps26
      go_wp2_with fail
      refine HC.out.mono ?_
      rintro e w1 ⟨rfl, rfl⟩
      go_wp2_with fail
      refine HF.out.mono ?_
      rintro e w1 ⟨rfl, hB⟩
      simp only [optI]
      have q0 := below_newcell hB 0 (.int .i64 0) rfl
      have q1 := below_newcell hB 1 (.int .i64 0) rfl
      have q2 := below_newcell hB 2 (.string ⟨#[]⟩) rfl
      have f0 := below_newfrozen hB 0
      have f1 := below_newfrozen hB 1
      have f2 := below_newfrozen hB 2
      have hs := below_newsize hB
      have hB' := below_old hB
      have c0 := (hB'.cell (p := ⟨L.ob m, 0, none⟩) hlt).trans hc0
      have c1 := (hB'.cell (p := ⟨g, k * 5 + 1, none⟩) hgl).trans r1
      have c2 := (hB'.cell (p := ⟨g, k * 5 + 2, none⟩) hgl).trans r2
      have c3 := (hB'.cell (p := ⟨g, k * 5 + 3, none⟩) hgl).trans r3
      have HB := Lib.hid hB'
      clear hB hB' r1 r2 r3 hc0
      go_wp2
      refine bodyPost_ret (v := .tuple #[.agg #[.int .i64 pk, .int .i64 pm, .string ps], .bool true]) ?_ rfl ?_
      · simp [results, Tryd.results26, go_sem, q0, q1, q2]
      · exact ⟨rfl, ((HB.out.setCell (Nat.le_refl _) _).setCell (Nat.le_refl _) _).setCell (Nat.le_refl _) _⟩
end
end Go.Proofs.YtgifgiipojedbaaDoor
