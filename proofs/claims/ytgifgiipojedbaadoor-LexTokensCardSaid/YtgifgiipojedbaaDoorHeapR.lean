/- Walks of package heap that only read. -/
import Derived.Test.YtgifgiipojedbaaDoorProg
import Derived.Test.YtgifgiipojedbaaDoorHeapM
import Derived.WalkSpells
import Derived.WalkLawsBesides
namespace Go.Proofs.YtgifgiipojedbaaDoor
open Go Go.RowKit
set_option maxRecDepth 100000

def LHeap.scope? (H : LHeap) (n : Int) : Option LScope := if n < 0 then none else H.scopes[n.toNat]?
def LHeap.object? (H : LHeap) (n : Int) : Option LObj := if n < 0 then none else H.objects[n.toNat]?

theorem ptrs_get (f : Nat → Nat) (n i : Nat) (h : i < n) : (ptrs f n)[i]? = some (.pointer (some ⟨f i, 0, none⟩)) := by simp [ptrs, h]

theorem ownsRow_cell1 {w : World} {base : Nat} {e : TypeId} {v : Value} {n : Nat} {xs : List Value} (h : w.ownsRow base e 1 v n xs) {g : Nat} (hg : v.ownBlock = some g) {i : Nat} {x : Value} (hi : xs[i]? = some x) :
    w.cell? ⟨g, i, none⟩ = some x := by
  have := h.cells hg i x hi
  rwa [show ((⟨g, 0, none⟩ : Addr).add i) = ⟨g, i, none⟩ by unfold Addr.add; split <;> simp_all] at this

section
variable {ρ : Nat → Option Role} {w : World} {hb ho : Nat} {L : HL} {H : LHeap}

set_option maxHeartbeats 400000 in
theorem scope_no (h : HeapAt ρ w hb ho L H) (n : Int) (hn : H.scope? n = none) :
    Calls Tryd.prog 53 #[.pointer (some ⟨hb, ho, none⟩), .int .i64 n] w fun e w' => e = .returned (.tuple #[.pointer none, .bool false]) ∧ w = w' := by
  have hc := h.cellS
  by_cases h0 : n < 0
  · clear h
    go_enter Tryd.func53, Tryd.ntmps53
    go_wp2
    go_ret2
    exact ⟨rfl, rfl⟩
  · obtain ⟨m, rfl⟩ := Int.eq_ofNat_of_zero_le (by omega : 0 ≤ n)
    have hm : H.scopes.length ≤ m := by simpa [LHeap.scope?, h0] using hn
    rcases ownsRow_cases h.rowS with ⟨hv, hz⟩ | ⟨g, cap, hv, h1, h2, _⟩
    · rw [hv] at hc
      clear h hn h0 hv
      go_enter Tryd.func53, Tryd.ntmps53
      go_wp2
      go_ret2
      exact ⟨rfl, rfl⟩
    · rw [hv] at hc
      clear h hn h0 hv
      unfold maxLen at h2
      go_enter Tryd.func53, Tryd.ntmps53
      go_wp2
      go_ret2
      exact ⟨rfl, rfl⟩

set_option maxHeartbeats 400000 in
theorem scope_yes (h : HeapAt ρ w hb ho L H) (m : Nat) (hn : m < H.scopes.length) :
    Calls Tryd.prog 53 #[.pointer (some ⟨hb, ho, none⟩), .int .i64 m] w fun e w' => e = .returned (.tuple #[.pointer (some ⟨L.sb m, 0, none⟩), .bool true]) ∧ w = w' := by
  have hc := h.cellS
  rcases ownsRow_cases h.rowS with ⟨hv, hz⟩ | ⟨g, cap, hv, h1, h2, _⟩
  · omega
  · have hp := ownsRow_cell1 h.rowS (g := g) (by rw [hv]; rfl) (ptrs_get L.sb _ m hn)
    rw [hv] at hc
    clear h hv
    unfold maxLen at h2
    go_enter Tryd.func53, Tryd.ntmps53
    go_wp2
    go_ret2
    exact ⟨rfl, rfl⟩

set_option maxHeartbeats 400000 in
theorem object_no (h : HeapAt ρ w hb ho L H) (n : Int) (hn : H.object? n = none) :
    Calls Tryd.prog 49 #[.pointer (some ⟨hb, ho, none⟩), .int .i64 n] w fun e w' => e = .returned (.tuple #[.pointer none, .bool false]) ∧ w = w' := by
  have hc := h.cellO
  by_cases h0 : n < 0
  · clear h
    go_enter Tryd.func49, Tryd.ntmps49
    go_wp2
    go_ret2
    exact ⟨rfl, rfl⟩
  · obtain ⟨m, rfl⟩ := Int.eq_ofNat_of_zero_le (by omega : 0 ≤ n)
    have hm : H.objects.length ≤ m := by simpa [LHeap.object?, h0] using hn
    rcases ownsRow_cases h.rowO with ⟨hv, hz⟩ | ⟨g, cap, hv, h1, h2, _⟩
    · rw [hv] at hc
      clear h hn h0 hv
      go_enter Tryd.func49, Tryd.ntmps49
      go_wp2
      go_ret2
      exact ⟨rfl, rfl⟩
    · rw [hv] at hc
      clear h hn h0 hv
      unfold maxLen at h2
      go_enter Tryd.func49, Tryd.ntmps49
      go_wp2
      go_ret2
      exact ⟨rfl, rfl⟩

set_option maxHeartbeats 400000 in
theorem object_yes (h : HeapAt ρ w hb ho L H) (m : Nat) (hn : m < H.objects.length) :
    Calls Tryd.prog 49 #[.pointer (some ⟨hb, ho, none⟩), .int .i64 m] w fun e w' => e = .returned (.tuple #[.pointer (some ⟨L.ob m, 0, none⟩), .bool true]) ∧ w = w' := by
  have hc := h.cellO
  rcases ownsRow_cases h.rowO with ⟨hv, hz⟩ | ⟨g, cap, hv, h1, h2, _⟩
  · omega
  · have hp := ownsRow_cell1 h.rowO (g := g) (by rw [hv]; rfl) (ptrs_get L.ob _ m hn)
    rw [hv] at hc
    clear h hv
    unfold maxLen at h2
    go_enter Tryd.func49, Tryd.ntmps49
    go_wp2
    go_ret2
    exact ⟨rfl, rfl⟩
end
end Go.Proofs.YtgifgiipojedbaaDoor
