/- The law HeapLate: what its calls answer. -/
import Derived.Test.YtgoaljfhciimhaaDoorHeapN
import Derived.Test.YtgoaljfhciimhaaDoorStart
import Derived.Test.YtgoaljfhciimhaaDoorTell
namespace Go.Proofs.YtgoaljfhciimhaaDoor
open Go Go.RowKit
set_option maxRecDepth 100000

def lateH (l : List LBind) : LHeap := chainH 1 (updB noB 0 l)
variable {l : List LBind} {n : ByteArray} {v v' : LVal} {kd : Int}
theorem late_set (l' : List LBind) : chainH 1 (updB (updB noB 0 l) 0 l') = lateH l' := by
  unfold lateH
  congr 1
  funext i
  by_cases hi : i = 0 <;> simp [updB, hi]
theorem late_B : updB noB 0 l 0 = l := rfl
theorem late_idx (h : l.findIdx? (LBind.is n) = none) {b : LBind} (hb : LBind.is n b = true) : (l ++ [b]).findIdx? (LBind.is n) = some l.length := by
  rw [List.findIdx?_append, h]
  simp [List.findIdx?_cons, hb]
theorem late_get {b : LBind} : (l ++ [b])[l.length]? = some b := by simp
theorem late_setlast {b b' : LBind} : (l ++ [b]).set l.length b' = l ++ [b'] := by simp
theorem late_scope : (lateH l).scope? ((0 : Nat) : Int) = some ⟨((0 : Nat) : Int) - 1, -1, l⟩ := chain_scope (by omega)
theorem late_has : (lateH l).has ((0 : Nat) : Int) n = (l.findIdx? (LBind.is n)).isSome := chain_has (by omega)

theorem late_setNames (l' : List LBind) : (lateH l).setNames 0 ⟨((0 : Nat) : Int) - 1, -1, l⟩ l' = lateH l' := by
  rw [← late_set (l := l) l']
  exact chain_set (by omega) _
theorem late_declare (h : l.findIdx? (LBind.is n) = none) (hk : kd = 1 ∨ kd = 2) : (lateH l).declare ((0 : Nat) : Int) n kd v = (lateH (l ++ [⟨n, v, kd, false⟩]), 0) := by
  have hh : (lateH l).has ((0 : Nat) : Int) n = false := by rw [late_has, h]; rfl
  rw [← late_setNames (l := l) (l ++ [(⟨n, v, kd, false⟩ : LBind)])]
  unfold LHeap.declare
  rw [late_scope, hh]
  rcases hk with rfl | rfl <;> simp [LHeap.setNames]
theorem late_read0 (h : l.findIdx? (LBind.is n) = none) : (lateH (l ++ [⟨n, v, kd, false⟩])).read ((0 : Nat) : Int) n = (LVal.zero, 6) := by
  have hi := late_idx h (is_self n v kd false)
  unfold LHeap.read
  rw [late_scope]
  simp [LScope.idx, hi]
theorem late_read (h : l.findIdx? (LBind.is n) = none) : (lateH (l ++ [⟨n, v, kd, true⟩])).read ((0 : Nat) : Int) n = (v, 0) := by
  have hi := late_idx h (is_self n v kd true)
  unfold LHeap.read
  rw [late_scope]
  simp [LScope.idx, hi]
theorem late_write0 (h : l.findIdx? (LBind.is n) = none) : (lateH (l ++ [⟨n, v, kd, false⟩])).write ((0 : Nat) : Int) n v' = (lateH (l ++ [⟨n, v, kd, false⟩]), 6) := by
  have hi := late_idx h (is_self n v kd false)
  unfold LHeap.write
  rw [late_scope]
  simp [LScope.idx, hi]
theorem late_write1 (h : l.findIdx? (LBind.is n) = none) : (lateH (l ++ [⟨n, v, 1, true⟩])).write ((0 : Nat) : Int) n v' = (lateH (l ++ [⟨n, v', 1, true⟩]), 0) := by
  have hi := late_idx h (is_self n v 1 true)
  rw [← late_setNames (l := l ++ [(⟨n, v, 1, true⟩ : LBind)]) (l ++ [(⟨n, v', 1, true⟩ : LBind)])]
  unfold LHeap.write
  rw [late_scope]
  simp [LScope.idx, hi]
theorem late_write2 (h : l.findIdx? (LBind.is n) = none) : (lateH (l ++ [⟨n, v, 2, true⟩])).write ((0 : Nat) : Int) n v' = (lateH (l ++ [⟨n, v, 2, true⟩]), 1) := by
  have hi := late_idx h (is_self n v 2 true)
  unfold LHeap.write
  rw [late_scope]
  simp [LScope.idx, hi]
theorem late_start (h : l.findIdx? (LBind.is n) = none) : (lateH (l ++ [⟨n, v, kd, false⟩])).start ((0 : Nat) : Int) n v' = (lateH (l ++ [⟨n, v', kd, true⟩]), 0) := by
  have hi := late_idx h (is_self n v kd false)
  rw [← late_setNames (l := l ++ [(⟨n, v, kd, false⟩ : LBind)]) (l ++ [(⟨n, v', kd, true⟩ : LBind)])]
  unfold LHeap.start
  rw [late_scope]
  simp [LScope.idx, hi]
theorem late_lens (h : l.length < 1000) : ∀ (m : Nat) (s : LScope), (lateH l).scopes[m]? = some s → s.names.length < 1099511627776 :=
  chain_lens fun i => by by_cases hi : i = 0 <;> simp [updB, hi, noB, h]
end Go.Proofs.YtgoaljfhciimhaaDoor
