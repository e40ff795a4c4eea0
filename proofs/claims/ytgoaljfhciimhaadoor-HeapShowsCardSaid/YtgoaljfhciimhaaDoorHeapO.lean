/- The law HeapShadows: what its calls answer on its chain of scopes. -/
import Derived.Test.YtgoaljfhciimhaaDoorHeapN
namespace Go.Proofs.YtgoaljfhciimhaaDoor
open Go Go.RowKit
set_option maxRecDepth 100000

def oneB (name : ByteArray) (v : Int) : Nat → List LBind := updB noB 0 [⟨name, ⟨3, v, ⟨#[]⟩⟩, 0, true⟩]
def twoB (name : ByteArray) (v : Int) (x : LVal) (m : Nat) : Nat → List LBind := updB (oneB name v) m [⟨name, x, 4, true⟩]
variable {name : ByteArray} {v : Int} {x : LVal} {m n : Nat}
theorem oneB_0 : oneB name v 0 = [⟨name, ⟨3, v, ⟨#[]⟩⟩, 0, true⟩] := rfl
theorem oneB_pos (h : 0 < m) : oneB name v m = [] := by
  obtain ⟨k, rfl⟩ : ∃ k, m = k + 1 := ⟨m - 1, by omega⟩
  rfl
theorem twoB_m : twoB name v x m m = [⟨name, x, 4, true⟩] := by simp [twoB, updB]
theorem twoB_ne {i : Nat} (h : i ≠ m) : twoB name v x m i = oneB name v i := by simp [twoB, updB, h]
theorem one_declare (hm : 0 < m) (h : m < n) : (chainH n (oneB name v)).declare m name 4 x = (chainH n (twoB name v x m), 0) := by
  rw [chain_declare h (by rw [chain_has h, oneB_pos hm]; rfl) (by decide) (by decide), oneB_pos hm]
  rfl
theorem two_write {x' : LVal} (h : m < n) : (chainH n (twoB name v x m)).write m name x' = (chainH n (twoB name v x' m), 0) := by
  rw [chain_write (k := 0) (b := ⟨name, x, 4, true⟩) h (by rw [twoB_m]; exact idx_self _ _ _ _) (by rw [twoB_m]; rfl) rfl (by simp) (by simp)]
  congr 2
  funext i
  by_cases hi : i = m
  · subst hi; simp [updB, twoB_m]
  · simp [updB, hi, twoB_ne hi]
theorem two_drop (h : m < n) (hm : 0 < m) : (chainH n (twoB name v x m)).drop m name = (chainH n (oneB name v), true) := by
  rw [chain_drop (k := 0) (b := ⟨name, x, 4, true⟩) h (by rw [twoB_m]; exact idx_self _ _ _ _) (by rw [twoB_m]; rfl), if_pos rfl]
  congr 2
  funext i
  by_cases hi : i = m
  · subst hi; simp [updB, twoB_m, oneB_pos hm, unnamed, is_self]
  · simp [updB, hi, twoB_ne hi]
theorem one_drop (h : 0 < n) : (chainH n (oneB name v)).drop (0 : Nat) name = (chainH n (oneB name v), false) := by
  rw [chain_drop (k := 0) (b := ⟨name, ⟨3, v, ⟨#[]⟩⟩, 0, true⟩) h (by rw [oneB_0]; exact idx_self _ _ _ _) (by rw [oneB_0]; rfl), if_neg (by simp)]
theorem one_find (h : m < n) : (chainH n (oneB name v)).find m name = (0 : Nat) := by
  refine chain_find (by rw [chain_has (by omega), oneB_0, idx_self]; rfl) (Nat.zero_le _) h fun j h1 h2 => ?_
  rw [chain_has (by omega), oneB_pos h1]; rfl
theorem two_find {l : Nat} (hm : 0 < m) (hl : m ≤ l) (h : l < n) : (chainH n (twoB name v x m)).find l name = m := by
  refine chain_find (by rw [chain_has (by omega), twoB_m, idx_self]; rfl) hl h fun j h1 h2 => ?_
  rw [chain_has (by omega), twoB_ne (by omega), oneB_pos (by omega)]; rfl
theorem two_read (h : m < n) : (chainH n (twoB name v x m)).read m name = (x, 0) :=
  chain_read (k := 0) (b := ⟨name, x, 4, true⟩) h (by rw [twoB_m]; exact idx_self _ _ _ _) (by rw [twoB_m]; rfl) rfl
theorem two_read0 (h : m < n) (hm : 0 < m) : (chainH n (twoB name v x m)).read (0 : Nat) name = (⟨3, v, ⟨#[]⟩⟩, 0) :=
  chain_read (k := 0) (b := ⟨name, ⟨3, v, ⟨#[]⟩⟩, 0, true⟩) (by omega) (by rw [twoB_ne (by omega), oneB_0]; exact idx_self _ _ _ _) (by rw [twoB_ne (by omega), oneB_0]; rfl) rfl
theorem one_lens : ∀ i, (oneB name v i).length < 1000 := by
  intro i; cases i <;> simp [oneB, updB, noB]

/-- a value in a box beside the heap -/
structure Box (ρ : Nat → Option Role) (w : World) (b : Nat) (x : LVal) : Prop where
  c0 : w.cell? ⟨b, 0, none⟩ = some (.int .i64 x.kind)
  c1 : w.cell? ⟨b, 1, none⟩ = some (.int .i64 x.n)
  c2 : w.cell? ⟨b, 2, none⟩ = some (.string x.s)
  far : ρ b = none
  lt : b < w.heap.size
theorem Box.keep {ρ ρ' : Nat → Option Role} {w w' : World} {b : Nat} {x : LVal} (o : Box ρ w b x) (hb : w'.heap[b]? = w.heap[b]?) (hf : ρ' b = none) (hs : w.heap.size ≤ w'.heap.size) : Box ρ' w' b x :=
  ⟨(World.cell?_of_block hb).trans o.c0, (World.cell?_of_block hb).trans o.c1, (World.cell?_of_block hb).trans o.c2, hf, Nat.lt_of_lt_of_le o.lt hs⟩
theorem Box.step {ρ ρ' : Nat → Option Role} {w w' : World} {hb b : Nat} {x : LVal} (o : Box ρ w b x) (f : Fr ρ ρ' hb 0 w w') : Box ρ' w' b x :=
  o.keep (f.block b o.lt o.far) (f.role b o.lt o.far) f.size
theorem Box.below {ρ : Nat → Option Role} {w w' : World} {b : Nat} {x : LVal} (o : Box ρ w b x) (f : Below w.heap.size w w') : Box ρ w' b x :=
  o.keep (f.block b o.lt) o.far f.size
theorem Box.drew {ρ : Nat → Option Role} {w : World} {b : Nat} {x : LVal} (o : Box ρ w b x) : Box ρ w.drew b x := o.keep rfl o.far (Nat.le_refl _)
theorem Box.new {ρ : Nat → Option Role} {w : World} {hb : Nat} {L : HL} {H : LHeap} (x : LVal) (o : HeapAt ρ w hb 0 L H) (T : TypeId) : Box ρ (w.alloc (.cells #[.int .i64 x.kind, .int .i64 x.n, .string x.s] T)) w.heap.size x :=
  ⟨World.cell?_alloc_new _ _ _ 0, World.cell?_alloc_new _ _ _ 1, World.cell?_alloc_new _ _ _ 2, o.fresh (Nat.le_refl _), by simp⟩

section
variable {w0 w : World} {ρ : Nat → Option Role} {hb : Nat} {L : HL}
theorem sh_find1 (o : Own w0 ρ w hb L (chainH n (oneB name v))) (h : m < n) :
    Calls Tryd.prog 41 #[.pointer (some ⟨hb, 0, none⟩), .int .i64 m, .string name] w fun e w' => e = .returned (.int .i64 0) ∧ Below w.heap.size w w' := by
  have := find_at o.at' (chain_wf _ _) (m : Int) name
  rw [one_find h] at this
  exact this
theorem sh_find2 {l : Nat} (o : Own w0 ρ w hb L (chainH n (twoB name v x m))) (hm : 0 < m) (hl : m ≤ l) (h : l < n) :
    Calls Tryd.prog 41 #[.pointer (some ⟨hb, 0, none⟩), .int .i64 l, .string name] w fun e w' => e = .returned (.int .i64 m) ∧ Below w.heap.size w w' := by
  have := find_at o.at' (chain_wf _ _) (l : Int) name
  rw [two_find hm hl h] at this
  exact this
theorem sh_declare (o : Own w0 ρ w hb L (chainH n (oneB name v))) (hm : 0 < m) (h : m < n) :
    Calls Tryd.prog 18 #[.pointer (some ⟨hb, 0, none⟩), .int .i64 m, .string name, .int .i64 4, x.agg] w fun e w' => e = .returned .nilIface ∧
      ∃ ρ' L', HeapAt ρ' w' hb 0 L' (chainH n (twoB name v x m)) ∧ Fr ρ ρ' hb 0 w w' := by
  have := declare_any o.at' (m : Int) name 4 x (chain_lens one_lens)
  rw [one_declare hm h] at this
  exact this
theorem sh_write {x' : LVal} (o : Own w0 ρ w hb L (chainH n (twoB name v x m))) (h : m < n) :
    Calls Tryd.prog 21 #[.pointer (some ⟨hb, 0, none⟩), .int .i64 m, .string name, x'.agg] w fun e w' => e = .returned .nilIface ∧
      ∃ ρ' L', HeapAt ρ' w' hb 0 L' (chainH n (twoB name v x' m)) ∧ Fr ρ ρ' hb 0 w w' := by
  have := write_any o.at' (m : Int) name x' chain_objs
  rw [two_write h] at this
  exact this
theorem sh_read (o : Own w0 ρ w hb L (chainH n (twoB name v x m))) (h : m < n) :
    Calls Tryd.prog 20 #[.pointer (some ⟨hb, 0, none⟩), .int .i64 m, .string name] w fun e w' => e = .returned (.tuple #[x.agg, .nilIface]) ∧ Below w.heap.size w w' := by
  have := read_any o.at' (m : Int) name
  rw [two_read h] at this
  exact this
theorem sh_read0 (o : Own w0 ρ w hb L (chainH n (twoB name v x m))) (hm : 0 < m) (h : m < n) :
    Calls Tryd.prog 20 #[.pointer (some ⟨hb, 0, none⟩), .int .i64 0, .string name] w fun e w' => e = .returned (.tuple #[.agg #[.int .i64 3, .int .i64 v, .string ⟨#[]⟩], .nilIface]) ∧ Below w.heap.size w w' := by
  have := read_any o.at' ((0 : Nat) : Int) name
  rw [two_read0 h hm] at this
  exact this
theorem sh_drop (o : Own w0 ρ w hb L (chainH n (twoB name v x m))) (hm : 0 < m) (h : m < n) :
    Calls Tryd.prog 38 #[.pointer (some ⟨hb, 0, none⟩), .int .i64 m, .string name] w fun e w' => e = .returned (.bool true) ∧
      ∃ ρ' L', HeapAt ρ' w' hb 0 L' (chainH n (oneB name v)) ∧ Fr ρ ρ' hb 0 w w' := by
  have := drop_any o.at' (m : Int) name
  rw [two_drop h hm] at this
  exact this
theorem sh_drop0 (o : Own w0 ρ w hb L (chainH n (oneB name v))) (h : 0 < n) :
    Calls Tryd.prog 38 #[.pointer (some ⟨hb, 0, none⟩), .int .i64 0, .string name] w fun e w' => e = .returned (.bool false) ∧
      ∃ ρ' L', HeapAt ρ' w' hb 0 L' (chainH n (oneB name v)) ∧ Fr ρ ρ' hb 0 w w' := by
  have := drop_any o.at' ((0 : Nat) : Int) name
  rw [one_drop h] at this
  exact this
end
end Go.Proofs.YtgoaljfhciimhaaDoor
