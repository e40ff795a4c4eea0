/- A heap of one's own: the empty one, what lies outside of it, and a chain of scopes. -/
import Derived.Test.YtgoaljfhciimhaaDoorHeapZ
namespace Go.Proofs.YtgoaljfhciimhaaDoor
open Go Go.RowKit
set_option maxRecDepth 100000

def LHeap.empty : LHeap := ⟨[], []⟩

theorem heap_new (w : World) (T : TypeId) :
    ∃ ρ L, HeapAt ρ (w.alloc (.cells #[.slice none 0 0, .slice none 0 0] T)) w.heap.size 0 L .empty ∧ ∀ b, b ≠ w.heap.size → ρ b = none := by
  refine ⟨fun b => if b = w.heap.size then some .hp else none, ⟨.slice none 0 0, .slice none 0 0, fun _ => 0, fun _ => .nilIface, fun _ => 0, fun _ => .nilIface⟩, ?_, fun b hb => if_neg hb⟩
  constructor
  · exact World.cell?_alloc_new _ _ _ 0
  · exact World.cell?_alloc_new _ _ _ 1
  · exact World.frozen?_alloc_new _ _ _ _
  · exact World.frozen?_alloc_new _ _ _ _
  · exact ⟨rfl, .inl ⟨rfl, rfl⟩⟩
  · exact ⟨rfl, .inl ⟨rfl, rfl⟩⟩
  · intro i o h; cases h
  · intro i o h; cases h
  · simp
  · intro g h; cases h
  · intro g h; cases h
  · intro i h; exact absurd h (Nat.not_lt_zero i)
  · intro i g h; exact absurd h (Nat.not_lt_zero i)
  · intro i h; exact absurd h (Nat.not_lt_zero i)
  · intro i g h; exact absurd h (Nat.not_lt_zero i)
  · intro b hb
    by_cases e : b = w.heap.size
    · simp [e]
    · exact absurd (if_neg e) hb

/-- what lay there ahead of the heap stays -/
theorem Fr.far {ρ ρ' : Nat → Option Role} {hb ho n : Nat} {w w' : World} (a : Fr ρ ρ' hb ho w w') (hn : n ≤ w.heap.size) (hr : ∀ b, b < n → ρ b = none) : Below n w w' ∧ ∀ b, b < n → ρ' b = none :=
  ⟨⟨a.os, a.tape, a.output, a.size, fun k hk => a.block k (by omega) (hr k hk)⟩, fun b hb => a.role b (by omega) (hr b hb)⟩

/-- what a law holds of a heap of her own: the heap, and what was there ahead of it -/
structure Own (w0 : World) (ρ : Nat → Option Role) (w : World) (hb : Nat) (L : HL) (H : LHeap) : Prop where
  at' : HeapAt ρ w hb 0 L H
  old : Below w0.heap.size w0 w
  far : ∀ b, b < w0.heap.size → ρ b = none

theorem Own.step {w0 w w' : World} {ρ ρ' : Nat → Option Role} {hb : Nat} {L L' : HL} {H H' : LHeap} (o : Own w0 ρ w hb L H) (h : HeapAt ρ' w' hb 0 L' H') (f : Fr ρ ρ' hb 0 w w') : Own w0 ρ' w' hb L' H' := by
  obtain ⟨f1, f2⟩ := f.far o.old.size o.far
  exact ⟨h, o.old.trans f1, f2⟩
theorem Own.below {w0 w w' : World} {ρ : Nat → Option Role} {hb : Nat} {L : HL} {H : LHeap} (o : Own w0 ρ w hb L H) (h : Below w.heap.size w w') : Own w0 ρ w' hb L H :=
  ⟨o.at'.below h, o.old.trans (h.mono o.old.size), o.far⟩
theorem Own.drew {w0 w : World} {ρ : Nat → Option Role} {hb : Nat} {L : HL} {H : LHeap} (o : Own w0 ρ w hb L H) : Own w0 ρ w.drew hb L H :=
  ⟨o.at'.drew, o.old.drew, o.far⟩
theorem Own.grown {w0 w w' : World} {ρ : Nat → Option Role} {hb : Nat} {L : HL} {H : LHeap} {r : Option Nat} (o : Own w0 ρ w hb L H) (h : w.grownBy w' r) (hr : ∀ b, r = some b → ρ b = none ∧ w0.heap.size ≤ b) : Own w0 ρ w' hb L H := by
  refine ⟨o.at'.keep h.size fun b hb => h.block b (o.at'.live b hb) fun e => hb (hr b e.symm).1, o.old.trans ⟨h.os, h.tape, h.output, h.size, fun k hk => h.block k (Nat.lt_of_lt_of_le hk o.old.size) fun e => ?_⟩, o.far⟩
  have := (hr k e.symm).2
  omega

/-- a block beside the heap -/
theorem Fr.beside {ρ ρ' : Nat → Option Role} {hb : Nat} {w w' : World} (f : Fr ρ ρ' hb 0 w w') {b : Nat} (hr : ρ b = none) (hl : b < w.heap.size) : w'.heap[b]? = w.heap[b]? ∧ ρ' b = none ∧ b < w'.heap.size :=
  ⟨f.block b hl hr, f.role b hl hr, Nat.lt_of_lt_of_le hl f.size⟩
theorem HeapAt.fresh {ρ : Nat → Option Role} {w : World} {hb ho : Nat} {L : HL} {H : LHeap} (h : HeapAt ρ w hb ho L H) {b : Nat} (hb : w.heap.size ≤ b) : ρ b = none := by
  cases hr : ρ b with
  | none => rfl
  | some r => exact absurd (h.live b (by simp [hr])) (by omega)

/-! ### what the laws call -/
theorem of_any (w : World) (n : Int) :
    Calls Tryd.prog 19 #[.int .i64 n] w fun e w' => e = .returned (LVal.agg ⟨3, n, ⟨#[]⟩⟩) ∧ Below w.heap.size w w' := by
  go_enter Tryd.func19, Tryd.ntmps19
  go_wp2
  exact bodyPost_ret (v := LVal.agg ⟨3, n, ⟨#[]⟩⟩) (by simp [results, Tryd.results19, go_sem, LVal.agg]) rfl ⟨rfl, (Below.refl _ _).alloc (Nat.le_refl _) _⟩
theorem say_any (w : World) (n : ByteArray) :
    Calls Tryd.prog 28 #[.string n] w fun e w' => e = .returned (LVal.agg ⟨4, 0, n⟩) ∧ Below w.heap.size w w' := by
  go_enter Tryd.func28, Tryd.ntmps28
  go_wp2
  exact bodyPost_ret (v := LVal.agg ⟨4, 0, n⟩) (by simp [results, Tryd.results28, go_sem, LVal.agg]) rfl ⟨rfl, (Below.refl _ _).alloc (Nat.le_refl _) _⟩

/-! ### a chain of scopes -/
def chainH (n : Nat) (B : Nat → List LBind) : LHeap := ⟨[], (List.range n).map fun (i : Nat) => (⟨(i : Int) - 1, -1, B i⟩ : LScope)⟩
def updB (B : Nat → List LBind) (m : Nat) (l : List LBind) : Nat → List LBind := fun i => if i = m then l else B i

theorem chain_len (n : Nat) (B : Nat → List LBind) : (chainH n B).scopes.length = n := by simp [chainH]
theorem chain_at {n m : Nat} {B : Nat → List LBind} (h : m < n) : (chainH n B).scopes[m]? = some ⟨(m : Int) - 1, -1, B m⟩ := by simp [chainH, h]
theorem chain_scope {n m : Nat} {B : Nat → List LBind} (h : m < n) : (chainH n B).scope? (m : Int) = some ⟨(m : Int) - 1, -1, B m⟩ := by
  simp [LHeap.scope?, chain_at h]
theorem chain_none {n : Nat} {B : Nat → List LBind} : (chainH n B).scope? (-1) = none := by simp [LHeap.scope?]
theorem chain_wf (n : Nat) (B : Nat → List LBind) : (chainH n B).WF := by
  intro i s h
  have hi : i < n := by have := getElem?_lt h; rwa [chain_len] at this
  rw [chain_at hi] at h
  cases h
  constructor
  · simp only; omega
  · simp only; omega
theorem chain_add {n : Nat} {B : Nat → List LBind} (h : B n = []) : ({ chainH n B with scopes := (chainH n B).scopes ++ [⟨(n : Int) - 1, -1, []⟩] } : LHeap) = chainH (n + 1) B := by
  simp [chainH, List.range_succ, h]
theorem chain_set {n m : Nat} {B : Nat → List LBind} (h : m < n) (l : List LBind) : (chainH n B).setNames m ⟨(m : Int) - 1, -1, B m⟩ l = chainH n (updB B m l) := by
  simp only [LHeap.setNames, chainH, LHeap.mk.injEq, true_and]
  apply List.ext_getElem?
  intro j
  rw [List.getElem?_set]
  by_cases hj : m = j
  · subst hj; simp [h, updB]
  · by_cases hjn : j < n
    · simp [hj, hjn, updB, Ne.symm hj]
    · simp [hj, hjn]
theorem chain_has {n m : Nat} {B : Nat → List LBind} {name : ByteArray} (h : m < n) : (chainH n B).has m name = ((B m).findIdx? (LBind.is name)).isSome := by
  rw [has_eq (chain_scope h)]; simp [LScope.idx]
theorem chain_findF {n k : Nat} {B : Nat → List LBind} {name : ByteArray} (hk : (chainH n B).has k name = true) :
    ∀ (m f : Nat), k ≤ m → m < n → (∀ j, k < j → j ≤ m → (chainH n B).has j name = false) → m < f → (chainH n B).findF name f m = k := by
  intro m
  induction m with
  | zero =>
    intro f h1 h2 h3 h4
    obtain ⟨f, rfl⟩ : ∃ g, f = g + 1 := ⟨f - 1, by omega⟩
    have : k = 0 := by omega
    subst this
    rw [find_some (chain_scope h2), if_pos hk]
  | succ m ih =>
    intro f h1 h2 h3 h4
    obtain ⟨f, rfl⟩ : ∃ g, f = g + 1 := ⟨f - 1, by omega⟩
    rw [find_some (chain_scope h2)]
    by_cases e : k = m + 1
    · subst e; rw [if_pos hk]
    · rw [h3 (m + 1) (by omega) (Nat.le_refl _)]
      simp only [Bool.false_eq_true, if_false]
      rw [show ((m + 1 : Nat) : Int) - 1 = (m : Int) by omega]
      exact ih f (by omega) (by omega) (fun j h5 h6 => h3 j h5 (by omega)) (by omega)
theorem chain_find {n k m : Nat} {B : Nat → List LBind} {name : ByteArray} (hk : (chainH n B).has k name = true) (hkm : k ≤ m) (hm : m < n) (h : ∀ j, k < j → j ≤ m → (chainH n B).has j name = false) : (chainH n B).find m name = k :=
  chain_findF hk m _ hkm hm h (by omega)
theorem chain_noneF {n : Nat} {B : Nat → List LBind} {name : ByteArray} : ∀ (m f : Nat), m < n → (∀ j, j ≤ m → (chainH n B).has j name = false) → (chainH n B).findF name f m = -1 := by
  intro m
  induction m with
  | zero =>
    intro f h1 h2
    cases f with
    | zero => rfl
    | succ f =>
      rw [find_some (chain_scope h1), h2 0 (Nat.le_refl _)]
      simp only [Bool.false_eq_true, if_false]
      exact find_none (by simp [LHeap.scope?])
  | succ m ih =>
    intro f h1 h2
    cases f with
    | zero => rfl
    | succ f =>
      rw [find_some (chain_scope h1), h2 _ (Nat.le_refl _)]
      simp only [Bool.false_eq_true, if_false]
      rw [show ((m + 1 : Nat) : Int) - 1 = (m : Int) by omega]
      exact ih f (by omega) fun j hj => h2 j (by omega)
theorem chain_lens {n : Nat} {B : Nat → List LBind} (hB : ∀ i, (B i).length < 1000) : ∀ (m : Nat) (s : LScope), (chainH n B).scopes[m]? = some s → s.names.length < 1099511627776 := by
  intro m s h
  have hi : m < n := by have := getElem?_lt h; rwa [chain_len] at this
  rw [chain_at hi] at h
  cases h
  have := hB m
  simp only; omega
theorem chain_objs {n : Nat} {B : Nat → List LBind} : ∀ (m : Nat) (o : LObj), (chainH n B).objects[m]? = some o → o.props.length < 1099511627776 := by
  intro m o h; simp [chainH] at h
theorem chain_declare {n m : Nat} {B : Nat → List LBind} {name : ByteArray} {kind : Int} {v : LVal} (h : m < n) (hh : (chainH n B).has m name = false) (hk : kind ≠ 1) (hk2 : kind ≠ 2) :
    (chainH n B).declare m name kind v = (chainH n (updB B m (B m ++ [⟨name, v, kind, true⟩])), 0) := by
  rw [← chain_set h]
  simp [LHeap.declare, chain_scope h, hh, hk, hk2, LHeap.setNames]
theorem chain_write {n m k : Nat} {B : Nat → List LBind} {name : ByteArray} {v : LVal} {b : LBind} (h : m < n) (hi : (B m).findIdx? (LBind.is name) = some k) (hb : (B m)[k]? = some b) (hr : b.ready = true) (h2 : b.kind ≠ 2) (h3 : b.kind ≠ 3) :
    (chainH n B).write m name v = (chainH n (updB B m ((B m).set k { b with v := v })), 0) := by
  rw [← chain_set h]
  simp [LHeap.write, chain_scope h, LScope.idx, hi, hb, hr, h2, h3]
theorem chain_read {n m k : Nat} {B : Nat → List LBind} {name : ByteArray} {b : LBind} (h : m < n) (hi : (B m).findIdx? (LBind.is name) = some k) (hb : (B m)[k]? = some b) (hr : b.ready = true) :
    (chainH n B).read m name = (b.v, 0) := by
  simp [LHeap.read, chain_scope h, LScope.idx, hi, hb, hr]
theorem chain_drop {n m k : Nat} {B : Nat → List LBind} {name : ByteArray} {b : LBind} (h : m < n) (hi : (B m).findIdx? (LBind.is name) = some k) (hb : (B m)[k]? = some b) :
    (chainH n B).drop m name = if b.kind = 4 then (chainH n (updB B m (unnamed name (B m))), true) else (chainH n B, false) := by
  rw [← chain_set h]
  simp [LHeap.drop, chain_scope h, LScope.idx, hi, hb]
theorem is_self (name : ByteArray) (v : LVal) (k : Int) (r : Bool) : LBind.is name ⟨name, v, k, r⟩ = true := by simp [LBind.is, sameS]
theorem idx_self (name : ByteArray) (v : LVal) (k : Int) (r : Bool) : [(⟨name, v, k, r⟩ : LBind)].findIdx? (LBind.is name) = some 0 := by simp [List.findIdx?_cons, is_self]
end Go.Proofs.YtgoaljfhciimhaaDoor
