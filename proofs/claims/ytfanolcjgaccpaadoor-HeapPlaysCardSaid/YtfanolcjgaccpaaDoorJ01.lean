/- The plain model of package heap, and how it lies in memory. Walks of package heap that only read. The searches by name: slices.IndexFunc over bindings and properties; bind and find. Get, Has, Find, Read. -/
import Derived.WalkKit
import Derived.Laws.AppendOwn
import Derived.Lib.Hide
import Derived.Test.YtfanolcjgaccpaaDoorProg
import Derived.WalkSpells
import Derived.WalkLawsBesides
namespace Go.Proofs.YtfanolcjgaccpaaDoor
open Go Go.RowKit
set_option maxRecDepth 100000

structure LVal where
  kind : Int
  n : Int
  s : ByteArray
def LVal.cells (v : LVal) : List Value := [.int .i64 v.kind, .int .i64 v.n, .string v.s]
def LVal.agg (v : LVal) : Value := .agg #[.int .i64 v.kind, .int .i64 v.n, .string v.s]
structure LBind where
  name : ByteArray
  v : LVal
  kind : Int
  ready : Bool
def LBind.cells (b : LBind) : List Value := [.string b.name, .int .i64 b.v.kind, .int .i64 b.v.n, .string b.v.s, .int .i64 b.kind, .bool b.ready]
structure LProp where
  name : ByteArray
  v : LVal
  fixed : Bool
def LProp.cells (b : LProp) : List Value := [.string b.name, .int .i64 b.v.kind, .int .i64 b.v.n, .string b.v.s, .bool b.fixed]
structure LObj where
  props : List LProp
  code : Int
structure LScope where
  outer : Int
  object : Int
  names : List LBind
structure LHeap where
  objects : List LObj
  scopes : List LScope

/-- two texts are the same -/
def sameS (a b : ByteArray) : Bool := decide (a = b)
theorem sameS_iff {a b : ByteArray} : sameS a b = true ↔ a = b := by simp [sameS]
theorem sameS_refl (a : ByteArray) : sameS a a = true := by simp [sameS]
theorem toList_inj {a b : ByteArray} (h : a.toList = b.toList) : a = b := by
  obtain ⟨⟨a⟩⟩ := a; obtain ⟨⟨b⟩⟩ := b
  simpa [ByteArray.toList_eq] using h
theorem toList_beq (a b : ByteArray) : (a.toList == b.toList) = sameS a b := by
  unfold sameS
  by_cases h : a = b
  · simp [h]
  · simp only [h, decide_false, beq_eq_false_iff_ne, ne_eq]
    exact fun e => h (toList_inj e)

theorem getElem?_flatMap {α β : Type} (f : α → List β) (m : Nat) (hf : ∀ a, (f a).length = m) (l : List α) (i j : Nat) (hj : j < m) :
    (l.flatMap f)[i * m + j]? = (l[i]?).bind fun a => (f a)[j]? := by
  induction l generalizing i with
  | nil => simp
  | cons a l ih =>
    rw [List.flatMap_cons]
    cases i with
    | zero => rw [List.getElem?_append_left (by rw [hf]; omega)]; simp
    | succ i =>
      rw [List.getElem?_append_right (by rw [hf, Nat.succ_mul]; omega), hf, show (i + 1) * m + j - m = i * m + j by rw [Nat.succ_mul]; omega, ih]
      simp

/-- a cell of a row of structs -/
theorem row_cell {w : World} {base : Nat} {e : TypeId} {m : Nat} {v : Value} {n : Nat} {α : Type} {f : α → List Value} {l : List α} (hf : ∀ a, (f a).length = m)
    (h : w.ownsRow base e m v n (l.flatMap f)) {g : Nat} (hg : v.ownBlock = some g) {i j : Nat} {a : α} {x : Value} (hi : l[i]? = some a) (hj : (f a)[j]? = some x) :
    w.cell? ⟨g, i * m + j, none⟩ = some x := by
  have hjm : j < m := by rw [← hf a]; exact (List.getElem?_eq_some_iff.1 hj).1
  have := h.cells hg (i * m + j) x (by rw [getElem?_flatMap f m hf l i j hjm, hi]; exact hj)
  rwa [show ((⟨g, 0, none⟩ : Addr).add (i * m + j)) = ⟨g, i * m + j, none⟩ by unfold Addr.add; split <;> simp_all] at this

theorem ownsRow_block {w w' : World} {base : Nat} {e : TypeId} {m : Nat} {v : Value} {n : Nat} {xs : List Value} (h : w.ownsRow base e m v n xs)
    (hb : ∀ g, v.ownBlock = some g → w'.heap[g]? = w.heap[g]?) : w'.ownsRow base e m v n xs := by
  refine ⟨h.1, ?_⟩
  rcases h.2 with hn | ⟨g, cap, cur, rfl, hbg, hgg, rest⟩
  · exact .inl hn
  · exact .inr ⟨g, cap, cur, rfl, hbg, by rw [hb g rfl]; exact hgg, rest⟩

/-- the two forms of an owned row -/
theorem ownsRow_cases {w : World} {base : Nat} {e : TypeId} {m : Nat} {v : Value} {n : Nat} {xs : List Value} (h : w.ownsRow base e m v n xs) :
    (v = .slice none 0 0 ∧ n = 0) ∨ ∃ g cap, v = .slice (some ⟨g, 0, none⟩) n cap ∧ n ≤ cap ∧ cap ≤ maxLen ∧ g < w.heap.size := by
  rcases h.2 with hn | ⟨g, cap, cur, rfl, _, hgg, h1, h2, _⟩
  · exact .inl hn
  · exact .inr ⟨g, cap, rfl, h1, h2, (Array.getElem?_eq_some_iff.1 hgg).1⟩

theorem ownsRow_frozen {w : World} {base : Nat} {e : TypeId} {m : Nat} {v : Value} {n : Nat} {xs : List Value} (h : w.ownsRow base e m v n xs) {g : Nat} (hg : v.ownBlock = some g) (o : Nat) :
    w.frozen? ⟨g, o, none⟩ = false := by
  rcases h.2 with ⟨rfl, _⟩ | ⟨g', cap, cur, rfl, _, hgg, _⟩
  · cases hg
  · simp only [Value.ownBlock, Option.some.injEq] at hg
    subst hg
    simp [World.frozen?, hgg]

inductive Role
  | hp | objs | scps
  | obj (i : Nat) | prp (i : Nat) | scp (i : Nat) | nam (i : Nat)

/-- where a heap's parts lie -/
structure HL where
  vo : Value
  vs : Value
  ob : Nat → Nat
  pv : Nat → Value
  sb : Nat → Nat
  nv : Nat → Value

def ptrs (f : Nat → Nat) (n : Nat) : List Value := (List.range n).map fun i => .pointer (some ⟨f i, 0, none⟩)

structure HeapAt (ρ : Nat → Option Role) (w : World) (hb ho : Nat) (L : HL) (H : LHeap) : Prop where
  cellO : w.cell? ⟨hb, ho, none⟩ = some L.vo
  cellS : w.cell? ⟨hb, ho + 1, none⟩ = some L.vs
  frO : w.frozen? ⟨hb, ho, none⟩ = false
  frS : w.frozen? ⟨hb, ho + 1, none⟩ = false
  rowO : w.ownsRow 0 71 1 L.vo H.objects.length (ptrs L.ob H.objects.length)
  rowS : w.ownsRow 0 75 1 L.vs H.scopes.length (ptrs L.sb H.scopes.length)
  obj : ∀ i o, H.objects[i]? = some o → w.heap[L.ob i]? = some (.cells #[L.pv i, .int .i64 o.code] 74 (0, 0)) ∧ w.ownsRow 0 87 5 (L.pv i) o.props.length (o.props.flatMap LProp.cells)
  scp : ∀ i s, H.scopes[i]? = some s → w.heap[L.sb i]? = some (.cells #[.int .i64 s.outer, .int .i64 s.object, L.nv i] 78 (0, 0)) ∧ w.ownsRow 0 96 6 (L.nv i) s.names.length (s.names.flatMap LBind.cells)
  rhp : ρ hb = some .hp
  rvo : ∀ g, L.vo.ownBlock = some g → ρ g = some .objs
  rvs : ∀ g, L.vs.ownBlock = some g → ρ g = some .scps
  rob : ∀ i, i < H.objects.length → ρ (L.ob i) = some (.obj i)
  rpv : ∀ i g, i < H.objects.length → (L.pv i).ownBlock = some g → ρ g = some (.prp i)
  rsb : ∀ i, i < H.scopes.length → ρ (L.sb i) = some (.scp i)
  rnv : ∀ i g, i < H.scopes.length → (L.nv i).ownBlock = some g → ρ g = some (.nam i)
  live : ∀ b, ρ b ≠ none → b < w.heap.size

theorem getElem?_lt {α : Type} {l : List α} {i : Nat} {a : α} (h : l[i]? = some a) : i < l.length := (List.getElem?_eq_some_iff.1 h).1

/-- only the blocks that have a role matter -/
theorem HeapAt.keep {ρ : Nat → Option Role} {w w' : World} {hb ho : Nat} {L : HL} {H : LHeap} (h : HeapAt ρ w hb ho L H) (hs : w.heap.size ≤ w'.heap.size)
    (hk : ∀ b, ρ b ≠ none → w'.heap[b]? = w.heap[b]?) : HeapAt ρ w' hb ho L H where
  cellO := (World.cell?_of_block (hk hb (by simp [h.rhp]))).trans h.cellO
  cellS := (World.cell?_of_block (hk hb (by simp [h.rhp]))).trans h.cellS
  frO := (World.frozen?_of_block (hk hb (by simp [h.rhp]))).trans h.frO
  frS := (World.frozen?_of_block (hk hb (by simp [h.rhp]))).trans h.frS
  rowO := ownsRow_block h.rowO fun g hg => hk g (by simp [h.rvo g hg])
  rowS := ownsRow_block h.rowS fun g hg => hk g (by simp [h.rvs g hg])
  obj i o ho := ⟨by rw [hk _ (by simp [h.rob i (getElem?_lt ho)])]; exact (h.obj i o ho).1, ownsRow_block (h.obj i o ho).2 fun g hg => hk g (by simp [h.rpv i g (getElem?_lt ho) hg])⟩
  scp i o ho := ⟨by rw [hk _ (by simp [h.rsb i (getElem?_lt ho)])]; exact (h.scp i o ho).1, ownsRow_block (h.scp i o ho).2 fun g hg => hk g (by simp [h.rnv i g (getElem?_lt ho) hg])⟩
  rhp := h.rhp
  rvo := h.rvo
  rvs := h.rvs
  rob := h.rob
  rpv := h.rpv
  rsb := h.rsb
  rnv := h.rnv
  live b hb := Nat.lt_of_lt_of_le (h.live b hb) hs

theorem HeapAt.below {ρ : Nat → Option Role} {w w' : World} {hb ho : Nat} {L : HL} {H : LHeap} (h : HeapAt ρ w hb ho L H) (hB : Below w.heap.size w w') : HeapAt ρ w' hb ho L H :=
  h.keep hB.size fun b hb => hB.block b (h.live b hb)

/-- what a call on a heap leaves alone -/
structure Fr (ρ ρ' : Nat → Option Role) (hb ho : Nat) (w w' : World) : Prop where
  os : w'.os = w.os
  tape : w'.tape = w.tape
  output : w'.output = w.output
  size : w.heap.size ≤ w'.heap.size
  block : ∀ k, k < w.heap.size → ρ k = none → w'.heap[k]? = w.heap[k]?
  role : ∀ k, k < w.heap.size → ρ k = none → ρ' k = none
  cell : ∀ o, o ≠ ho → o ≠ ho + 1 → w'.cell? ⟨hb, o, none⟩ = w.cell? ⟨hb, o, none⟩
  frz : ∀ o, w'.frozen? ⟨hb, o, none⟩ = w.frozen? ⟨hb, o, none⟩

theorem Fr.refl (ρ : Nat → Option Role) (hb ho : Nat) (w : World) : Fr ρ ρ hb ho w w := ⟨rfl, rfl, rfl, Nat.le_refl _, fun _ _ _ => rfl, fun _ _ h => h, fun _ _ _ => rfl, fun _ => rfl⟩
theorem Fr.trans {ρ ρ' ρ'' : Nat → Option Role} {hb ho : Nat} {w w' w'' : World} (a : Fr ρ ρ' hb ho w w') (b : Fr ρ' ρ'' hb ho w' w'') : Fr ρ ρ'' hb ho w w'' :=
  ⟨b.os.trans a.os, b.tape.trans a.tape, b.output.trans a.output, Nat.le_trans a.size b.size,
   fun k hk hr => (b.block k (Nat.lt_of_lt_of_le hk a.size) (a.role k hk hr)).trans (a.block k hk hr),
   fun k hk hr => b.role k (Nat.lt_of_lt_of_le hk a.size) (a.role k hk hr),
   fun o h1 h2 => (b.cell o h1 h2).trans (a.cell o h1 h2), fun o => (b.frz o).trans (a.frz o)⟩
theorem Fr.of_below {ρ : Nat → Option Role} {hb ho : Nat} {w w' : World} (hh : hb < w.heap.size) (hB : Below w.heap.size w w') : Fr ρ ρ hb ho w w' :=
  ⟨hB.os, hB.tape, hB.output, hB.size, fun k hk _ => hB.block k hk, fun _ _ h => h, fun _ _ _ => hB.cell (p := ⟨hb, _, none⟩) hh, fun _ => hB.frozen (p := ⟨hb, _, none⟩) hh⟩
theorem HeapAt.drew {ρ : Nat → Option Role} {w : World} {hb ho : Nat} {L : HL} {H : LHeap} (h : HeapAt ρ w hb ho L H) : HeapAt ρ w.drew hb ho L H := h.keep (Nat.le_refl _) fun _ _ => rfl
theorem Fr.drew {ρ ρ' : Nat → Option Role} {hb ho : Nat} {w w' : World} (a : Fr ρ ρ' hb ho w w') : Fr ρ ρ' hb ho w w'.drew := ⟨a.os, a.tape, a.output, a.size, a.block, a.role, a.cell, a.frz⟩
theorem HeapAt.hbLt {ρ : Nat → Option Role} {w : World} {hb ho : Nat} {L : HL} {H : LHeap} (h : HeapAt ρ w hb ho L H) : hb < w.heap.size := h.live hb (by simp [h.rhp])
theorem below_newcell {w w1 : World} {c : Array Value} {T : TypeId} (hB : Below (w.alloc (.cells c T)).heap.size (w.alloc (.cells c T)) w1) (i : Nat) (x : Value) (h : c[i]? = some x) : w1.cell? ⟨w.heap.size, i, none⟩ = some x :=
  (hB.cell (p := ⟨w.heap.size, i, none⟩) (by simp)).trans ((World.cell?_alloc_new _ _ _ i).trans h)
theorem below_newfrozen {w w1 : World} {c : Array Value} {T : TypeId} (hB : Below (w.alloc (.cells c T)).heap.size (w.alloc (.cells c T)) w1) (i : Nat) : w1.frozen? ⟨w.heap.size, i, none⟩ = false :=
  (hB.frozen (p := ⟨w.heap.size, i, none⟩) (by simp)).trans (World.frozen?_alloc_new _ _ _ _)
theorem below_newsize {w w1 : World} {o : Obj} (hB : Below (w.alloc o).heap.size (w.alloc o) w1) : w.heap.size < w1.heap.size := by have := hB.size; simp at this; omega
theorem below_old {w w1 : World} {o : Obj} (hB : Below (w.alloc o).heap.size (w.alloc o) w1) : Below w.heap.size w w1 := ((Below.refl _ _).alloc (Nat.le_refl _) _).trans (hB.mono (by simp))
theorem ret_int {k : IntKind} {a b : Int} (h : a = b) : Ending.returned (.int k a) = .returned (.int k b) := by rw [h]
theorem ret_bool {a b : Bool} (h : a = b) : Ending.returned (.bool a) = .returned (.bool b) := by rw [h]
theorem ret_str {a b : ByteArray} (h : a = b) : Ending.returned (.string a) = .returned (.string b) := by rw [h]
theorem cell_old {w : World} {o : Obj} {p : Addr} (h : p.block < w.heap.size) : (w.alloc o).cell? p = w.cell? p := ((Below.refl w.heap.size w).alloc (Nat.le_refl _) o).cell h
theorem frozen_old {w : World} {o : Obj} {p : Addr} (h : p.block < w.heap.size) : (w.alloc o).frozen? p = w.frozen? p := ((Below.refl w.heap.size w).alloc (Nat.le_refl _) o).frozen h
end Go.Proofs.YtfanolcjgaccpaaDoor

namespace Go.Proofs.YtfanolcjgaccpaaDoor
open Go Go.RowKit
set_option maxRecDepth 100000

def LHeap.scope? (H : LHeap) (n : Int) : Option LScope := if n < 0 then none else H.scopes[n.toNat]?
def LHeap.object? (H : LHeap) (n : Int) : Option LObj := if n < 0 then none else H.objects[n.toNat]?

theorem ptrs_get (f : Nat → Nat) (n i : Nat) (h : i < n) : (ptrs f n)[i]? = some (.pointer (some ⟨f i, 0, none⟩)) := by simp [ptrs, h]

theorem ownsRow_cell1 {w : World} {base : Nat} {e : TypeId} {v : Value} {n : Nat} {xs : List Value} (h : w.ownsRow base e 1 v n xs) {g : Nat} (hg : v.ownBlock = some g) {i : Nat} {x : Value} (hi : xs[i]? = some x) :
    w.cell? ⟨g, i, none⟩ = some x := by
  have := h.cells hg i x hi
  rwa [show ((⟨g, 0, none⟩ : Addr).add i) = ⟨g, i, none⟩ by unfold Addr.add; split <;> simp_all] at this

section
variable {ρ : Nat → Option Role} {w : World} {hb ho : Nat} {L : HL} {H : LHeap}

set_option maxHeartbeats 400000 in
theorem scope_no (h : HeapAt ρ w hb ho L H) (n : Int) (hn : H.scope? n = none) :
    Calls Tryd.prog 43 #[.pointer (some ⟨hb, ho, none⟩), .int .i64 n] w fun e w' => e = .returned (.tuple #[.pointer none, .bool false]) ∧ w = w' := by
  have hc := h.cellS
  by_cases h0 : n < 0
  · clear h
    go_enter Tryd.func43, Tryd.ntmps43
    go_wp2
    go_ret2
    exact ⟨rfl, rfl⟩
  · obtain ⟨m, rfl⟩ := Int.eq_ofNat_of_zero_le (by omega : 0 ≤ n)
    have hm : H.scopes.length ≤ m := by simpa [LHeap.scope?, h0] using hn
    rcases ownsRow_cases h.rowS with ⟨hv, hz⟩ | ⟨g, cap, hv, h1, h2, _⟩
    · rw [hv] at hc
      clear h hn h0 hv
      go_enter Tryd.func43, Tryd.ntmps43
      go_wp2
      go_ret2
      exact ⟨rfl, rfl⟩
    · rw [hv] at hc
      clear h hn h0 hv
      unfold maxLen at h2
      go_enter Tryd.func43, Tryd.ntmps43
      go_wp2
      go_ret2
      exact ⟨rfl, rfl⟩

set_option maxHeartbeats 400000 in
theorem scope_yes (h : HeapAt ρ w hb ho L H) (m : Nat) (hn : m < H.scopes.length) :
    Calls Tryd.prog 43 #[.pointer (some ⟨hb, ho, none⟩), .int .i64 m] w fun e w' => e = .returned (.tuple #[.pointer (some ⟨L.sb m, 0, none⟩), .bool true]) ∧ w = w' := by
  have hc := h.cellS
  rcases ownsRow_cases h.rowS with ⟨hv, hz⟩ | ⟨g, cap, hv, h1, h2, _⟩
  · omega
  · have hp := ownsRow_cell1 h.rowS (g := g) (by rw [hv]; rfl) (ptrs_get L.sb _ m hn)
    rw [hv] at hc
    clear h hv
    unfold maxLen at h2
    go_enter Tryd.func43, Tryd.ntmps43
    go_wp2
    go_ret2
    exact ⟨rfl, rfl⟩

set_option maxHeartbeats 400000 in
theorem object_no (h : HeapAt ρ w hb ho L H) (n : Int) (hn : H.object? n = none) :
    Calls Tryd.prog 39 #[.pointer (some ⟨hb, ho, none⟩), .int .i64 n] w fun e w' => e = .returned (.tuple #[.pointer none, .bool false]) ∧ w = w' := by
  have hc := h.cellO
  by_cases h0 : n < 0
  · clear h
    go_enter Tryd.func39, Tryd.ntmps39
    go_wp2
    go_ret2
    exact ⟨rfl, rfl⟩
  · obtain ⟨m, rfl⟩ := Int.eq_ofNat_of_zero_le (by omega : 0 ≤ n)
    have hm : H.objects.length ≤ m := by simpa [LHeap.object?, h0] using hn
    rcases ownsRow_cases h.rowO with ⟨hv, hz⟩ | ⟨g, cap, hv, h1, h2, _⟩
    · rw [hv] at hc
      clear h hn h0 hv
      go_enter Tryd.func39, Tryd.ntmps39
      go_wp2
      go_ret2
      exact ⟨rfl, rfl⟩
    · rw [hv] at hc
      clear h hn h0 hv
      unfold maxLen at h2
      go_enter Tryd.func39, Tryd.ntmps39
      go_wp2
      go_ret2
      exact ⟨rfl, rfl⟩

set_option maxHeartbeats 400000 in
theorem object_yes (h : HeapAt ρ w hb ho L H) (m : Nat) (hn : m < H.objects.length) :
    Calls Tryd.prog 39 #[.pointer (some ⟨hb, ho, none⟩), .int .i64 m] w fun e w' => e = .returned (.tuple #[.pointer (some ⟨L.ob m, 0, none⟩), .bool true]) ∧ w = w' := by
  have hc := h.cellO
  rcases ownsRow_cases h.rowO with ⟨hv, hz⟩ | ⟨g, cap, hv, h1, h2, _⟩
  · omega
  · have hp := ownsRow_cell1 h.rowO (g := g) (by rw [hv]; rfl) (ptrs_get L.ob _ m hn)
    rw [hv] at hc
    clear h hv
    unfold maxLen at h2
    go_enter Tryd.func39, Tryd.ntmps39
    go_wp2
    go_ret2
    exact ⟨rfl, rfl⟩
end
end Go.Proofs.YtfanolcjgaccpaaDoor

namespace Go.Proofs.YtfanolcjgaccpaaDoor
open Go Go.RowKit
set_option maxRecDepth 100000

theorem findIdx?_none_of {α : Type} {p : α → Bool} {l : List α} (h : ∀ j a, j < l.length → l[j]? = some a → p a = false) : l.findIdx? p = none := by
  rw [List.findIdx?_eq_none_iff]
  intro x hx
  obtain ⟨j, hj, rfl⟩ := List.getElem_of_mem hx
  exact h j _ hj (List.getElem?_eq_getElem hj)
theorem findIdx?_some_of {α : Type} {p : α → Bool} {l : List α} {k : Nat} {a : α} (h : ∀ j a, j < k → l[j]? = some a → p a = false) (hk : l[k]? = some a) (ha : p a = true) : l.findIdx? p = some k := by
  rw [List.findIdx?_eq_some_iff_getElem]
  obtain ⟨hlt, rfl⟩ := List.getElem?_eq_some_iff.1 hk
  refine ⟨hlt, ha, fun j hj => ?_⟩
  rw [h j _ hj (List.getElem?_eq_getElem (by omega))]
  simp

def optI : Option Nat → Int | some k => k | none => -1
def LBind.is (name : ByteArray) (b : LBind) : Bool := sameS b.name name
def LProp.is (name : ByteArray) (b : LProp) : Bool := sameS b.name name
def LScope.idx (s : LScope) (name : ByteArray) : Option Nat := s.names.findIdx? (LBind.is name)
def LObj.idx (o : LObj) (name : ByteArray) : Option Nat := o.props.findIdx? (LProp.is name)

set_option maxHeartbeats 400000 in
theorem bindClosure (w : World) (bx : Addr) (name n s : ByteArray) (k m kd : Int) (rd : Bool) (hx : w.cell? bx = some (.string name)) (hb : bx.block < w.heap.size) :
    Calls Tryd.prog 56 #[.agg #[.string n, .int .i64 k, .int .i64 m, .string s, .int .i64 kd, .bool rd], .pointer (some bx)] w fun e w' => e = .returned (.bool (sameS n name)) ∧ Below w.heap.size w w' := by
  go_enter Tryd.func56, Tryd.ntmps56
  go_wp2
  go_ret
  exact ⟨by rw [← toList_beq]; rfl, (Below.refl _ _).alloc (Nat.le_refl _) _⟩

set_option maxHeartbeats 400000 in
theorem findClosure (w : World) (bx : Addr) (name n s : ByteArray) (k m : Int) (rd : Bool) (hx : w.cell? bx = some (.string name)) (hb : bx.block < w.heap.size) :
    Calls Tryd.prog 54 #[.agg #[.string n, .int .i64 k, .int .i64 m, .string s, .bool rd], .pointer (some bx)] w fun e w' => e = .returned (.bool (sameS n name)) ∧ Below w.heap.size w w' := by
  go_enter Tryd.func54, Tryd.ntmps54
  go_wp2
  go_ret
  exact ⟨by rw [← toList_beq]; rfl, (Below.refl _ _).alloc (Nat.le_refl _) _⟩

set_option maxHeartbeats 400000 in
theorem indexB (w : World) (bx : Addr) (name : ByteArray) (hx : w.cell? bx = some (.string name)) (hb : bx.block < w.heap.size) (v : Value) (l : List LBind)
    (hown : w.ownsRow 0 96 6 v l.length (l.flatMap LBind.cells)) :
    Calls Tryd.prog 55 #[v, .func (.func 56) #[] #[.pointer (some bx)]] w fun e w' => e = .returned (.int .i64 (optI (l.findIdx? (LBind.is name)))) ∧ Below w.heap.size w w' := by
  have hrow := fun g hg i j a x => row_cell (f := LBind.cells) (m := 6) (fun _ => rfl) hown (g := g) hg (i := i) (j := j) (a := a) (x := x)
  rcases ownsRow_cases hown with ⟨hv, hz⟩ | ⟨g, c, hv, h1, h2, hg⟩
  · subst hv
    have : l = [] := List.eq_nil_of_length_eq_zero hz
    subst this
    clear hown hrow hz
    go_enter Tryd.func55, Tryd.ntmps55
    go_wp2
    go_loop [8] (fun i => i = .int .i64 0) (fun _ => 0)
    case atStart => rfl
    case round =>
      subst hrel
      go_wp2
      go_ret
      exact ⟨rfl, Below.refl _ _⟩
  · subst hv
    have hc := hrow g rfl
    clear hown hrow
    obtain ⟨n, hn⟩ : ∃ n, n = l.length := ⟨_, rfl⟩
    rw [← hn] at h1 ⊢
    unfold maxLen at h2
    have HN := Lib.hid hn
    clear hn
    go_enter Tryd.func55, Tryd.ntmps55
    go_wp2
    go_loopw [5, 8] (fun _ i wr => ∃ k : Nat, i = .int .i64 k ∧ k ≤ n ∧ (∀ j a, j < k → l[j]? = some a → LBind.is name a = false) ∧ Below w.heap.size w wr) (fun _ i _ => n - (intOf i).toNat)
    case atStart => exact ⟨0, rfl, by omega, fun j a hj => by omega, Below.refl _ _⟩
    case round =>
      obtain ⟨k, rfl, hk, hno, hB⟩ := hrel
      have hlen : n = l.length := HN.out
      by_cases hlt : k < n
      · have hkl : k < l.length := by omega
        have hget : l[k]? = some l[k] := List.getElem?_eq_getElem hkl
        generalize l[k] = b at hget
        obtain ⟨bn, ⟨bk, bm, bs⟩, bkd, brd⟩ := b
        have c0 : wr.cell? ⟨g, k * 6, none⟩ = some (.string bn) := (hB.cell (p := ⟨g, k * 6, none⟩) hg).trans (hc k 0 _ _ hget rfl)
        have c1 : wr.cell? ⟨g, k * 6 + 1, none⟩ = some (.int .i64 bk) := (hB.cell (p := ⟨g, k * 6 + 1, none⟩) hg).trans (hc k 1 _ _ hget rfl)
        have c2 : wr.cell? ⟨g, k * 6 + 2, none⟩ = some (.int .i64 bm) := (hB.cell (p := ⟨g, k * 6 + 2, none⟩) hg).trans (hc k 2 _ _ hget rfl)
        have c3 : wr.cell? ⟨g, k * 6 + 3, none⟩ = some (.string bs) := (hB.cell (p := ⟨g, k * 6 + 3, none⟩) hg).trans (hc k 3 _ _ hget rfl)
        have c4 : wr.cell? ⟨g, k * 6 + 4, none⟩ = some (.int .i64 bkd) := (hB.cell (p := ⟨g, k * 6 + 4, none⟩) hg).trans (hc k 4 _ _ hget rfl)
        have c5 : wr.cell? ⟨g, k * 6 + 5, none⟩ = some (.bool brd) := (hB.cell (p := ⟨g, k * 6 + 5, none⟩) hg).trans (hc k 5 _ _ hget rfl)
        have hx' : wr.cell? bx = some (.string name) := (hB.cell hb).trans hx
        have hb' : bx.block < wr.heap.size := Nat.lt_of_lt_of_le hb hB.size
        have HG := Lib.hid hget
        have HO := Lib.hid hno
        clear hget hno hc hx hlen
        by_cases hq : sameS bn name = true
        · go_wp2_with (go_at_call 56; refine (bindClosure _ bx name bn bs bk bm bkd brd hx' hb').mono ?_; rintro e w1 ⟨rfl, hB1⟩)
          go_ret
          exact ⟨by rw [findIdx?_some_of HO.out HG.out hq]; rfl, hB.trans (hB1.mono (hB.size))⟩
        · go_wp2_with (go_at_call 56; refine (bindClosure _ bx name bn bs bk bm bkd brd hx' hb').mono ?_; rintro e w1 ⟨rfl, hB1⟩)
          go_roundw
          case rel =>
            refine ⟨k + 1, by go_num, by omega, fun j a hj ha => ?_, hB.trans (hB1.mono hB.size)⟩
            by_cases hjk : j = k
            · subst hjk
              have := HG.out.symm.trans ha
              simp only [Option.some.injEq] at this
              subst this
              simpa [LBind.is] using hq
            · exact HO.out j a (by omega) ha
          case measure => simp [intOf]; omega
      · have hkn : k = n := by omega
        subst hkn
        have HO := Lib.hid hno
        clear hno hlen hc
        go_wp2
        go_ret
        exact ⟨by rw [findIdx?_none_of (by rw [← HN.out]; exact HO.out)]; rfl, hB⟩

set_option maxHeartbeats 400000 in
theorem indexP (w : World) (bx : Addr) (name : ByteArray) (hx : w.cell? bx = some (.string name)) (hb : bx.block < w.heap.size) (v : Value) (l : List LProp)
    (hown : w.ownsRow 0 87 5 v l.length (l.flatMap LProp.cells)) :
    Calls Tryd.prog 53 #[v, .func (.func 54) #[] #[.pointer (some bx)]] w fun e w' => e = .returned (.int .i64 (optI (l.findIdx? (LProp.is name)))) ∧ Below w.heap.size w w' := by
  have hrow := fun g hg i j a x => row_cell (f := LProp.cells) (m := 5) (fun _ => rfl) hown (g := g) hg (i := i) (j := j) (a := a) (x := x)
  rcases ownsRow_cases hown with ⟨hv, hz⟩ | ⟨g, c, hv, h1, h2, hg⟩
  · subst hv
    have : l = [] := List.eq_nil_of_length_eq_zero hz
    subst this
    clear hown hrow hz
    go_enter Tryd.func53, Tryd.ntmps53
    go_wp2
    go_loop [8] (fun i => i = .int .i64 0) (fun _ => 0)
    case atStart => rfl
    case round =>
      subst hrel
      go_wp2
      go_ret
      exact ⟨rfl, Below.refl _ _⟩
  · subst hv
    have hc := hrow g rfl
    clear hown hrow
    obtain ⟨n, hn⟩ : ∃ n, n = l.length := ⟨_, rfl⟩
    rw [← hn] at h1 ⊢
    unfold maxLen at h2
    have HN := Lib.hid hn
    clear hn
    go_enter Tryd.func53, Tryd.ntmps53
    go_wp2
    go_loopw [5, 8] (fun _ i wr => ∃ k : Nat, i = .int .i64 k ∧ k ≤ n ∧ (∀ j a, j < k → l[j]? = some a → LProp.is name a = false) ∧ Below w.heap.size w wr) (fun _ i _ => n - (intOf i).toNat)
    case atStart => exact ⟨0, rfl, by omega, fun j a hj => by omega, Below.refl _ _⟩
    case round =>
      obtain ⟨k, rfl, hk, hno, hB⟩ := hrel
      have hlen : n = l.length := HN.out
      by_cases hlt : k < n
      · have hkl : k < l.length := by omega
        have hget : l[k]? = some l[k] := List.getElem?_eq_getElem hkl
        generalize l[k] = b at hget
        obtain ⟨bn, ⟨bk, bm, bs⟩, brd⟩ := b
        have c0 : wr.cell? ⟨g, k * 5, none⟩ = some (.string bn) := (hB.cell (p := ⟨g, k * 5, none⟩) hg).trans (hc k 0 _ _ hget rfl)
        have c1 : wr.cell? ⟨g, k * 5 + 1, none⟩ = some (.int .i64 bk) := (hB.cell (p := ⟨g, k * 5 + 1, none⟩) hg).trans (hc k 1 _ _ hget rfl)
        have c2 : wr.cell? ⟨g, k * 5 + 2, none⟩ = some (.int .i64 bm) := (hB.cell (p := ⟨g, k * 5 + 2, none⟩) hg).trans (hc k 2 _ _ hget rfl)
        have c3 : wr.cell? ⟨g, k * 5 + 3, none⟩ = some (.string bs) := (hB.cell (p := ⟨g, k * 5 + 3, none⟩) hg).trans (hc k 3 _ _ hget rfl)
        have c4 : wr.cell? ⟨g, k * 5 + 4, none⟩ = some (.bool brd) := (hB.cell (p := ⟨g, k * 5 + 4, none⟩) hg).trans (hc k 4 _ _ hget rfl)
        have hx' : wr.cell? bx = some (.string name) := (hB.cell hb).trans hx
        have hb' : bx.block < wr.heap.size := Nat.lt_of_lt_of_le hb hB.size
        have HG := Lib.hid hget
        have HO := Lib.hid hno
        clear hget hno hc hx hlen
        by_cases hq : sameS bn name = true
        · go_wp2_with (go_at_call 54; refine (findClosure _ bx name bn bs bk bm brd hx' hb').mono ?_; rintro e w1 ⟨rfl, hB1⟩)
          go_ret
          exact ⟨by rw [findIdx?_some_of HO.out HG.out hq]; rfl, hB.trans (hB1.mono (hB.size))⟩
        · go_wp2_with (go_at_call 54; refine (findClosure _ bx name bn bs bk bm brd hx' hb').mono ?_; rintro e w1 ⟨rfl, hB1⟩)
          go_roundw
          case rel =>
            refine ⟨k + 1, by go_num, by omega, fun j a hj ha => ?_, hB.trans (hB1.mono hB.size)⟩
            by_cases hjk : j = k
            · subst hjk
              have := HG.out.symm.trans ha
              simp only [Option.some.injEq] at this
              subst this
              simpa [LProp.is] using hq
            · exact HO.out j a (by omega) ha
          case measure => simp [intOf]; omega
      · have hkn : k = n := by omega
        subst hkn
        have HO := Lib.hid hno
        clear hno hlen hc
        go_wp2
        go_ret
        exact ⟨by rw [findIdx?_none_of (by rw [← HN.out]; exact HO.out)]; rfl, hB⟩

section
variable {ρ : Nat → Option Role} {w : World} {hb ho : Nat} {L : HL} {H : LHeap}

/-- what a search by name comes to -/
def ptrOpt (v : Value) (size : Nat) : Option Nat → Option Addr
  | some k => v.ownBlock.map fun g => ⟨g, k * size, none⟩
  | none => none

set_option maxHeartbeats 400000 in
theorem bind_any (h : HeapAt ρ w hb ho L H) (i : Nat) (s : LScope) (hi : H.scopes[i]? = some s) (name : ByteArray) :
    Calls Tryd.prog 45 #[.pointer (some ⟨L.sb i, 0, none⟩), .string name] w fun e w' => e = .returned (.pointer (ptrOpt (L.nv i) 6 (s.idx name))) ∧ Below w.heap.size w w' := by
  obtain ⟨hblk, hown⟩ := h.scp i s hi
  have hlt : L.sb i < w.heap.size := (Array.getElem?_eq_some_iff.1 hblk).1
  have hc2 : w.cell? ⟨L.sb i, 2, none⟩ = some (L.nv i) := by simp [World.cell?, hblk]
  have hown' := hown.alloc (.cells #[.string name] 9)
  have HC := indexB (w.alloc (.cells #[.string name] 9)) ⟨w.heap.size, 0, none⟩ name (by simp) (by simp) _ s.names hown'
  clear h hblk hi
  rcases hidx : s.idx name with _ | k
  · have hix : s.names.findIdx? (LBind.is name) = none := hidx
    rw [hix] at HC
    have HV := Lib.hid HC
    have HO := Lib.hid hown
    clear hidx hix hown hown' HC
    generalize L.nv i = v at *
    rcases ownsRow_cases HO.out with ⟨hv, hz⟩ | ⟨g, c, hv, h1, h2, hg⟩
    all_goals
      subst hv
      try unfold maxLen at h2
      go_enter Tryd.func45, Tryd.ntmps45
      go_wp2_with fail
      refine HV.out.mono ?_
      rintro e w1 ⟨rfl, hB⟩
      have hB' := Lib.hid hB
      clear hB
      simp only [optI]
      go_wp2
      go_ret
      exact ⟨rfl, ((Below.refl _ _).alloc (Nat.le_refl _) _).trans (hB'.out.mono (by simp))⟩
  · have hix : s.names.findIdx? (LBind.is name) = some k := hidx
    have hkl : k < s.names.length := (List.findIdx?_eq_some_iff_getElem.1 hix).1
    rw [hix] at HC
    have HV := Lib.hid HC
    rcases ownsRow_cases hown with ⟨hv, hz⟩ | ⟨g, c, hv, h1, h2, hg⟩
    · omega
    rw [hv] at hc2 HV
    have HN := Lib.hid hv
    clear hidx hix hown hown' HC hv
    unfold maxLen at h2
    go_enter Tryd.func45, Tryd.ntmps45
    go_wp2_with fail
    refine HV.out.mono ?_
    rintro e w1 ⟨rfl, hB⟩
    have hc2' : w1.cell? ⟨L.sb i, 2, none⟩ = some (.slice (some ⟨g, 0, none⟩) s.names.length c) := (hB.cell (p := ⟨L.sb i, 2, none⟩) (by simp; omega)).trans ((cell_old hlt).trans hc2)
    have hB' := Lib.hid hB
    clear hB
    simp only [optI]
    go_wp2
    go_ret
    exact ⟨by rw [HN.out]; rfl, ((Below.refl _ _).alloc (Nat.le_refl _) _).trans (hB'.out.mono (by simp))⟩

set_option maxHeartbeats 400000 in
theorem find_any (h : HeapAt ρ w hb ho L H) (i : Nat) (s : LObj) (hi : H.objects[i]? = some s) (name : ByteArray) :
    Calls Tryd.prog 40 #[.pointer (some ⟨L.ob i, 0, none⟩), .string name] w fun e w' => e = .returned (.int .i64 (optI (s.idx name))) ∧ Below w.heap.size w w' := by
  obtain ⟨hblk, hown⟩ := h.obj i s hi
  have hlt : L.ob i < w.heap.size := (Array.getElem?_eq_some_iff.1 hblk).1
  have hc2 : w.cell? ⟨L.ob i, 0, none⟩ = some (L.pv i) := by simp [World.cell?, hblk]
  have hown' := hown.alloc (.cells #[.string name] 9)
  have HC := indexP (w.alloc (.cells #[.string name] 9)) ⟨w.heap.size, 0, none⟩ name (by simp) (by simp) _ s.props hown'
  have HV := Lib.hid HC
  have hsh := ownsRow_cases hown
  clear h hblk hi HC hown' hown
  generalize L.pv i = v at *
  rcases hsh with ⟨hv, hz⟩ | ⟨g, c, hv, h1, h2, hg⟩
  all_goals
    subst hv
    go_enter Tryd.func40, Tryd.ntmps40
    go_wp2_with fail
    refine HV.out.mono ?_
    rintro e w1 ⟨rfl, hB⟩
    have hB' := Lib.hid hB
    clear hB
    go_wp2
    go_ret
    exact ⟨rfl, ((Below.refl _ _).alloc (Nat.le_refl _) _).trans (hB'.out.mono (by simp))⟩
end
end Go.Proofs.YtfanolcjgaccpaaDoor

namespace Go.Proofs.YtfanolcjgaccpaaDoor
open Go Go.RowKit
set_option maxRecDepth 100000

def LVal.zero : LVal := ⟨0, 0, ⟨#[]⟩⟩
def LHeap.get (H : LHeap) (n : Int) (name : ByteArray) : Option LVal := (H.object? n).bind fun o => (o.idx name).bind fun k => (o.props[k]?).map (·.v)

theorem LHeap.object?_some {H : LHeap} {n : Int} {o : LObj} (h : H.object? n = some o) : ∃ m : Nat, n = m ∧ H.objects[m]? = some o := by
  unfold LHeap.object? at h
  split at h
  · cases h
  · exact ⟨n.toNat, by omega, h⟩
theorem LHeap.scope?_some {H : LHeap} {n : Int} {o : LScope} (h : H.scope? n = some o) : ∃ m : Nat, n = m ∧ H.scopes[m]? = some o := by
  unfold LHeap.scope? at h
  split at h
  · cases h
  · exact ⟨n.toNat, by omega, h⟩
theorem LObj.idx_some {o : LObj} {name : ByteArray} {k : Nat} (h : o.idx name = some k) : ∃ p, o.props[k]? = some p ∧ sameS p.name name = true := by
  obtain ⟨h1, h2, _⟩ := List.findIdx?_eq_some_iff_getElem.1 h
  exact ⟨_, List.getElem?_eq_getElem h1, h2⟩
theorem LScope.idx_some {o : LScope} {name : ByteArray} {k : Nat} (h : o.idx name = some k) : ∃ p, o.names[k]? = some p ∧ sameS p.name name = true := by
  obtain ⟨h1, h2, _⟩ := List.findIdx?_eq_some_iff_getElem.1 h
  exact ⟨_, List.getElem?_eq_getElem h1, h2⟩

section
variable {ρ : Nat → Option Role} {w : World} {hb ho : Nat} {L : HL} {H : LHeap}

theorem get_none {n : Int} {name : ByteArray} (hob : H.object? n = none) : H.get n name = none := by simp [LHeap.get, hob]

set_option maxHeartbeats 400000 in
theorem get_any (h : HeapAt ρ w hb ho L H) (n : Int) (name : ByteArray) :
    Calls Tryd.prog 24 #[.pointer (some ⟨hb, ho, none⟩), .int .i64 n, .string name] w fun e w' => e = .returned (.tuple #[((H.get n name).getD LVal.zero).agg, .bool (H.get n name).isSome]) ∧ Below w.heap.size w w' := by
  have h1 : ∀ o, HeapAt ρ (w.alloc o) hb ho L H := fun o => h.below ((Below.refl _ _).alloc (Nat.le_refl _) _)
  rcases hob : H.object? n with _ | o
  · have HC := Lib.hid (object_no (h1 (.cells #[.int .i64 0, .int .i64 0, .string ⟨#[]⟩] 36)) n hob)
    rw [get_none hob]
    clear h h1 hob
    go_enter Tryd.func24, Tryd.ntmps24
    go_wp2_with fail
    refine HC.out.mono ?_
    rintro e w1 ⟨rfl, rfl⟩
    go_wp2
    exact bodyPost_ret (v := .tuple #[LVal.zero.agg, .bool false]) (by simp [results, Tryd.results24, go_sem, LVal.agg, LVal.zero]) rfl ⟨rfl, (Below.refl _ _).alloc (Nat.le_refl _) _⟩
  · obtain ⟨m, rfl, hm⟩ := LHeap.object?_some hob
    obtain ⟨hblk, hown⟩ := h.obj m o hm
    have hlt : L.ob m < w.heap.size := (Array.getElem?_eq_some_iff.1 hblk).1
    have hc0 : w.cell? ⟨L.ob m, 0, none⟩ = some (L.pv m) := by simp [World.cell?, hblk]
    have HC := Lib.hid (object_yes (h1 (.cells #[.int .i64 0, .int .i64 0, .string ⟨#[]⟩] 36)) m (getElem?_lt hm))
    have HF := Lib.hid (find_any (h1 (.cells #[.int .i64 0, .int .i64 0, .string ⟨#[]⟩] 36)) m o hm name)
    rcases hk : o.idx name with _ | k
    · have hg : H.get m name = none := by simp [LHeap.get, hob, hk]
      rw [hg]
      rw [hk] at HF
      clear h h1 hob hg hk hm hblk hown hc0 hlt
      go_enter Tryd.func24, Tryd.ntmps24
      go_wp2_with fail
      refine HC.out.mono ?_
      rintro e w1 ⟨rfl, rfl⟩
      go_wp2_with fail
      refine HF.out.mono ?_
      rintro e w1 ⟨rfl, hB⟩
      simp only [optI]
      have q0 := below_newcell hB 0 (.int .i64 0) rfl
      have q1 := below_newcell hB 1 (.int .i64 0) rfl
      have q2 := below_newcell hB 2 (.string ⟨#[]⟩) rfl
      have f0 := below_newfrozen hB 0
      have f1 := below_newfrozen hB 1
      have f2 := below_newfrozen hB 2
      have hs := below_newsize hB
      have hB' := Lib.hid (below_old hB)
      clear hB
      go_wp2
      refine bodyPost_ret (v := .tuple #[LVal.zero.agg, .bool false]) ?_ rfl ?_
      · simp [results, Tryd.results24, go_sem, LVal.agg, LVal.zero, q0, q1, q2]
      · exact ⟨rfl, ((hB'.out.setCell (Nat.le_refl _) _).setCell (Nat.le_refl _) _).setCell (Nat.le_refl _) _⟩
    · obtain ⟨p, hp, _⟩ := LObj.idx_some hk
      have hg : H.get m name = some p.v := by simp [LHeap.get, hob, hk, hp]
      rw [hg]
      rw [hk] at HF
      obtain ⟨pn, ⟨pk, pm, ps⟩, pf⟩ := p
      have hkl := getElem?_lt hp
      rcases ownsRow_cases hown with ⟨hv, hz⟩ | ⟨g, c, hv, h2, h3, hgl⟩
      · omega
      rw [hv] at hc0
      have hrow := fun j x => row_cell (f := LProp.cells) (m := 5) (fun _ => rfl) hown (g := g) (by rw [hv]; rfl) (i := k) (j := j) (x := x) hp
      have r1 := hrow 1 (.int .i64 pk) rfl
      have r2 := hrow 2 (.int .i64 pm) rfl
      have r3 := hrow 3 (.string ps) rfl
      clear h h1 hob hg hk hm hblk hown hrow hp hv
      unfold maxLen at h3
      go_enter Tryd.func24, Tryd.ntmps24
      go_wp2_with fail
      refine HC.out.mono ?_
      rintro e w1 ⟨rfl, rfl⟩
      go_wp2_with fail
      refine HF.out.mono ?_
      rintro e w1 ⟨rfl, hB⟩
      simp only [optI]
      have q0 := below_newcell hB 0 (.int .i64 0) rfl
      have q1 := below_newcell hB 1 (.int .i64 0) rfl
      have q2 := below_newcell hB 2 (.string ⟨#[]⟩) rfl
      have f0 := below_newfrozen hB 0
      have f1 := below_newfrozen hB 1
      have f2 := below_newfrozen hB 2
      have hs := below_newsize hB
      have hB' := below_old hB
      have c0 := (hB'.cell (p := ⟨L.ob m, 0, none⟩) hlt).trans hc0
      have c1 := (hB'.cell (p := ⟨g, k * 5 + 1, none⟩) hgl).trans r1
      have c2 := (hB'.cell (p := ⟨g, k * 5 + 2, none⟩) hgl).trans r2
      have c3 := (hB'.cell (p := ⟨g, k * 5 + 3, none⟩) hgl).trans r3
      have HB := Lib.hid hB'
      clear hB hB' r1 r2 r3 hc0
      go_wp2
      refine bodyPost_ret (v := .tuple #[.agg #[.int .i64 pk, .int .i64 pm, .string ps], .bool true]) ?_ rfl ?_
      · simp [results, Tryd.results24, go_sem, q0, q1, q2]
      · exact ⟨rfl, ((HB.out.setCell (Nat.le_refl _) _).setCell (Nat.le_refl _) _).setCell (Nat.le_refl _) _⟩
end
end Go.Proofs.YtfanolcjgaccpaaDoor
