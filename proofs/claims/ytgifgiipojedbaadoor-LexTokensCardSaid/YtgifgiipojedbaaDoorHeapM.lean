/- The plain model of package heap, and how it lies in memory. -/
import Derived.WalkKit
import Derived.Laws.AppendOwn
import Derived.Lib.Hide
namespace Go.Proofs.YtgifgiipojedbaaDoor
open Go Go.RowKit
set_option maxRecDepth 100000

structure LVal where
  kind : Int
  n : Int
  s : ByteArray
def LVal.cells (v : LVal) : List Value := [.int .i64 v.kind, .int .i64 v.n, .string v.s]
def LVal.agg (v : LVal) : Value := .agg #[.int .i64 v.kind, .int .i64 v.n, .string v.s]
structure LBind where
  name : ByteArray
  v : LVal
  kind : Int
  ready : Bool
def LBind.cells (b : LBind) : List Value := [.string b.name, .int .i64 b.v.kind, .int .i64 b.v.n, .string b.v.s, .int .i64 b.kind, .bool b.ready]
structure LProp where
  name : ByteArray
  v : LVal
  fixed : Bool
def LProp.cells (b : LProp) : List Value := [.string b.name, .int .i64 b.v.kind, .int .i64 b.v.n, .string b.v.s, .bool b.fixed]
structure LObj where
  props : List LProp
  code : Int
structure LScope where
  outer : Int
  object : Int
  names : List LBind
structure LHeap where
  objects : List LObj
  scopes : List LScope

/-- two texts are the same -/
def sameS (a b : ByteArray) : Bool := decide (a = b)
theorem sameS_iff {a b : ByteArray} : sameS a b = true ↔ a = b := by simp [sameS]
theorem sameS_refl (a : ByteArray) : sameS a a = true := by simp [sameS]
theorem toList_inj {a b : ByteArray} (h : a.toList = b.toList) : a = b := by
  obtain ⟨⟨a⟩⟩ := a; obtain ⟨⟨b⟩⟩ := b
  simpa [ByteArray.toList_eq] using h
theorem toList_beq (a b : ByteArray) : (a.toList == b.toList) = sameS a b := by
  unfold sameS
  by_cases h : a = b
  · simp [h]
  · simp only [h, decide_false, beq_eq_false_iff_ne, ne_eq]
    exact fun e => h (toList_inj e)

theorem getElem?_flatMap {α β : Type} (f : α → List β) (m : Nat) (hf : ∀ a, (f a).length = m) (l : List α) (i j : Nat) (hj : j < m) :
    (l.flatMap f)[i * m + j]? = (l[i]?).bind fun a => (f a)[j]? := by
  induction l generalizing i with
  | nil => simp
  | cons a l ih =>
    rw [List.flatMap_cons]
    cases i with
    | zero => rw [List.getElem?_append_left (by rw [hf]; omega)]; simp
    | succ i =>
      rw [List.getElem?_append_right (by rw [hf, Nat.succ_mul]; omega), hf, show (i + 1) * m + j - m = i * m + j by rw [Nat.succ_mul]; omega, ih]
      simp

/-- a cell of a row of structs -/
theorem row_cell {w : World} {base : Nat} {e : TypeId} {m : Nat} {v : Value} {n : Nat} {α : Type} {f : α → List Value} {l : List α} (hf : ∀ a, (f a).length = m)
    (h : w.ownsRow base e m v n (l.flatMap f)) {g : Nat} (hg : v.ownBlock = some g) {i j : Nat} {a : α} {x : Value} (hi : l[i]? = some a) (hj : (f a)[j]? = some x) :
    w.cell? ⟨g, i * m + j, none⟩ = some x := by
  have hjm : j < m := by rw [← hf a]; exact (List.getElem?_eq_some_iff.1 hj).1
  have := h.cells hg (i * m + j) x (by rw [getElem?_flatMap f m hf l i j hjm, hi]; exact hj)
  rwa [show ((⟨g, 0, none⟩ : Addr).add (i * m + j)) = ⟨g, i * m + j, none⟩ by unfold Addr.add; split <;> simp_all] at this

theorem ownsRow_block {w w' : World} {base : Nat} {e : TypeId} {m : Nat} {v : Value} {n : Nat} {xs : List Value} (h : w.ownsRow base e m v n xs)
    (hb : ∀ g, v.ownBlock = some g → w'.heap[g]? = w.heap[g]?) : w'.ownsRow base e m v n xs := by
  refine ⟨h.1, ?_⟩
  rcases h.2 with hn | ⟨g, cap, cur, rfl, hbg, hgg, rest⟩
  · exact .inl hn
  · exact .inr ⟨g, cap, cur, rfl, hbg, by rw [hb g rfl]; exact hgg, rest⟩

/-- the two forms of an owned row -/
theorem ownsRow_cases {w : World} {base : Nat} {e : TypeId} {m : Nat} {v : Value} {n : Nat} {xs : List Value} (h : w.ownsRow base e m v n xs) :
    (v = .slice none 0 0 ∧ n = 0) ∨ ∃ g cap, v = .slice (some ⟨g, 0, none⟩) n cap ∧ n ≤ cap ∧ cap ≤ maxLen ∧ g < w.heap.size := by
  rcases h.2 with hn | ⟨g, cap, cur, rfl, _, hgg, h1, h2, _⟩
  · exact .inl hn
  · exact .inr ⟨g, cap, rfl, h1, h2, (Array.getElem?_eq_some_iff.1 hgg).1⟩

theorem ownsRow_frozen {w : World} {base : Nat} {e : TypeId} {m : Nat} {v : Value} {n : Nat} {xs : List Value} (h : w.ownsRow base e m v n xs) {g : Nat} (hg : v.ownBlock = some g) (o : Nat) :
    w.frozen? ⟨g, o, none⟩ = false := by
  rcases h.2 with ⟨rfl, _⟩ | ⟨g', cap, cur, rfl, _, hgg, _⟩
  · cases hg
  · simp only [Value.ownBlock, Option.some.injEq] at hg
    subst hg
    simp [World.frozen?, hgg]

inductive Role
  | hp | objs | scps
  | obj (i : Nat) | prp (i : Nat) | scp (i : Nat) | nam (i : Nat)

/-- where a heap's parts lie -/
structure HL where
  vo : Value
  vs : Value
  ob : Nat → Nat
  pv : Nat → Value
  sb : Nat → Nat
  nv : Nat → Value

def ptrs (f : Nat → Nat) (n : Nat) : List Value := (List.range n).map fun i => .pointer (some ⟨f i, 0, none⟩)

structure HeapAt (ρ : Nat → Option Role) (w : World) (hb ho : Nat) (L : HL) (H : LHeap) : Prop where
  cellO : w.cell? ⟨hb, ho, none⟩ = some L.vo
  cellS : w.cell? ⟨hb, ho + 1, none⟩ = some L.vs
  frO : w.frozen? ⟨hb, ho, none⟩ = false
  frS : w.frozen? ⟨hb, ho + 1, none⟩ = false
  rowO : w.ownsRow 0 97 1 L.vo H.objects.length (ptrs L.ob H.objects.length)
  rowS : w.ownsRow 0 101 1 L.vs H.scopes.length (ptrs L.sb H.scopes.length)
  obj : ∀ i o, H.objects[i]? = some o → w.heap[L.ob i]? = some (.cells #[L.pv i, .int .i64 o.code] 100 (0, 0)) ∧ w.ownsRow 0 110 5 (L.pv i) o.props.length (o.props.flatMap LProp.cells)
  scp : ∀ i s, H.scopes[i]? = some s → w.heap[L.sb i]? = some (.cells #[.int .i64 s.outer, .int .i64 s.object, L.nv i] 104 (0, 0)) ∧ w.ownsRow 0 119 6 (L.nv i) s.names.length (s.names.flatMap LBind.cells)
  rhp : ρ hb = some .hp
  rvo : ∀ g, L.vo.ownBlock = some g → ρ g = some .objs
  rvs : ∀ g, L.vs.ownBlock = some g → ρ g = some .scps
  rob : ∀ i, i < H.objects.length → ρ (L.ob i) = some (.obj i)
  rpv : ∀ i g, i < H.objects.length → (L.pv i).ownBlock = some g → ρ g = some (.prp i)
  rsb : ∀ i, i < H.scopes.length → ρ (L.sb i) = some (.scp i)
  rnv : ∀ i g, i < H.scopes.length → (L.nv i).ownBlock = some g → ρ g = some (.nam i)
  live : ∀ b, ρ b ≠ none → b < w.heap.size

theorem getElem?_lt {α : Type} {l : List α} {i : Nat} {a : α} (h : l[i]? = some a) : i < l.length := (List.getElem?_eq_some_iff.1 h).1

/-- only the blocks that have a role matter -/
theorem HeapAt.keep {ρ : Nat → Option Role} {w w' : World} {hb ho : Nat} {L : HL} {H : LHeap} (h : HeapAt ρ w hb ho L H) (hs : w.heap.size ≤ w'.heap.size)
    (hk : ∀ b, ρ b ≠ none → w'.heap[b]? = w.heap[b]?) : HeapAt ρ w' hb ho L H where
  cellO := (World.cell?_of_block (hk hb (by simp [h.rhp]))).trans h.cellO
  cellS := (World.cell?_of_block (hk hb (by simp [h.rhp]))).trans h.cellS
  frO := (World.frozen?_of_block (hk hb (by simp [h.rhp]))).trans h.frO
  frS := (World.frozen?_of_block (hk hb (by simp [h.rhp]))).trans h.frS
  rowO := ownsRow_block h.rowO fun g hg => hk g (by simp [h.rvo g hg])
  rowS := ownsRow_block h.rowS fun g hg => hk g (by simp [h.rvs g hg])
  obj i o ho := ⟨by rw [hk _ (by simp [h.rob i (getElem?_lt ho)])]; exact (h.obj i o ho).1, ownsRow_block (h.obj i o ho).2 fun g hg => hk g (by simp [h.rpv i g (getElem?_lt ho) hg])⟩
  scp i o ho := ⟨by rw [hk _ (by simp [h.rsb i (getElem?_lt ho)])]; exact (h.scp i o ho).1, ownsRow_block (h.scp i o ho).2 fun g hg => hk g (by simp [h.rnv i g (getElem?_lt ho) hg])⟩
  rhp := h.rhp
  rvo := h.rvo
  rvs := h.rvs
  rob := h.rob
  rpv := h.rpv
  rsb := h.rsb
  rnv := h.rnv
  live b hb := Nat.lt_of_lt_of_le (h.live b hb) hs

theorem HeapAt.below {ρ : Nat → Option Role} {w w' : World} {hb ho : Nat} {L : HL} {H : LHeap} (h : HeapAt ρ w hb ho L H) (hB : Below w.heap.size w w') : HeapAt ρ w' hb ho L H :=
  h.keep hB.size fun b hb => hB.block b (h.live b hb)

/-- what a call on a heap leaves alone -/
structure Fr (ρ ρ' : Nat → Option Role) (hb ho : Nat) (w w' : World) : Prop where
  os : w'.os = w.os
  tape : w'.tape = w.tape
  output : w'.output = w.output
  size : w.heap.size ≤ w'.heap.size
  block : ∀ k, k < w.heap.size → ρ k = none → w'.heap[k]? = w.heap[k]?
  role : ∀ k, k < w.heap.size → ρ k = none → ρ' k = none
  cell : ∀ o, o ≠ ho → o ≠ ho + 1 → w'.cell? ⟨hb, o, none⟩ = w.cell? ⟨hb, o, none⟩
  frz : ∀ o, w'.frozen? ⟨hb, o, none⟩ = w.frozen? ⟨hb, o, none⟩

theorem Fr.refl (ρ : Nat → Option Role) (hb ho : Nat) (w : World) : Fr ρ ρ hb ho w w := ⟨rfl, rfl, rfl, Nat.le_refl _, fun _ _ _ => rfl, fun _ _ h => h, fun _ _ _ => rfl, fun _ => rfl⟩
theorem Fr.trans {ρ ρ' ρ'' : Nat → Option Role} {hb ho : Nat} {w w' w'' : World} (a : Fr ρ ρ' hb ho w w') (b : Fr ρ' ρ'' hb ho w' w'') : Fr ρ ρ'' hb ho w w'' :=
  ⟨b.os.trans a.os, b.tape.trans a.tape, b.output.trans a.output, Nat.le_trans a.size b.size,
   fun k hk hr => (b.block k (Nat.lt_of_lt_of_le hk a.size) (a.role k hk hr)).trans (a.block k hk hr),
   fun k hk hr => b.role k (Nat.lt_of_lt_of_le hk a.size) (a.role k hk hr),
   fun o h1 h2 => (b.cell o h1 h2).trans (a.cell o h1 h2), fun o => (b.frz o).trans (a.frz o)⟩
theorem Fr.of_below {ρ : Nat → Option Role} {hb ho : Nat} {w w' : World} (hh : hb < w.heap.size) (hB : Below w.heap.size w w') : Fr ρ ρ hb ho w w' :=
  ⟨hB.os, hB.tape, hB.output, hB.size, fun k hk _ => hB.block k hk, fun _ _ h => h, fun _ _ _ => hB.cell (p := ⟨hb, _, none⟩) hh, fun _ => hB.frozen (p := ⟨hb, _, none⟩) hh⟩
theorem HeapAt.drew {ρ : Nat → Option Role} {w : World} {hb ho : Nat} {L : HL} {H : LHeap} (h : HeapAt ρ w hb ho L H) : HeapAt ρ w.drew hb ho L H := h.keep (Nat.le_refl _) fun _ _ => rfl
theorem Fr.drew {ρ ρ' : Nat → Option Role} {hb ho : Nat} {w w' : World} (a : Fr ρ ρ' hb ho w w') : Fr ρ ρ' hb ho w w'.drew := ⟨a.os, a.tape, a.output, a.size, a.block, a.role, a.cell, a.frz⟩
theorem HeapAt.hbLt {ρ : Nat → Option Role} {w : World} {hb ho : Nat} {L : HL} {H : LHeap} (h : HeapAt ρ w hb ho L H) : hb < w.heap.size := h.live hb (by simp [h.rhp])
theorem below_newcell {w w1 : World} {c : Array Value} {T : TypeId} (hB : Below (w.alloc (.cells c T)).heap.size (w.alloc (.cells c T)) w1) (i : Nat) (x : Value) (h : c[i]? = some x) : w1.cell? ⟨w.heap.size, i, none⟩ = some x :=
  (hB.cell (p := ⟨w.heap.size, i, none⟩) (by simp)).trans ((World.cell?_alloc_new _ _ _ i).trans h)
theorem below_newfrozen {w w1 : World} {c : Array Value} {T : TypeId} (hB : Below (w.alloc (.cells c T)).heap.size (w.alloc (.cells c T)) w1) (i : Nat) : w1.frozen? ⟨w.heap.size, i, none⟩ = false :=
  (hB.frozen (p := ⟨w.heap.size, i, none⟩) (by simp)).trans (World.frozen?_alloc_new _ _ _ _)
theorem below_newsize {w w1 : World} {o : Obj} (hB : Below (w.alloc o).heap.size (w.alloc o) w1) : w.heap.size < w1.heap.size := by have := hB.size; simp at this; omega
theorem below_old {w w1 : World} {o : Obj} (hB : Below (w.alloc o).heap.size (w.alloc o) w1) : Below w.heap.size w w1 := ((Below.refl _ _).alloc (Nat.le_refl _) _).trans (hB.mono (by simp))
theorem ret_int {k : IntKind} {a b : Int} (h : a = b) : Ending.returned (.int k a) = .returned (.int k b) := by rw [h]
theorem ret_bool {a b : Bool} (h : a = b) : Ending.returned (.bool a) = .returned (.bool b) := by rw [h]
theorem ret_str {a b : ByteArray} (h : a = b) : Ending.returned (.string a) = .returned (.string b) := by rw [h]
theorem cell_old {w : World} {o : Obj} {p : Addr} (h : p.block < w.heap.size) : (w.alloc o).cell? p = w.cell? p := ((Below.refl w.heap.size w).alloc (Nat.le_refl _) o).cell h
theorem frozen_old {w : World} {o : Obj} {p : Addr} (h : p.block < w.heap.size) : (w.alloc o).frozen? p = w.frozen? p := ((Below.refl w.heap.size w).alloc (Nat.le_refl _) o).frozen h
end Go.Proofs.YtgifgiipojedbaaDoor
