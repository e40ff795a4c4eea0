/- The reference's heap: how it lies in memory. Walks of the reference's heap that only read: object, room, Get, cell, Has. -/
import Derived.Test.YtfanolcjgaccpaaDoorJ03
import Derived.Test.YtfanolcjgaccpaaDoorJ04
import Derived.Laws.OwnMore
namespace Go.Proofs.YtfanolcjgaccpaaDoor
open Go Go.RowKit
set_option maxRecDepth 100000
set_option linter.unusedVariables false

inductive RRole
  | cods | prps | roms
  | prp (i : Nat) | cel (i : Nat)
/-- the values of the rows -/
structure RV where
  vc : Value
  vp : Value
  vr : Value
  pv : List Value
  cv : List Value
def nilRow : Value := .slice none 0 0
def RV.row (V : RV) : RRole → Value
  | .cods => V.vc
  | .prps => V.vp
  | .roms => V.vr
  | .prp i => V.pv[i]?.getD nilRow
  | .cel i => V.cv[i]?.getD nilRow
def LProp.rcells (p : LProp) : List Value := [.string p.name, .int .i64 p.v.n, .bool p.fixed]
def LBind.rcells (b : LBind) : List Value := [.string b.name, .int .i64 b.v.n, .int .i64 b.kind, .bool b.ready]
def roomCells (p : LScope × Value) : List Value := [.int .i64 p.1.outer, .int .i64 p.1.object, p.2]

structure RAt (w : World) (rb : Nat) (V : RV) (H : LHeap) : Prop where
  head : w.heap[rb]? = some (.cells #[V.vc, V.vp, V.vr] 32 (0, 0))
  lp : V.pv.length = H.objects.length
  lc : V.cv.length = H.scopes.length
  rowC : w.ownsRow 0 3 1 V.vc H.objects.length (H.objects.map fun o => .int .i64 o.code)
  rowP : w.ownsRow 0 89 1 V.vp H.objects.length V.pv
  rowR : w.ownsRow 0 42 3 V.vr H.scopes.length ((H.scopes.zip V.cv).flatMap roomCells)
  prp : ∀ (i : Nat) o, H.objects[i]? = some o → w.ownsRow 0 91 3 (V.row (.prp i)) o.props.length (o.props.flatMap LProp.rcells)
  cel : ∀ (i : Nat) s, H.scopes[i]? = some s → w.ownsRow 0 98 4 (V.row (.cel i)) s.names.length (s.names.flatMap LBind.rcells)
  apart : ∀ r r' g, (V.row r).ownBlock = some g → (V.row r').ownBlock = some g → r = r'
  off : ∀ r, (V.row r).ownBlock ≠ some rb

/-- what is the heap's -/
def RV.own (V : RV) (rb b : Nat) : Prop := b = rb ∨ ∃ r, (V.row r).ownBlock = some b

/-- what a call on it leaves alone -/
structure RFr (V V' : RV) (rb : Nat) (w w' : World) : Prop where
  os : w'.os = w.os
  tape : w'.tape = w.tape
  output : w'.output = w.output
  size : w.heap.size ≤ w'.heap.size
  block : ∀ k, k < w.heap.size → ¬ V.own rb k → w'.heap[k]? = w.heap[k]?
  own : ∀ k, k < w.heap.size → V'.own rb k → V.own rb k

theorem RFr.refl (V : RV) (rb : Nat) (w : World) : RFr V V rb w w := ⟨rfl, rfl, rfl, Nat.le_refl _, fun _ _ _ => rfl, fun _ _ h => h⟩
theorem RFr.trans {V V' V'' : RV} {rb : Nat} {w w' w'' : World} (a : RFr V V' rb w w') (b : RFr V' V'' rb w' w'') : RFr V V'' rb w w'' :=
  ⟨b.os.trans a.os, b.tape.trans a.tape, b.output.trans a.output, Nat.le_trans a.size b.size,
   fun k hk hr => (b.block k (Nat.lt_of_lt_of_le hk a.size) (fun h => hr (a.own k hk h))).trans (a.block k hk hr),
   fun k hk hr => a.own k hk (b.own k (Nat.lt_of_lt_of_le hk a.size) hr)⟩
theorem RFr.of_below {V : RV} {rb : Nat} {w w' : World} (hB : Below w.heap.size w w') : RFr V V rb w w' :=
  ⟨hB.os, hB.tape, hB.output, hB.size, fun k hk _ => hB.block k hk, fun _ _ h => h⟩
theorem RFr.drew {V V' : RV} {rb : Nat} {w w' : World} (a : RFr V V' rb w w') : RFr V V' rb w w'.drew := ⟨a.os, a.tape, a.output, a.size, a.block, a.own⟩

section
variable {w w' : World} {rb : Nat} {V : RV} {H : LHeap}

theorem RAt.rowOf (h : RAt w rb V H) (r : RRole) : ∃ e m n xs, w.ownsRow 0 e m (V.row r) n xs := by
  cases r with
  | cods => exact ⟨_, _, _, _, h.rowC⟩
  | prps => exact ⟨_, _, _, _, h.rowP⟩
  | roms => exact ⟨_, _, _, _, h.rowR⟩
  | prp i =>
    by_cases hi : i < H.objects.length
    · exact ⟨_, _, _, _, h.prp i _ (List.getElem?_eq_getElem hi)⟩
    · refine ⟨0, 1, 0, [], ?_⟩
      rw [RV.row, List.getElem?_eq_none (by rw [h.lp]; omega)]
      exact World.ownsRow_nil _ _ _ _
  | cel i =>
    by_cases hi : i < H.scopes.length
    · exact ⟨_, _, _, _, h.cel i _ (List.getElem?_eq_getElem hi)⟩
    · refine ⟨0, 1, 0, [], ?_⟩
      rw [RV.row, List.getElem?_eq_none (by rw [h.lc]; omega)]
      exact World.ownsRow_nil _ _ _ _
theorem RAt.rbLt (h : RAt w rb V H) : rb < w.heap.size := (Array.getElem?_eq_some_iff.1 h.head).1
theorem RAt.live (h : RAt w rb V H) {b : Nat} (hb : V.own rb b) : b < w.heap.size := by
  rcases hb with rfl | ⟨r, hr⟩
  · exact h.rbLt
  · obtain ⟨e, m, n, xs, h1⟩ := h.rowOf r
    exact (h1.lt b hr).2
theorem RAt.keep (h : RAt w rb V H) (hs : w.heap.size ≤ w'.heap.size) (hk : ∀ b, V.own rb b → w'.heap[b]? = w.heap[b]?) : RAt w' rb V H where
  head := (hk rb (.inl rfl)).trans h.head
  lp := h.lp
  lc := h.lc
  rowC := ownsRow_block h.rowC fun g hg => hk g (.inr ⟨.cods, hg⟩)
  rowP := ownsRow_block h.rowP fun g hg => hk g (.inr ⟨.prps, hg⟩)
  rowR := ownsRow_block h.rowR fun g hg => hk g (.inr ⟨.roms, hg⟩)
  prp i o ho := ownsRow_block (h.prp i o ho) fun g hg => hk g (.inr ⟨.prp i, hg⟩)
  cel i o ho := ownsRow_block (h.cel i o ho) fun g hg => hk g (.inr ⟨.cel i, hg⟩)
  apart := h.apart
  off := h.off
theorem RAt.below (h : RAt w rb V H) (hB : Below w.heap.size w w') : RAt w' rb V H := h.keep hB.size fun b hb => hB.block b (h.live hb)
theorem RAt.drew (h : RAt w rb V H) : RAt w.drew rb V H := h.keep (Nat.le_refl _) fun _ _ => rfl

/-- The properties of one object are others now. -/
theorem RAt.setProps (h : RAt w rb V H) {i : Nat} {o : LObj} (hi : H.objects[i]? = some o) {v' : Value} {ps : List LProp}
    (hown : w'.ownsRow 0 91 3 v' ps.length (ps.flatMap LProp.rcells))
    (hrow : w'.ownsRow 0 89 1 V.vp H.objects.length (V.pv.set i v'))
    (hsz : w.heap.size ≤ w'.heap.size)
    (hkeep : ∀ b, b < w.heap.size → some b ≠ V.vp.ownBlock → some b ≠ (V.row (.prp i)).ownBlock → w'.heap[b]? = w.heap[b]?)
    (hfresh : ∀ g, v'.ownBlock = some g → (V.row (.prp i)).ownBlock = some g ∨ w.heap.size ≤ g)
    (h1 : w'.os = w.os) (h2 : w'.tape = w.tape) (h3 : w'.output = w.output) :
    ∃ V', RAt w' rb V' { H with objects := H.objects.set i { o with props := ps } } ∧ RFr V V' rb w w' := by
  have hil := getElem?_lt hi
  have hpl : i < V.pv.length := by rw [h.lp]; exact hil
  let V' : RV := { V with pv := V.pv.set i v' }
  have hr' : ∀ r, r ≠ .prp i → V'.row r = V.row r := fun r hr => by
    cases r with
    | prp j =>
      have : i ≠ j := fun e => hr (by rw [e])
      simp only [RV.row, V', List.getElem?_set_ne this]
    | _ => rfl
  have hri : V'.row (.prp i) = v' := by simp [RV.row, V', hpl]
  have far : ∀ r g, r ≠ .prps → r ≠ .prp i → (V.row r).ownBlock = some g → w'.heap[g]? = w.heap[g]? := fun r g n1 n2 hg =>
    hkeep g (h.live (.inr ⟨r, hg⟩)) (fun e => n1 (h.apart r .prps g hg e.symm)) (fun e => n2 (h.apart r (.prp i) g hg e.symm))
  have hrb : w'.heap[rb]? = w.heap[rb]? := hkeep rb h.rbLt (fun e => h.off .prps e.symm) (fun e => h.off (.prp i) e.symm)
  refine ⟨V', ?_, ?_⟩
  · refine { head := hrb.trans h.head, lp := by simp [V', h.lp], lc := h.lc, rowC := ?_, rowP := ?_, rowR := ?_, prp := ?_, cel := ?_, apart := ?_, off := ?_ }
    · have e : (H.objects.set i { o with props := ps }).map (fun o => Value.int .i64 o.code) = H.objects.map (fun o => Value.int .i64 o.code) := by
        apply List.ext_getElem?
        intro j
        rw [List.getElem?_map, List.getElem?_map, List.getElem?_set]
        by_cases hj : i = j
        · subst hj; rw [if_pos rfl, if_pos hil, hi]; rfl
        · rw [if_neg hj]
      simp only [List.length_set]
      rw [e]
      exact ownsRow_block h.rowC fun g hg => far .cods g (by simp) (by simp) hg
    · simp only [List.length_set]; exact hrow
    · exact ownsRow_block h.rowR fun g hg => far .roms g (by simp) (by simp) hg
    · intro j q hj
      by_cases hji : j = i
      · subst hji
        simp only [List.getElem?_set_self hil, Option.some.injEq] at hj
        subst hj
        rw [hri]; exact hown
      · simp only [List.getElem?_set_ne (Ne.symm hji)] at hj
        rw [hr' _ (by simp [hji])]
        exact ownsRow_block (h.prp j q hj) fun g hg => far (.prp j) g (by simp) (by simp [hji]) hg
    · intro j q hj
      rw [hr' _ (by simp)]
      exact ownsRow_block (h.cel j q hj) fun g hg => far (.cel j) g (by simp) (by simp) hg
    · intro r r' g hg hg'
      by_cases e : r = .prp i
      · by_cases e' : r' = .prp i
        · rw [e, e']
        · exfalso
          rw [hr' r' e'] at hg'
          rw [e, hri] at hg
          rcases hfresh g hg with h' | h'
          · exact e' (h.apart r' (.prp i) g hg' h')
          · have := h.live (.inr ⟨r', hg'⟩); omega
      · rw [hr' r e] at hg
        by_cases e' : r' = .prp i
        · exfalso
          rw [e', hri] at hg'
          rcases hfresh g hg' with h' | h'
          · exact e (h.apart r (.prp i) g hg h')
          · have := h.live (.inr ⟨r, hg⟩); omega
        · rw [hr' r' e'] at hg'
          exact h.apart r r' g hg hg'
    · intro r hg
      by_cases e : r = .prp i
      · rw [e, hri] at hg
        rcases hfresh rb hg with h' | h'
        · exact h.off _ h'
        · have := h.rbLt; omega
      · rw [hr' r e] at hg; exact h.off r hg
  · refine ⟨h1, h2, h3, hsz, fun k hk ho => hkeep k hk (fun e => ho (.inr ⟨.prps, e.symm⟩)) (fun e => ho (.inr ⟨.prp i, e.symm⟩)), fun k hk ho => ?_⟩
    rcases ho with rfl | ⟨r, hg⟩
    · exact .inl rfl
    · by_cases e : r = .prp i
      · rw [e, hri] at hg
        rcases hfresh k hg with h' | h'
        · exact .inr ⟨_, h'⟩
        · omega
      · rw [hr' r e] at hg; exact .inr ⟨r, hg⟩

theorem zip_set {α β : Type} (l : List α) (l' : List β) (i : Nat) (a : α) (b : β) : (l.set i a).zip (l'.set i b) = (l.zip l').set i (a, b) := by
  induction l generalizing l' i with
  | nil => simp
  | cons x l ih =>
    cases l' with
    | nil => simp
    | cons y l' =>
      cases i with
      | zero => simp
      | succ i => simp [ih]
theorem set_flatMap' {α : Type} {f : α → List Value} {m : Nat} (hf : ∀ a, (f a).length = m) {l : List α} {k : Nat} {a a' : α} (hk : l[k]? = some a) {j : Nat} (hj : j < m) {x : Value} (ha : f a' = (f a).set j x) :
    (l.flatMap f).set (k * m + j) x = (l.set k a').flatMap f := by
  induction l generalizing k with
  | nil => simp at hk
  | cons b l ih =>
    cases k with
    | zero =>
      simp only [List.getElem?_cons_zero, Option.some.injEq] at hk
      subst hk
      simp only [List.set_cons_zero, List.flatMap_cons, Nat.zero_mul, Nat.zero_add]
      rw [List.set_append_left _ _ (by rw [hf]; omega), ha]
    | succ k =>
      simp only [List.getElem?_cons_succ] at hk
      simp only [List.set_cons_succ, List.flatMap_cons]
      have e : (k + 1) * m + j = (f b).length + (k * m + j) := by rw [hf, Nat.succ_mul]; omega
      rw [e, List.set_append_right _ _ (by omega), Nat.add_sub_cancel_left, ih hk]
theorem RAt.rooms (h : RAt w rb V H) {i : Nat} {s : LScope} (hi : H.scopes[i]? = some s) : (H.scopes.zip V.cv)[i]? = some (s, V.row (.cel i)) := by
  have hil := getElem?_lt hi
  have hcl : i < V.cv.length := by rw [h.lc]; exact hil
  rw [List.getElem?_zip_eq_some (z := (s, V.row (.cel i)))]
  exact ⟨hi, by simp [RV.row, hcl]⟩

/-- The names of one scope are others now. -/
theorem RAt.setCells (h : RAt w rb V H) {i : Nat} {s : LScope} (hi : H.scopes[i]? = some s) {v' : Value} {ps : List LBind}
    (hown : w'.ownsRow 0 98 4 v' ps.length (ps.flatMap LBind.rcells))
    (hrow : w'.ownsRow 0 42 3 V.vr H.scopes.length (((H.scopes.zip V.cv).flatMap roomCells).set (i * 3 + 2) v'))
    (hsz : w.heap.size ≤ w'.heap.size)
    (hkeep : ∀ b, b < w.heap.size → some b ≠ V.vr.ownBlock → some b ≠ (V.row (.cel i)).ownBlock → w'.heap[b]? = w.heap[b]?)
    (hfresh : ∀ g, v'.ownBlock = some g → (V.row (.cel i)).ownBlock = some g ∨ w.heap.size ≤ g)
    (h1 : w'.os = w.os) (h2 : w'.tape = w.tape) (h3 : w'.output = w.output) :
    ∃ V', RAt w' rb V' { H with scopes := H.scopes.set i { s with names := ps } } ∧ RFr V V' rb w w' := by
  have hil := getElem?_lt hi
  have hpl : i < V.cv.length := by rw [h.lc]; exact hil
  let V' : RV := { V with cv := V.cv.set i v' }
  have hr' : ∀ r, r ≠ .cel i → V'.row r = V.row r := fun r hr => by
    cases r with
    | cel j =>
      have : i ≠ j := fun e => hr (by rw [e])
      simp only [RV.row, V', List.getElem?_set_ne this]
    | _ => rfl
  have hri : V'.row (.cel i) = v' := by simp [RV.row, V', hpl]
  have far : ∀ r g, r ≠ .roms → r ≠ .cel i → (V.row r).ownBlock = some g → w'.heap[g]? = w.heap[g]? := fun r g n1 n2 hg =>
    hkeep g (h.live (.inr ⟨r, hg⟩)) (fun e => n1 (h.apart r .roms g hg e.symm)) (fun e => n2 (h.apart r (.cel i) g hg e.symm))
  have hrb : w'.heap[rb]? = w.heap[rb]? := hkeep rb h.rbLt (fun e => h.off .roms e.symm) (fun e => h.off (.cel i) e.symm)
  refine ⟨V', ?_, ?_⟩
  · refine { head := hrb.trans h.head, lp := h.lp, lc := by simp [V', h.lc], rowC := ?_, rowP := ?_, rowR := ?_, prp := ?_, cel := ?_, apart := ?_, off := ?_ }
    · exact ownsRow_block h.rowC fun g hg => far .cods g (by simp) (by simp) hg
    · exact ownsRow_block h.rowP fun g hg => far .prps g (by simp) (by simp) hg
    · simp only [List.length_set, V']
      rw [zip_set, ← set_flatMap' (f := roomCells) (m := 3) (fun _ => rfl) (h.rooms hi) (j := 2) (by omega) (x := v') rfl]
      exact hrow
    · intro j q hj
      rw [hr' _ (by simp)]
      exact ownsRow_block (h.prp j q hj) fun g hg => far (.prp j) g (by simp) (by simp) hg
    · intro j q hj
      by_cases hji : j = i
      · subst hji
        simp only [List.getElem?_set_self hil, Option.some.injEq] at hj
        subst hj
        rw [hri]; exact hown
      · simp only [List.getElem?_set_ne (Ne.symm hji)] at hj
        rw [hr' _ (by simp [hji])]
        exact ownsRow_block (h.cel j q hj) fun g hg => far (.cel j) g (by simp) (by simp [hji]) hg
    · intro r r' g hg hg'
      by_cases e : r = .cel i
      · by_cases e' : r' = .cel i
        · rw [e, e']
        · exfalso
          rw [hr' r' e'] at hg'
          rw [e, hri] at hg
          rcases hfresh g hg with h' | h'
          · exact e' (h.apart r' (.cel i) g hg' h')
          · have := h.live (.inr ⟨r', hg'⟩); omega
      · rw [hr' r e] at hg
        by_cases e' : r' = .cel i
        · exfalso
          rw [e', hri] at hg'
          rcases hfresh g hg' with h' | h'
          · exact e (h.apart r (.cel i) g hg h')
          · have := h.live (.inr ⟨r, hg⟩); omega
        · rw [hr' r' e'] at hg'
          exact h.apart r r' g hg hg'
    · intro r hg
      by_cases e : r = .cel i
      · rw [e, hri] at hg
        rcases hfresh rb hg with h' | h'
        · exact h.off _ h'
        · have := h.rbLt; omega
      · rw [hr' r e] at hg; exact h.off r hg
  · refine ⟨h1, h2, h3, hsz, fun k hk ho => hkeep k hk (fun e => ho (.inr ⟨.roms, e.symm⟩)) (fun e => ho (.inr ⟨.cel i, e.symm⟩)), fun k hk ho => ?_⟩
    rcases ho with rfl | ⟨r, hg⟩
    · exact .inl rfl
    · by_cases e : r = .cel i
      · rw [e, hri] at hg
        rcases hfresh k hg with h' | h'
        · exact .inr ⟨_, h'⟩
        · omega
      · rw [hr' r e] at hg; exact .inr ⟨r, hg⟩
/-- The rows' values, as they stand. -/
theorem RAt.set_self (h : RAt w rb V H) {i : Nat} (hi : i < H.objects.length) : V.pv.set i (V.row (.prp i)) = V.pv := by
  have hpl : i < V.pv.length := by rw [h.lp]; exact hi
  simp [RV.row, hpl]
theorem RAt.set_selfR (h : RAt w rb V H) {i : Nat} {s : LScope} (hi : H.scopes[i]? = some s) : ((H.scopes.zip V.cv).flatMap roomCells).set (i * 3 + 2) (V.row (.cel i)) = (H.scopes.zip V.cv).flatMap roomCells := by
  have hz := h.rooms hi
  rw [set_flatMap' (f := roomCells) (m := 3) (fun _ => rfl) hz (j := 2) (a' := (s, V.row (.cel i))) (by omega) rfl]
  congr 1
  apply List.ext_getElem?
  intro j
  rw [List.getElem?_set]
  by_cases hj : i = j
  · subst hj; rw [if_pos rfl, hz]; simp only [if_pos (getElem?_lt hz)]
  · rw [if_neg hj]
end
end Go.Proofs.YtfanolcjgaccpaaDoor

namespace Go.Proofs.YtfanolcjgaccpaaDoor
open Go Go.RowKit
set_option maxRecDepth 100000
set_option linter.unusedVariables false

section
variable {w : World} {rb : Nat} {V : RV} {H : LHeap}

theorem RAt.cellC (h : RAt w rb V H) : w.cell? ⟨rb, 0, none⟩ = some V.vc := by simp [World.cell?, h.head]
theorem RAt.cellP (h : RAt w rb V H) : w.cell? ⟨rb, 1, none⟩ = some V.vp := by simp [World.cell?, h.head]
theorem RAt.cellR (h : RAt w rb V H) : w.cell? ⟨rb, 2, none⟩ = some V.vr := by simp [World.cell?, h.head]
theorem RAt.objAt (h : RAt w rb V H) {m : Nat} {o : LObj} (hm : H.objects[m]? = some o) :
    ∃ g c, w.cell? ⟨rb, 1, none⟩ = some (.slice (some ⟨g, 0, none⟩) H.objects.length c) ∧ V.vp = .slice (some ⟨g, 0, none⟩) H.objects.length c ∧ H.objects.length ≤ c ∧ c ≤ 9223372036854775807 ∧ m < H.objects.length ∧ w.cell? ⟨g, m, none⟩ = some (V.row (.prp m)) := by
  have hml := getElem?_lt hm
  have hpl : m < V.pv.length := by rw [h.lp]; exact hml
  rcases ownsRow_cases h.rowP with ⟨hv, hz⟩ | ⟨g, c, hv, h1, h2, h3⟩
  · omega
  · refine ⟨g, c, by rw [← hv]; exact h.cellP, hv, h1, by unfold maxLen at h2; omega, hml, ?_⟩
    exact ownsRow_cell1 h.rowP (g := g) (by rw [hv]; rfl) (by simp [RV.row, hpl])
theorem RAt.roomAt (h : RAt w rb V H) {m : Nat} {s : LScope} (hm : H.scopes[m]? = some s) :
    ∃ g c, w.cell? ⟨rb, 2, none⟩ = some (.slice (some ⟨g, 0, none⟩) H.scopes.length c) ∧ V.vr = .slice (some ⟨g, 0, none⟩) H.scopes.length c ∧ H.scopes.length ≤ c ∧ c ≤ 9223372036854775807 ∧ m < H.scopes.length ∧
      w.cell? ⟨g, m * 3, none⟩ = some (.int .i64 s.outer) ∧ w.cell? ⟨g, m * 3 + 1, none⟩ = some (.int .i64 s.object) ∧ w.cell? ⟨g, m * 3 + 2, none⟩ = some (V.row (.cel m)) := by
  have hml := getElem?_lt hm
  rcases ownsRow_cases h.rowR with ⟨hv, hz⟩ | ⟨g, c, hv, h1, h2, h3⟩
  · omega
  · have hrow := fun j x => row_cell (f := roomCells) (m := 3) (fun _ => rfl) h.rowR (g := g) (by rw [hv]; rfl) (i := m) (j := j) (x := x) (h.rooms hm)
    exact ⟨g, c, by rw [← hv]; exact h.cellR, hv, h1, by unfold maxLen at h2; omega, hml, hrow 0 _ rfl, hrow 1 _ rfl, hrow 2 _ rfl⟩

set_option maxHeartbeats 400000 in
theorem robject_any (h : RAt w rb V H) (n : Int) :
    Calls Tryd.prog 41 #[.pointer (some ⟨rb, 0, none⟩), .int .i64 n] w fun e w' => e = .returned (.bool (H.object? n).isSome) ∧ w = w' := by
  have hc := h.cellP
  by_cases h0 : n < 0
  · have e : (H.object? n).isSome = false := by simp [LHeap.object?, h0]
    rw [e]
    clear h
    go_enter Tryd.func41, Tryd.ntmps41
    go_wp2
    go_ret
    exact ⟨rfl, rfl⟩
  · obtain ⟨m, rfl⟩ := Int.eq_ofNat_of_zero_le (by omega : 0 ≤ n)
    have e : (H.object? (m : Int)).isSome = decide (m < H.objects.length) := by
      simp only [LHeap.object?, if_neg h0, Int.toNat_natCast]
      by_cases hm : m < H.objects.length
      · simp [hm]
      · simp [hm]
    rw [e]
    rcases ownsRow_cases h.rowP with ⟨hv, hz⟩ | ⟨g, cap, hv, h1, h2, _⟩
    · rw [hv] at hc
      rw [hz]
      clear h h0 hv e hz
      go_enter Tryd.func41, Tryd.ntmps41
      go_wp2
      go_ret
      exact ⟨ret_bool (by simp), rfl⟩
    · rw [hv] at hc
      generalize H.objects.length = k at *
      clear h h0 hv e
      unfold maxLen at h2
      by_cases hm : m < k
      · rw [decide_eq_true hm]
        go_enter Tryd.func41, Tryd.ntmps41
        go_wp2
        go_ret
        exact ⟨ret_bool (by simp), rfl⟩
      · rw [decide_eq_false hm]
        go_enter Tryd.func41, Tryd.ntmps41
        go_wp2
        go_ret
        exact ⟨ret_bool (by simp), rfl⟩

set_option maxHeartbeats 400000 in
theorem room_any (h : RAt w rb V H) (n : Int) :
    Calls Tryd.prog 44 #[.pointer (some ⟨rb, 0, none⟩), .int .i64 n] w fun e w' => e = .returned (.bool (H.scope? n).isSome) ∧ w = w' := by
  have hc := h.cellR
  by_cases h0 : n < 0
  · have e : (H.scope? n).isSome = false := by simp [LHeap.scope?, h0]
    rw [e]
    clear h
    go_enter Tryd.func44, Tryd.ntmps44
    go_wp2
    go_ret
    exact ⟨rfl, rfl⟩
  · obtain ⟨m, rfl⟩ := Int.eq_ofNat_of_zero_le (by omega : 0 ≤ n)
    have e : (H.scope? (m : Int)).isSome = decide (m < H.scopes.length) := by
      simp only [LHeap.scope?, if_neg h0, Int.toNat_natCast]
      by_cases hm : m < H.scopes.length
      · simp [hm]
      · simp [hm]
    rw [e]
    rcases ownsRow_cases h.rowR with ⟨hv, hz⟩ | ⟨g, cap, hv, h1, h2, _⟩
    · rw [hv] at hc
      rw [hz]
      clear h h0 hv e hz
      go_enter Tryd.func44, Tryd.ntmps44
      go_wp2
      go_ret
      exact ⟨ret_bool (by simp), rfl⟩
    · rw [hv] at hc
      generalize H.scopes.length = k at *
      clear h h0 hv e
      unfold maxLen at h2
      by_cases hm : m < k
      · rw [decide_eq_true hm]
        go_enter Tryd.func44, Tryd.ntmps44
        go_wp2
        go_ret
        exact ⟨ret_bool (by simp), rfl⟩
      · rw [decide_eq_false hm]
        go_enter Tryd.func44, Tryd.ntmps44
        go_wp2
        go_ret
        exact ⟨ret_bool (by simp), rfl⟩

theorem get_idx {m : Nat} {o : LObj} {name : ByteArray} (hm : H.objects[m]? = some o) : H.get m name = (o.idx name).bind fun k => (o.props[k]?).map (·.v) := by
  have h0 : ¬ (m : Int) < 0 := by omega
  simp only [LHeap.get, LHeap.object?, if_neg h0, Int.toNat_natCast, hm, Option.bind_some]

set_option maxHeartbeats 800000 in
theorem rget_any (h : RAt w rb V H) (n : Int) (name : ByteArray) :
    Calls Tryd.prog 25 #[.pointer (some ⟨rb, 0, none⟩), .int .i64 n, .string name] w fun e w' => e = .returned (.tuple #[.int .i64 ((H.get n name).getD LVal.zero).n, .bool (H.get n name).isSome]) ∧ Below w.heap.size w w' := by
  have HC := Lib.hid (robject_any h n)
  rcases hob : H.object? n with _ | o
  · rw [hob] at HC
    rw [get_none hob]
    clear h hob
    go_enter Tryd.func25, Tryd.ntmps25
    go_wp2_with fail
    refine HC.out.mono ?_
    rintro e w1 ⟨rfl, rfl⟩
    go_wp2
    go_ret2
    exact ⟨rfl, Below.refl _ _⟩
  · rw [hob] at HC
    obtain ⟨m, rfl, hm⟩ := LHeap.object?_some hob
    rw [get_idx hm]
    obtain ⟨g, c, d0, _, d1, d2, d3, d4⟩ := h.objAt hm
    have hown := h.prp m o hm
    generalize H.objects.length = q at *
    have hnone : o.idx name = o.props.findIdx? (LProp.is name) := rfl
    rw [hnone]
    generalize o.props = l at *
    clear hnone
    rcases ownsRow_cases hown with ⟨hv, hz⟩ | ⟨g1, c1, hv, h1, h2, hg⟩
    · rw [hv] at d4
      have : l = [] := List.eq_nil_of_length_eq_zero hz
      subst this
      clear hown h hob hz hm hv
      go_enter Tryd.func25, Tryd.ntmps25
      go_wp2_with fail
      refine HC.out.mono ?_
      rintro e w1 ⟨rfl, rfl⟩
      go_wp2
      go_loop [21] (fun i => i = .int .i64 0) (fun _ => 0)
      case atStart => rfl
      case round =>
        subst hrel
        go_wp2
        go_ret2
        exact ⟨rfl, Below.refl _ _⟩
    · have hrow := fun i j a x => row_cell (f := LProp.rcells) (m := 3) (fun _ => rfl) hown (g := g1) (by rw [hv]; rfl) (i := i) (j := j) (a := a) (x := x)
      rw [hv] at d4
      obtain ⟨n, hn⟩ : ∃ n, n = l.length := ⟨_, rfl⟩
      rw [← hn] at h1 d4
      unfold maxLen at h2
      have HN := Lib.hid hn
      have HR := Lib.hid hrow
      clear hn hown h hob hm hrow hv
      go_enter Tryd.func25, Tryd.ntmps25
      go_wp2_with fail
      refine HC.out.mono ?_
      rintro e w1 ⟨rfl, rfl⟩
      go_wp2
      go_loopw [9, 21] (fun _ i wr => ∃ k : Nat, i = .int .i64 k ∧ k ≤ n ∧ Hid (∀ j a, j < k → l[j]? = some a → LProp.is name a = false) ∧ Hid (Below w.heap.size w wr)) (fun _ i _ => n - (intOf i).toNat)
      case atStart => exact ⟨0, rfl, by omega, Lib.hid fun j a hj => by omega, Lib.hid (Below.refl _ _)⟩
      case round =>
        obtain ⟨k, rfl, hk, HO, HB⟩ := hrel
        have hB := HB.out
        by_cases hlt : k < n
        · have hkl : k < l.length := by have := HN.out; omega
          have hget : l[k]? = some l[k] := List.getElem?_eq_getElem hkl
          generalize l[k] = b at hget
          obtain ⟨bn, ⟨bk, bm, bs⟩, brd⟩ := b
          have c0 : wr.cell? ⟨g1, k * 3, none⟩ = some (.string bn) := (hB.cell (p := ⟨g1, k * 3, none⟩) hg).trans (HR.out k 0 _ _ hget rfl)
          have c1 : wr.cell? ⟨g1, k * 3 + 1, none⟩ = some (.int .i64 bm) := (hB.cell (p := ⟨g1, k * 3 + 1, none⟩) hg).trans (HR.out k 1 _ _ hget rfl)
          have c2 : wr.cell? ⟨g1, k * 3 + 2, none⟩ = some (.bool brd) := (hB.cell (p := ⟨g1, k * 3 + 2, none⟩) hg).trans (HR.out k 2 _ _ hget rfl)
          have HG := Lib.hid hget
          clear hget hB hkl
          by_cases hq : sameS bn name = true
          · have hq' : (bn.toList == name.toList) = true := (toList_beq _ _).trans hq
            go_wp2
            go_ret2
            have e1 : l.findIdx? (LProp.is name) = some k := findIdx?_some_of HO.out HG.out hq
            refine ⟨?_, HB.out.alloc HB.out.size _⟩
            rw [e1]
            simp only [Option.bind_some]
            rw [HG.out]
            rfl
          · have hq' : (bn.toList == name.toList) = false := (toList_beq _ _).trans (by simpa using hq)
            go_wp2
            go_roundw
            case rel =>
              refine ⟨k + 1, by go_num, by omega, Lib.hid fun j a hj ha => ?_, Lib.hid (HB.out.alloc HB.out.size _)⟩
              by_cases hjk : j = k
              · subst hjk
                have := HG.out.symm.trans ha
                simp only [Option.some.injEq] at this
                subst this
                simpa [LProp.is] using hq
              · exact HO.out j a (by omega) ha
            case measure => simp [intOf]; omega
        · have hkn : k = n := by omega
          subst hkn
          clear hB
          go_wp2
          go_ret2
          rw [findIdx?_none_of (by rw [← HN.out]; exact HO.out)]
          exact ⟨rfl, HB.out⟩
end
end Go.Proofs.YtfanolcjgaccpaaDoor
