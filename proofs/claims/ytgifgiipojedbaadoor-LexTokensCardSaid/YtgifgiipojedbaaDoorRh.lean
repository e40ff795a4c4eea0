/- The reference's Tokens: its loop's state, its results. -/
import Derived.Test.YtgifgiipojedbaaDoorRp


import Derived.Lib.SmallJoins
namespace Go.Proofs.YtgifgiipojedbaaDoor
open Go Go.RowKit
set_option maxRecDepth 100000
set_option linter.unusedVariables false

theorem lexF_skip {text : ByteArray} {f i : Nat} {l : List Tok} (hi : i < text.size) (hb : blankB (byteAt text i) = true) : lexF text (f + 1) i l = lexF text (f + 1) (i + 1) l := by
  simp only [lexF]
  rw [spanEnd_step hi hb]
theorem span_here {p : Int → Bool} {text : ByteArray} {i : Nat} (hb : p (byteAt text i) = false) : spanEnd p text (text.size - i) i = i := by
  cases h : text.size - i with
  | zero => rfl
  | succ f => simp only [spanEnd]; rw [if_neg (by simp [hb])]
theorem span_end {p : Int → Bool} {text : ByteArray} {i : Nat} (hi : text.size ≤ i) : spanEnd p text (text.size - i) i = i := by
  rw [show text.size - i = 0 by omega]
  rfl
/-- what the reference's Tokens hands back -/
def RTokPost (w : World) (r : Except (Int × Nat) (List Tok)) (e : Ending) (w' : World) : Prop :=
  match r with
  | .ok l => ∃ v, e = .returned (.tuple #[v, .agg #[.int .i64 0, .int .i64 (-1)]]) ∧ w'.ownsRow w.heap.size 95 4 v l.length (l.flatMap Tok.cells)
  | .error (c, p) => e = .returned (.tuple #[.slice none 0 0, .agg #[.int .i64 c, .int .i64 p]])
/-- the reference's Fine, as it is laid -/
def FineAt (w : World) : Prop := w.cell? ⟨0, 0, none⟩ = some (.int .i64 0) ∧ w.cell? ⟨0, 1, none⟩ = some (.int .i64 (-1)) ∧ 0 < w.heap.size
theorem FineAt.below {w w' : World} (h : FineAt w) (hB : Below w.heap.size w w') : FineAt w' :=
  ⟨(hB.cell (p := ⟨0, 0, none⟩) h.2.2).trans h.1, (hB.cell (p := ⟨0, 1, none⟩) h.2.2).trans h.2.1, Nat.lt_of_lt_of_le h.2.2 hB.size⟩
theorem Tryd.infoRTok : (Tryd.prog.info? 95).map (fun i => (i.zero, i.size, i.bytes)) = some (some (.agg #[.int .i64 0, .string ⟨#[]⟩, .int .i64 0, .int .i64 0]), 4, 40) := by kernel_rfl
/-- within the loop: the fault's cell, the tokens so far -/
structure RMid (w w' : World) (v : Value) (l : List Tok) : Prop where
  blk : w'.heap[w.heap.size]? = some (.cells #[.int .i64 0, .int .i64 0] 86 (0, 0))
  bel : Below w.heap.size w w'
  own : w'.ownsRow (w.heap.size + 1) 95 4 v l.length (l.flatMap Tok.cells)
theorem rtoks_snoc {w : World} {base : Nat} {v : Value} {l : List Tok} {t : Tok} (h : w.ownsRow base 95 4 v (l.length + 1) (l.flatMap Tok.cells ++ t.cells)) : w.ownsRow base 95 4 v (l ++ [t]).length ((l ++ [t]).flatMap Tok.cells) := by
  simpa using h
theorem RMid.app {w w1 w2 : World} {v v2 : Value} {l : List Tok} {t : Tok} {o : Obj} (m : RMid w w1 v l) (hg : (w1.alloc o).grownBy w2 v.ownBlock) (hown : w2.ownsRow (w.heap.size + 1) 95 4 v2 (l.length + 1) (l.flatMap Tok.cells ++ t.cells)) : RMid w w2 v2 (l ++ [t]) := by
  have hlt := (Array.getElem?_eq_some_iff.1 m.blk).1
  have hne : v.ownBlock ≠ some w.heap.size := fun e => by have := (World.ownsRow.lt m.own _ e).1; omega
  have hb : Below w1.heap.size w1 (w1.alloc o) := (Below.refl _ _).alloc (Nat.le_refl _) _
  refine ⟨(hg.block w.heap.size (Nat.lt_of_lt_of_le hlt hb.size) (fun e => hne e.symm)).trans ((hb.block _ hlt).trans m.blk), ?_, rtoks_snoc hown⟩
  exact (m.bel.alloc m.bel.size o).grown hg (Nat.le_trans m.bel.size hb.size) fun k hk => by have := (World.ownsRow.lt m.own k hk).1; omega
theorem RMid.app2 {w w1 W w2 : World} {v v2 : Value} {l : List Tok} {t : Tok} (m : RMid w w1 v l) (hB : Below w1.heap.size w1 W) (hg : W.grownBy w2 v.ownBlock) (hown : w2.ownsRow (w.heap.size + 1) 95 4 v2 (l.length + 1) (l.flatMap Tok.cells ++ t.cells)) : RMid w w2 v2 (l ++ [t]) := by
  have hlt := (Array.getElem?_eq_some_iff.1 m.blk).1
  have hne : v.ownBlock ≠ some w.heap.size := fun e => by have := (World.ownsRow.lt m.own _ e).1; omega
  refine ⟨(hg.block w.heap.size (Nat.lt_of_lt_of_le hlt hB.size) (fun e => hne e.symm)).trans ((hB.block _ hlt).trans m.blk), ?_, rtoks_snoc hown⟩
  exact (m.bel.trans (hB.mono m.bel.size)).grown hg (Nat.le_trans m.bel.size hB.size) fun k hk => by have := (World.ownsRow.lt m.own k hk).1; omega
theorem RMid.fin {w w1 : World} {v : Value} {l : List Tok} (m : RMid w w1 v l) (a b : Value) : ((w1.setCell ⟨w.heap.size, 0, none⟩ a).setCell ⟨w.heap.size, 1, none⟩ b).ownsRow w.heap.size 95 4 v l.length (l.flatMap Tok.cells) ∧ Below w.heap.size w ((w1.setCell ⟨w.heap.size, 0, none⟩ a).setCell ⟨w.heap.size, 1, none⟩ b) := by
  refine ⟨ownsRow_base (Nat.le_succ _) (ownsRow_block m.own fun k hk => ?_), (m.bel.setCell (p := ⟨w.heap.size, 0, none⟩) (Nat.le_refl _) a).setCell (p := ⟨w.heap.size, 1, none⟩) (Nat.le_refl _) b⟩
  have := (World.ownsRow.lt m.own k hk).1
  exact (Below.heap_setCell _ _ _ _ (by simp only; omega)).trans (Below.heap_setCell _ _ _ _ (by simp only; omega))
theorem RMid.on {w w1 w2 : World} {v : Value} {l : List Tok} (m : RMid w w1 v l) (h : Below w1.heap.size w1 w2) : RMid w w2 v l :=
  ⟨(h.block _ (Array.getElem?_eq_some_iff.1 m.blk).1).trans m.blk, m.bel.trans (h.mono m.bel.size), ownsRow_block m.own fun k hk => h.block k (World.ownsRow.lt m.own k hk).2⟩

theorem rres {w' : World} {tmps : Array Value} {v : Value} {cb : Nat} {x y : Value} (h2 : tmps.getD 2 undef = v) (h3 : tmps.getD 3 undef = .pointer (some ⟨cb, 0, none⟩)) (hx : w'.cell? ⟨cb, 0, none⟩ = some x) (hy : w'.cell? ⟨cb, 1, none⟩ = some y) :
    (results Tryd.f45 tmps).run Tryd.prog w' = .ok (.tuple #[v, .agg #[x, y]]) w' := by
  have h2' : tmps[2]?.getD undef = v := by simpa using h2
  have h3' : tmps[3]?.getD undef = .pointer (some ⟨cb, 0, none⟩) := by simpa using h3
  simp [results, go_sem, h2', h3', hx, hy]
theorem RMid.put {w w1 : World} {v : Value} {l : List Tok} (m : RMid w w1 v l) (a b : Value) : ((w1.setCell ⟨w.heap.size, 0, none⟩ a).setCell ⟨w.heap.size, 1, none⟩ b).cell? ⟨w.heap.size, 0, none⟩ = some a ∧ ((w1.setCell ⟨w.heap.size, 0, none⟩ a).setCell ⟨w.heap.size, 1, none⟩ b).cell? ⟨w.heap.size, 1, none⟩ = some b := by
  have h1 := setCell_block (o := 1) b (setCell_block (o := 0) a m.blk)
  exact ⟨by simp [World.cell?, h1], by simp [World.cell?, h1]⟩

end Go.Proofs.YtgifgiipojedbaaDoor
