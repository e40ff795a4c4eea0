/- Package lex: quoted, walked. -/
import Derived.Test.YtgifgiipojedbaaDoorLexQ
import Derived.Test.YtgifgiipojedbaaDoorShelfX
namespace Go.Proofs.YtgifgiipojedbaaDoor
open Go Go.RowKit
set_option maxRecDepth 100000

/-- a write to the builder leaves the scanner where it is -/
theorem ScanAt.bfr {w0 w w' : World} {sb b B a : Nat} {text : ByteArray} {p v v' : Value} {bs : List Value} (h : ScanAt w0 w sb text a) (hb : BAt B w b p v bs) (hs : sb < B) (h0 : w0.heap.size ≤ B) (f : BFr w w' b v v') : ScanAt w0 w' sb text a := by
  have hr : ∀ k, k < B → v.ownBlock ≠ some k := fun k hk e => by have := (hb.own.lt k e).1; omega
  have hle := hb.le
  exact ⟨(f.block sb h.lt (by omega) (hr sb hs)).trans h.blk, f.os.trans h.os, f.tape.trans h.tape, f.output.trans h.output, Nat.le_trans h.size f.size,
    fun k hk hn => (f.block k (Nat.lt_of_lt_of_le hk h.size) (by omega) (hr k (by omega))).trans (h.block k hk hn)⟩
/-- a step of the scanner leaves the builder as it is -/
theorem BAt.set {B : Nat} {w : World} {b sb : Nat} {p v : Value} {bs : List Value} (h : BAt B w b p v bs) (hs : sb < B) (x : Value) : BAt B (w.setCell ⟨sb, 1, none⟩ x) b p v bs := by
  have hle := h.le
  exact ⟨(Below.heap_setCell _ _ _ _ (by simp; omega)).trans h.blk, h.ptr, ownsRow_block h.own fun g hg => Below.heap_setCell _ _ _ _ (by have := (h.own.lt g hg).1; simp; omega), h.ne, h.le⟩
theorem BAt.drew {B : Nat} {w : World} {b : Nat} {p v : Value} {bs : List Value} (h : BAt B w b p v bs) : BAt B w.drew b p v bs := ⟨h.blk, h.ptr, h.own, h.ne, h.le⟩
theorem BAt.new (w : World) : BAt w.heap.size (w.alloc (.cells #[.pointer none, .slice none 0 0] 130)) w.heap.size (.pointer none) (.slice none 0 0) [] :=
  ⟨heap_alloc_new w _, .inl rfl, World.ownsRow_nil _ _ _ _, by simp [Value.ownBlock], Nat.le_refl _⟩
end Go.Proofs.YtgifgiipojedbaaDoor
