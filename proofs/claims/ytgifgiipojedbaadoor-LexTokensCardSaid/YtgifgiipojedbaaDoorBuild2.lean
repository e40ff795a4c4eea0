/- strings.Builder: Len and String by the shelf. -/
import Derived.Test.YtgifgiipojedbaaDoorBuild
import Derived.Test.YtgifgiipojedbaaDoorShelfB
namespace Go.Proofs.YtgifgiipojedbaaDoor
open Go Go.RowKit
set_option maxRecDepth 100000
theorem BAt.is {B : Nat} {w : World} {b : Nat} {p v : Value} {bs : List Value} (h : BAt B w b p v bs) : Lib.IsBuilder 130 5 B b bs w := by
  obtain ⟨hb, hp, ho, hn, hl⟩ := h
  rcases hp with rfl | rfl
  · exact .inl ⟨hl, v, hb, ho, hn⟩
  · exact .inr ⟨hl, v, hb, ho, hn⟩
theorem len_any {B : Nat} {w : World} {b : Nat} {p v : Value} {bs : List Value} (h : BAt B w b p v bs) :
    Calls Tryd.prog 99 #[.pointer (some ⟨b, 0, none⟩)] w fun e w' => e = .returned (.int .i64 bs.length) ∧ w' = w := Tryd.Builder_Len B b bs w h.is
theorem string_any {B : Nat} {w : World} {b : Nat} {p v : Value} (l : List UInt8) (h : BAt B w b p v (Lib.byteCells l)) (hB : B ≤ w.heap.size) :
    Calls Tryd.prog 61 #[.pointer (some ⟨b, 0, none⟩)] w fun e w' => e = .returned (.string ⟨l.toArray⟩) ∧ Below B w w' := Tryd.Builder_String_any B b l w h.is hB
end Go.Proofs.YtgifgiipojedbaaDoor
