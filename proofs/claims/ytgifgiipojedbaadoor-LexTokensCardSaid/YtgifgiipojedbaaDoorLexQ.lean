/- Package lex: what 'quoted' computes (the walk is still to be written). -/
import Derived.Test.YtgifgiipojedbaaDoorLexR
import Derived.Test.YtgifgiipojedbaaDoorBuild2
namespace Go.Proofs.YtgifgiipojedbaaDoor
open Go Go.RowKit
set_option maxRecDepth 100000

/-- the byte that stands for an escape; none: there is none -/
def escOf (c : Int) : Option UInt8 := if c = 110 then some 10 else if c = 39 then some 39 else if c = 92 then some 92 else none
/-- text, error, and where it stands: from the byte behind the opening quote on -/
def quotedF (text : ByteArray) : Nat → Nat → List UInt8 → List UInt8 × Int × Nat
  | 0, i, _ => ([], 3, i)
  | f + 1, i, acc =>
    if text.size ≤ i ∨ byteAt text i = 10 then ([], 3, i)
    else if byteAt text i = 39 then (if 500 < acc.length then ([], 4, i + 1) else (acc, 0, i + 1))
    else if byteAt text i = 92 then
      (if i + 1 < text.size then
        match escOf (byteAt text (i + 1)) with
        | some e => quotedF text f (i + 2) (acc ++ [e])
        | none => ([], 3, i + 1)
      else ([], 3, i + 1))
    else quotedF text f (i + 1) (acc ++ [text.data.getD i 0])
def quotedAt (text : ByteArray) (i : Nat) : List UInt8 × Int × Nat := quotedF text (text.size + 1 - i) i []
end Go.Proofs.YtgifgiipojedbaaDoor
