/-
  DERIVED. GIVEN WITH THE SEED: THE CARDS: each row of YtgmnfgljkocnpaaGreatDoorRows.lean that lists a variable, with what it lists TIED to the program's text (the seventh form; the later family's looks); each row that meets fmt, with fmt's text TOLD by the authors' own Lean function (tested against real Go, not proved from fmt's source: count such statements apart). THE CARD IS WHAT COUNTS. Prove the row's statement (the work); the ties are given (YtgmnfgljkocnpaaGreatDoorTie.lean); close each card by the builder's one call (the guide's Derived/Test/ToyasCard.lean, 'card_holds'). Laid BY PROGRAM, IN A SANDBOX (cutbox-door.mjs). By AI agents, Wed Nov 11 2026. No macro, syntax, notation, axiom, sorry.
-/
import Derived.Test.YtgmnfgljkocnpaaGreatDoorRows
import GoSem.ClaimSeven
namespace Go.Proofs.YtgmnfgljkocnpaaGreatDoor
namespace Rows

/-- THE TIED CARD OF 'sloppylaw.AlphaOwns'. -/
def alphaOwnsCard : Claim7 := { stood := { row := alphaOwnsRow, standIns := [], harness := (true, "3c52be56832b4dd8d92467b705548b1098aa7b32a9d5ff48a0db9469e90f13af"), looks := true }, kinds := [], alts := [], laidByText := true, laidKinds := [.data, .data, .data, .sentinel, .sentinel, .widerDeep, .data, .widerDeep, .data], laidTests := true, laidLooks := .later }
def AlphaOwnsCardSaid : Prop := Claim7.holds Tryz.pinned (.plain (OpenSpec.ofChange alphaOwnsSpec)) alphaOwnsCard

/-- THE SECOND FORM's CARD OF 'sloppylaw.AlphaOwns'. -/
def alphaOwnsUptoCard : Claim7 := { stood := { row := alphaOwnsUptoRow, standIns := [], harness := (true, "3c52be56832b4dd8d92467b705548b1098aa7b32a9d5ff48a0db9469e90f13af"), looks := true }, kinds := [], alts := [], laidByText := true, laidKinds := [.data, .data, .data, .sentinel, .sentinel, .widerDeep, .data, .widerDeep, .data], laidTests := true, laidLooks := .later }
def AlphaOwnsUptoCardSaid : Prop := Claim7.holds Tryz.pinned (.plain (OpenSpec.upto alphaOwnsSpec)) alphaOwnsUptoCard
end Rows
end Go.Proofs.YtgmnfgljkocnpaaGreatDoor
