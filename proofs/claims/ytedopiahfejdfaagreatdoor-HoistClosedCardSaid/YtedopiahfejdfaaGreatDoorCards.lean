/-
  DERIVED. GIVEN WITH THE SEED: THE CARDS: each row of YtedopiahfejdfaaGreatDoorRows.lean that lists a variable, with what it lists TIED to the program's text (the seventh form; the later family's looks); each row that meets fmt, with fmt's text TOLD by the authors' own Lean function (tested against real Go, not proved from fmt's source: count such statements apart). THE CARD IS WHAT COUNTS. Prove the row's statement (the work); the ties are given (YtedopiahfejdfaaGreatDoorTie.lean); close each card by the builder's one call (the guide's Derived/Test/ToyasCard.lean, 'card_holds'). Laid BY PROGRAM, IN A SANDBOX (cutbox-door.mjs). By AI agents, Wed Nov 11 2026. No macro, syntax, notation, axiom, sorry.
-/
import Derived.Test.YtedopiahfejdfaaGreatDoorRows
import GoSem.ClaimSeven
namespace Go.Proofs.YtedopiahfejdfaaGreatDoor
namespace Rows

/-- THE TIED CARD OF 'sloppykeep.HoistClosed'. -/
def hoistClosedCard : Claim7 := { stood := { row := hoistClosedRow, standIns := [], harness := (true, "cba7eb8cb418c3a1f2fcdaa45d95a7a8013097819a3e3ab706ac5415955e1b95"), looks := true }, kinds := [], alts := [], laidByText := true, laidKinds := [.data, .handle, .widerDeep, .data, .pinned], laidTests := true, laidLooks := .later }
def HoistClosedCardSaid : Prop := Claim7.holds Tryz.pinned (.plain (OpenSpec.ofChange hoistClosedSpec)) hoistClosedCard

/-- THE SECOND FORM's CARD OF 'sloppykeep.HoistClosed'. -/
def hoistClosedUptoCard : Claim7 := { stood := { row := hoistClosedUptoRow, standIns := [], harness := (true, "cba7eb8cb418c3a1f2fcdaa45d95a7a8013097819a3e3ab706ac5415955e1b95"), looks := true }, kinds := [], alts := [], laidByText := true, laidKinds := [.data, .handle, .widerDeep, .data, .pinned], laidTests := true, laidLooks := .later }
def HoistClosedUptoCardSaid : Prop := Claim7.holds Tryz.pinned (.plain (OpenSpec.upto hoistClosedSpec)) hoistClosedUptoCard
end Rows
end Go.Proofs.YtedopiahfejdfaaGreatDoor
