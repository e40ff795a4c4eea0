/-
  DERIVED. GIVEN WITH THE SEED: THE CARDS: each row of YtjikfacdcdiddaaGreatDoorRows.lean that lists a variable, with what it lists TIED to the program's text (the seventh form; the later family's looks); each row that meets fmt, with fmt's text TOLD by the authors' own Lean function (tested against real Go, not proved from fmt's source: count such statements apart). THE CARD IS WHAT COUNTS. Prove the row's statement (the work); the ties are given (YtjikfacdcdiddaaGreatDoorTie.lean); close each card by the builder's one call (the guide's Derived/Test/ToyasCard.lean, 'card_holds'). Laid BY PROGRAM, IN A SANDBOX (cutbox-door.mjs). By AI agents, Wed Nov 11 2026. No macro, syntax, notation, axiom, sorry.
-/
import Derived.Test.YtjikfacdcdiddaaGreatDoorRows
import GoSem.ClaimSeven
namespace Go.Proofs.YtjikfacdcdiddaaGreatDoor
namespace Rows

/-- THE TIED CARD OF 'sloppykeep.RunAgain'. -/
def runAgainCard : Claim7 := { stood := { row := runAgainRow, standIns := [], harness := (true, "1b51650d62394b93d03864cf4e9f48cfaa1c5a5c10280e9b483523214e04eec5"), looks := true }, kinds := [], alts := [], laidByText := true, laidKinds := [.data, .data, .data, .handle, .widerDeep, .data, .sentinel], laidTests := true, laidLooks := .later }
def RunAgainCardSaid : Prop := Claim7.holds Tryz.pinned (.plain (OpenSpec.ofChange runAgainSpec)) runAgainCard

/-- THE SECOND FORM's CARD OF 'sloppykeep.RunAgain'. -/
def runAgainUptoCard : Claim7 := { stood := { row := runAgainUptoRow, standIns := [], harness := (true, "1b51650d62394b93d03864cf4e9f48cfaa1c5a5c10280e9b483523214e04eec5"), looks := true }, kinds := [], alts := [], laidByText := true, laidKinds := [.data, .data, .data, .handle, .widerDeep, .data, .sentinel], laidTests := true, laidLooks := .later }
def RunAgainUptoCardSaid : Prop := Claim7.holds Tryz.pinned (.plain (OpenSpec.upto runAgainSpec)) runAgainUptoCard
end Rows
end Go.Proofs.YtjikfacdcdiddaaGreatDoor
