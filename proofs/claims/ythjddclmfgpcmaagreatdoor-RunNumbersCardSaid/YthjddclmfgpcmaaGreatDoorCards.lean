/-
  DERIVED. GIVEN WITH THE SEED: THE CARDS: each row of YthjddclmfgpcmaaGreatDoorRows.lean that lists a variable, with what it lists TIED to the program's text (the seventh form; the later family's looks); each row that meets fmt, with fmt's text TOLD by the authors' own Lean function (tested against real Go, not proved from fmt's source: count such statements apart). THE CARD IS WHAT COUNTS. Prove the row's statement (the work); the ties are given (YthjddclmfgpcmaaGreatDoorTie.lean); close each card by the builder's one call (the guide's Derived/Test/ToyasCard.lean, 'card_holds'). Laid BY PROGRAM, IN A SANDBOX (cutbox-door.mjs). By AI agents, Wed Nov 11 2026. No macro, syntax, notation, axiom, sorry.
-/
import Derived.Test.YthjddclmfgpcmaaGreatDoorRows
import GoSem.ClaimSeven
namespace Go.Proofs.YthjddclmfgpcmaaGreatDoor
namespace Rows

/-- THE TIED CARD OF 'sloppylaw.RunNumbers'. -/
def runNumbersCard : Claim7 := { stood := { row := runNumbersRow, standIns := [], harness := (true, "ae7cf07fa0b7654c9b415486f84a8a661404d1ddead27197cb2ccd9fe20ab3f9"), looks := true }, kinds := [], alts := [], laidByText := true, laidKinds := [.data, .data, .data, .sentinel, .sentinel, .widerDeep, .data, .widerDeep, .data], laidTests := true, laidLooks := .later }
def RunNumbersCardSaid : Prop := Claim7.holds Tryz.pinned (.plain (OpenSpec.ofChange runNumbersSpec)) runNumbersCard

/-- THE SECOND FORM's CARD OF 'sloppylaw.RunNumbers'. -/
def runNumbersUptoCard : Claim7 := { stood := { row := runNumbersUptoRow, standIns := [], harness := (true, "ae7cf07fa0b7654c9b415486f84a8a661404d1ddead27197cb2ccd9fe20ab3f9"), looks := true }, kinds := [], alts := [], laidByText := true, laidKinds := [.data, .data, .data, .sentinel, .sentinel, .widerDeep, .data, .widerDeep, .data], laidTests := true, laidLooks := .later }
def RunNumbersUptoCardSaid : Prop := Claim7.holds Tryz.pinned (.plain (OpenSpec.upto runNumbersSpec)) runNumbersUptoCard
end Rows
end Go.Proofs.YthjddclmfgpcmaaGreatDoor
