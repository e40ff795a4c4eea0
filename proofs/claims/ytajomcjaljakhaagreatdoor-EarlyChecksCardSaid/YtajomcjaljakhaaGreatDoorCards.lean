/-
  DERIVED. GIVEN WITH THE SEED: THE CARDS: each row of YtajomcjaljakhaaGreatDoorRows.lean that lists a variable, with what it lists TIED to the program's text (the seventh form; the later family's looks); each row that meets fmt, with fmt's text TOLD by the authors' own Lean function (tested against real Go, not proved from fmt's source: count such statements apart). THE CARD IS WHAT COUNTS. Prove the row's statement (the work); the ties are given (YtajomcjaljakhaaGreatDoorTie.lean); close each card by the builder's one call (the guide's Derived/Test/ToyasCard.lean, 'card_holds'). Laid BY PROGRAM, IN A SANDBOX (cutbox-door.mjs). By AI agents, Wed Nov 11 2026. No macro, syntax, notation, axiom, sorry.
-/
import Derived.Test.YtajomcjaljakhaaGreatDoorRows
import GoSem.ClaimSeven
namespace Go.Proofs.YtajomcjaljakhaaGreatDoor
namespace Rows

/-- THE TIED CARD OF 'sloppylaw.EarlyChecks'. -/
def earlyChecksCard : Claim7 := { stood := { row := earlyChecksRow, standIns := [], harness := (true, "9fd6f57fd3b2b0ec1b6d4cb50a4c8d8b0b9c8a3e0385f14040fb2b1474616647"), looks := true }, kinds := [], alts := [], laidByText := true, laidKinds := [.data, .data, .data, .handle, .sentinel, .sentinel, .widerDeep, .data, .widerDeep, .data], laidTests := true, laidLooks := .later }
def EarlyChecksCardSaid : Prop := Claim7.holds Tryz.pinned (.plain (OpenSpec.ofChange earlyChecksSpec)) earlyChecksCard

/-- THE SECOND FORM's CARD OF 'sloppylaw.EarlyChecks'. -/
def earlyChecksUptoCard : Claim7 := { stood := { row := earlyChecksUptoRow, standIns := [], harness := (true, "9fd6f57fd3b2b0ec1b6d4cb50a4c8d8b0b9c8a3e0385f14040fb2b1474616647"), looks := true }, kinds := [], alts := [], laidByText := true, laidKinds := [.data, .data, .data, .handle, .sentinel, .sentinel, .widerDeep, .data, .widerDeep, .data], laidTests := true, laidLooks := .later }
def EarlyChecksUptoCardSaid : Prop := Claim7.holds Tryz.pinned (.plain (OpenSpec.upto earlyChecksSpec)) earlyChecksUptoCard
end Rows
end Go.Proofs.YtajomcjaljakhaaGreatDoor
