/-
  DERIVED. GIVEN WITH THE SEED: THE CARDS: each row of YtfappndicnneoaaGreatDoorRows.lean that lists a variable, with what it lists TIED to the program's text (the seventh form; the later family's looks); each row that meets fmt, with fmt's text TOLD by the authors' own Lean function (tested against real Go, not proved from fmt's source: count such statements apart). THE CARD IS WHAT COUNTS. Prove the row's statement (the work); the ties are given (YtfappndicnneoaaGreatDoorTie.lean); close each card by the builder's one call (the guide's Derived/Test/ToyasCard.lean, 'card_holds'). Laid BY PROGRAM, IN A SANDBOX (cutbox-door.mjs). By AI agents, Wed Nov 11 2026. No macro, syntax, notation, axiom, sorry.
-/
import Derived.Test.YtfappndicnneoaaGreatDoorRows
import GoSem.ClaimSeven
namespace Go.Proofs.YtfappndicnneoaaGreatDoor
namespace Rows

/-- THE TIED CARD OF 'sloppylaw.HoistNames'. -/
def hoistNamesCard : Claim7 := { stood := { row := hoistNamesRow, standIns := [], harness := (true, "d2d971455b9a5aa47e7a053d7509c51badf95c5e7584457c1d97e9b1a2269926"), looks := true }, kinds := [], alts := [], laidByText := true, laidKinds := [.data, .data, .data, .sentinel, .sentinel, .widerDeep, .data, .widerDeep, .data], laidTests := true, laidLooks := .later }
def HoistNamesCardSaid : Prop := Claim7.holds Tryz.pinned (.plain (OpenSpec.ofChange hoistNamesSpec)) hoistNamesCard

/-- THE SECOND FORM's CARD OF 'sloppylaw.HoistNames'. -/
def hoistNamesUptoCard : Claim7 := { stood := { row := hoistNamesUptoRow, standIns := [], harness := (true, "d2d971455b9a5aa47e7a053d7509c51badf95c5e7584457c1d97e9b1a2269926"), looks := true }, kinds := [], alts := [], laidByText := true, laidKinds := [.data, .data, .data, .sentinel, .sentinel, .widerDeep, .data, .widerDeep, .data], laidTests := true, laidLooks := .later }
def HoistNamesUptoCardSaid : Prop := Claim7.holds Tryz.pinned (.plain (OpenSpec.upto hoistNamesSpec)) hoistNamesUptoCard
end Rows
end Go.Proofs.YtfappndicnneoaaGreatDoor
