/-
  DERIVED. GIVEN WITH THE SEED: THE CARDS: each row of YtmeiggjboakmpaaGreatDoorRows.lean that lists a variable, with what it lists TIED to the program's text (the seventh form; the later family's looks); each row that meets fmt, with fmt's text TOLD by the authors' own Lean function (tested against real Go, not proved from fmt's source: count such statements apart). THE CARD IS WHAT COUNTS. Prove the row's statement (the work); the ties are given (YtmeiggjboakmpaaGreatDoorTie.lean); close each card by the builder's one call (the guide's Derived/Test/ToyasCard.lean, 'card_holds'). Laid BY PROGRAM, IN A SANDBOX (cutbox-door.mjs). By AI agents, Wed Nov 11 2026. No macro, syntax, notation, axiom, sorry.
-/
import Derived.Test.YtmeiggjboakmpaaGreatDoorRows
import GoSem.ClaimSeven
namespace Go.Proofs.YtmeiggjboakmpaaGreatDoor
namespace Rows

/-- THE TIED CARD OF 'sloppylaw.TreeParses'. -/
def treeParsesCard : Claim7 := { stood := { row := treeParsesRow, standIns := [], harness := (true, "e52a90c477cdecef45e0c532c7309ec3068483d7c774c1c09b28346e08bc0a22"), looks := true }, kinds := [], alts := [], laidByText := true, laidKinds := [.data, .data, .data, .handle, .sentinel, .sentinel, .widerDeep, .data, .widerDeep, .data, .data, .data], laidTests := true, laidLooks := .later }
def TreeParsesCardSaid : Prop := Claim7.holds Tryz.pinned (.plain (OpenSpec.ofChange treeParsesSpec)) treeParsesCard

/-- THE SECOND FORM's CARD OF 'sloppylaw.TreeParses'. -/
def treeParsesUptoCard : Claim7 := { stood := { row := treeParsesUptoRow, standIns := [], harness := (true, "e52a90c477cdecef45e0c532c7309ec3068483d7c774c1c09b28346e08bc0a22"), looks := true }, kinds := [], alts := [], laidByText := true, laidKinds := [.data, .data, .data, .handle, .sentinel, .sentinel, .widerDeep, .data, .widerDeep, .data, .data, .data], laidTests := true, laidLooks := .later }
def TreeParsesUptoCardSaid : Prop := Claim7.holds Tryz.pinned (.plain (OpenSpec.upto treeParsesSpec)) treeParsesUptoCard
end Rows
end Go.Proofs.YtmeiggjboakmpaaGreatDoor
