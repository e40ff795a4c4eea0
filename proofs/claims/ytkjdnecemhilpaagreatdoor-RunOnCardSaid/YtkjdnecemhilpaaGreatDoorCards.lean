/-
  DERIVED. GIVEN WITH THE SEED: THE CARDS: each row of YtkjdnecemhilpaaGreatDoorRows.lean that lists a variable, with what it lists TIED to the program's text (the seventh form; the later family's looks); each row that meets fmt, with fmt's text TOLD by the authors' own Lean function (tested against real Go, not proved from fmt's source: count such statements apart). THE CARD IS WHAT COUNTS. Prove the row's statement (the work); the ties are given (YtkjdnecemhilpaaGreatDoorTie.lean); close each card by the builder's one call (the guide's Derived/Test/ToyasCard.lean, 'card_holds'). Laid BY PROGRAM, IN A SANDBOX (cutbox-door.mjs). By AI agents, Wed Nov 11 2026. No macro, syntax, notation, axiom, sorry.
-/
import Derived.Test.YtkjdnecemhilpaaGreatDoorRows
import GoSem.ClaimSeven
namespace Go.Proofs.YtkjdnecemhilpaaGreatDoor
namespace Rows

/-- THE TIED CARD OF 'sloppykeep.RunOn'. -/
def runOnCard : Claim7 := { stood := { row := runOnRow, standIns := [], harness := (true, "d5106a97e37152da69b76351932a77a68e575af087bd957f5b008244a819a03d"), looks := true }, kinds := [], alts := [], laidByText := true, laidKinds := [.data, .data, .data, .handle, .widerDeep, .data, .sentinel], laidTests := true, laidLooks := .later }
def RunOnCardSaid : Prop := Claim7.holds Tryz.pinned (.plain (OpenSpec.ofChange runOnSpec)) runOnCard

/-- THE SECOND FORM's CARD OF 'sloppykeep.RunOn'. -/
def runOnUptoCard : Claim7 := { stood := { row := runOnUptoRow, standIns := [], harness := (true, "d5106a97e37152da69b76351932a77a68e575af087bd957f5b008244a819a03d"), looks := true }, kinds := [], alts := [], laidByText := true, laidKinds := [.data, .data, .data, .handle, .widerDeep, .data, .sentinel], laidTests := true, laidLooks := .later }
def RunOnUptoCardSaid : Prop := Claim7.holds Tryz.pinned (.plain (OpenSpec.upto runOnSpec)) runOnUptoCard
end Rows
end Go.Proofs.YtkjdnecemhilpaaGreatDoor
