/-
  DERIVED. GIVEN WITH THE SEED: THE CARDS: each row of YtkebnpemgkjpkaaGreatDoorRows.lean that lists a variable, with what it lists TIED to the program's text (the seventh form; the later family's looks); each row that meets fmt, with fmt's text TOLD by the authors' own Lean function (tested against real Go, not proved from fmt's source: count such statements apart). THE CARD IS WHAT COUNTS. Prove the row's statement (the work); the ties are given (YtkebnpemgkjpkaaGreatDoorTie.lean); close each card by the builder's one call (the guide's Derived/Test/ToyasCard.lean, 'card_holds'). Laid BY PROGRAM, IN A SANDBOX (cutbox-door.mjs). By AI agents, Wed Nov 11 2026. No macro, syntax, notation, axiom, sorry.
-/
import Derived.Test.YtkebnpemgkjpkaaGreatDoorRows
import GoSem.ClaimSeven
namespace Go.Proofs.YtkebnpemgkjpkaaGreatDoor
namespace Rows

/-- THE TIED CARD OF 'sloppykeep.RunStricter'. -/
def runStricterCard : Claim7 := { stood := { row := runStricterRow, standIns := [], harness := (true, "0af22f56da0f3913b1bb5a8c054bb635f9ce36d454700ec5cc8d439b55b8e7d1"), looks := true }, kinds := [], alts := [], laidByText := true, laidKinds := [.data, .data, .data, .handle, .widerDeep, .data, .sentinel], laidTests := true, laidLooks := .later }
def RunStricterCardSaid : Prop := Claim7.holds Tryz.pinned (.plain (OpenSpec.ofChange runStricterSpec)) runStricterCard

/-- THE SECOND FORM's CARD OF 'sloppykeep.RunStricter'. -/
def runStricterUptoCard : Claim7 := { stood := { row := runStricterUptoRow, standIns := [], harness := (true, "0af22f56da0f3913b1bb5a8c054bb635f9ce36d454700ec5cc8d439b55b8e7d1"), looks := true }, kinds := [], alts := [], laidByText := true, laidKinds := [.data, .data, .data, .handle, .widerDeep, .data, .sentinel], laidTests := true, laidLooks := .later }
def RunStricterUptoCardSaid : Prop := Claim7.holds Tryz.pinned (.plain (OpenSpec.upto runStricterSpec)) runStricterUptoCard
end Rows
end Go.Proofs.YtkebnpemgkjpkaaGreatDoor
