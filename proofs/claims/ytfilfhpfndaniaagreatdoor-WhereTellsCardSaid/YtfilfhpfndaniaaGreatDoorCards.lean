/-
  DERIVED. GIVEN WITH THE SEED: THE CARDS: each row of YtfilfhpfndaniaaGreatDoorRows.lean that lists a variable, with what it lists TIED to the program's text (the seventh form; the later family's looks); each row that meets fmt, with fmt's text TOLD by the authors' own Lean function (tested against real Go, not proved from fmt's source: count such statements apart). THE CARD IS WHAT COUNTS. Prove the row's statement (the work); the ties are given (YtfilfhpfndaniaaGreatDoorTie.lean); close each card by the builder's one call (the guide's Derived/Test/ToyasCard.lean, 'card_holds'). Laid BY PROGRAM, IN A SANDBOX (cutbox-door.mjs). By AI agents, Wed Nov 11 2026. No macro, syntax, notation, axiom, sorry.
-/
import Derived.Test.YtfilfhpfndaniaaGreatDoorRows
import GoSem.ClaimSeven
namespace Go.Proofs.YtfilfhpfndaniaaGreatDoor
namespace Rows

/-- THE TIED CARD OF 'sloppylaw.WhereTells'. -/
def whereTellsCard : Claim7 := { stood := { row := whereTellsRow, standIns := [], harness := (true, "1ddc8a082b7e73266787af4c9233602a9f8302ff1cd002d650948609237940ce"), looks := true }, kinds := [], alts := [], laidByText := true, laidKinds := [.data, .data, .data, .sentinel, .sentinel, .widerDeep, .data, .widerDeep, .data], laidTests := true, laidLooks := .later }
def WhereTellsCardSaid : Prop := Claim7.holds Tryz.pinned (.plain (OpenSpec.ofChange whereTellsSpec)) whereTellsCard

/-- THE SECOND FORM's CARD OF 'sloppylaw.WhereTells'. -/
def whereTellsUptoCard : Claim7 := { stood := { row := whereTellsUptoRow, standIns := [], harness := (true, "1ddc8a082b7e73266787af4c9233602a9f8302ff1cd002d650948609237940ce"), looks := true }, kinds := [], alts := [], laidByText := true, laidKinds := [.data, .data, .data, .sentinel, .sentinel, .widerDeep, .data, .widerDeep, .data], laidTests := true, laidLooks := .later }
def WhereTellsUptoCardSaid : Prop := Claim7.holds Tryz.pinned (.plain (OpenSpec.upto whereTellsSpec)) whereTellsUptoCard
end Rows
end Go.Proofs.YtfilfhpfndaniaaGreatDoor
