/-
  DERIVED. GIVEN WITH THE SEED: THE CARDS: each row of YtmjfllklcpjddaaGreatDoorRows.lean that lists a variable, with what it lists TIED to the program's text (the seventh form; the later family's looks); each row that meets fmt, with fmt's text TOLD by the authors' own Lean function (tested against real Go, not proved from fmt's source: count such statements apart). THE CARD IS WHAT COUNTS. Prove the row's statement (the work); the ties are given (YtmjfllklcpjddaaGreatDoorTie.lean); close each card by the builder's one call (the guide's Derived/Test/ToyasCard.lean, 'card_holds'). Laid BY PROGRAM, IN A SANDBOX (cutbox-door.mjs). By AI agents, Wed Nov 11 2026. No macro, syntax, notation, axiom, sorry.
-/
import Derived.Test.YtmjfllklcpjddaaGreatDoorRows
import GoSem.ClaimSeven
namespace Go.Proofs.YtmjfllklcpjddaaGreatDoor
namespace Rows

/-- THE TIED CARD OF 'sloppylaw.HoistFree'. -/
def hoistFreeCard : Claim7 := { stood := { row := hoistFreeRow, standIns := [], harness := (true, "7a8946a5cc46507b0e2610ef9affcf8434da1ba19e9306b08fb4d0f408e50896"), looks := true }, kinds := [], alts := [], laidByText := true, laidKinds := [.data, .data, .data, .sentinel, .sentinel, .widerDeep, .data, .widerDeep, .data], laidTests := true, laidLooks := .later }
def HoistFreeCardSaid : Prop := Claim7.holds Tryz.pinned (.plain (OpenSpec.ofChange hoistFreeSpec)) hoistFreeCard

/-- THE SECOND FORM's CARD OF 'sloppylaw.HoistFree'. -/
def hoistFreeUptoCard : Claim7 := { stood := { row := hoistFreeUptoRow, standIns := [], harness := (true, "7a8946a5cc46507b0e2610ef9affcf8434da1ba19e9306b08fb4d0f408e50896"), looks := true }, kinds := [], alts := [], laidByText := true, laidKinds := [.data, .data, .data, .sentinel, .sentinel, .widerDeep, .data, .widerDeep, .data], laidTests := true, laidLooks := .later }
def HoistFreeUptoCardSaid : Prop := Claim7.holds Tryz.pinned (.plain (OpenSpec.upto hoistFreeSpec)) hoistFreeUptoCard
end Rows
end Go.Proofs.YtmjfllklcpjddaaGreatDoor
