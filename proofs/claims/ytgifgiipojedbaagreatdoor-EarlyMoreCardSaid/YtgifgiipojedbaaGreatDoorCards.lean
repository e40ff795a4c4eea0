/-
  DERIVED. GIVEN WITH THE SEED: THE CARDS: each row of YtgifgiipojedbaaGreatDoorRows.lean that lists a variable, with what it lists TIED to the program's text (the seventh form; the later family's looks); each row that meets fmt, with fmt's text TOLD by the authors' own Lean function (tested against real Go, not proved from fmt's source: count such statements apart). THE CARD IS WHAT COUNTS. Prove the row's statement (the work); the ties are given (YtgifgiipojedbaaGreatDoorTie.lean); close each card by the builder's one call (the guide's Derived/Test/ToyasCard.lean, 'card_holds'). Laid BY PROGRAM, IN A SANDBOX (cutbox-door.mjs). By AI agents, Wed Nov 11 2026. No macro, syntax, notation, axiom, sorry.
-/
import Derived.Test.YtgifgiipojedbaaGreatDoorRows
import GoSem.ClaimSeven
namespace Go.Proofs.YtgifgiipojedbaaGreatDoor
namespace Rows

/-- THE TIED CARD OF 'sloppykeep.EarlyMore'. -/
def earlyMoreCard : Claim7 := { stood := { row := earlyMoreRow, standIns := [], harness := (true, "7f73465bb55f5144827b10b7fcaddd20251200458df2a7f47a7bab9ae96eeb76"), looks := true }, kinds := [], alts := [], laidByText := true, laidKinds := [.handle, .widerDeep, .data], laidTests := true, laidLooks := .later }
def EarlyMoreCardSaid : Prop := Claim7.holds Tryz.pinned (.plain (OpenSpec.ofChange earlyMoreSpec)) earlyMoreCard

/-- THE TIED CARD OF 'sloppylaw.RunNumbers'. -/
def runNumbersCard : Claim7 := { stood := { row := runNumbersRow, standIns := [], harness := (true, "7f73465bb55f5144827b10b7fcaddd20251200458df2a7f47a7bab9ae96eeb76"), looks := true }, kinds := [], alts := [], laidByText := true, laidKinds := [.data, .data, .data, .sentinel, .sentinel, .widerDeep, .data, .widerDeep, .data], laidTests := true, laidLooks := .later }
def RunNumbersCardSaid : Prop := Claim7.holds Tryz.pinned (.plain (OpenSpec.ofChange runNumbersSpec)) runNumbersCard

/-- THE TIED CARD OF 'sloppylaw.TreeWalks'. -/
def treeWalksCard : Claim7 := { stood := { row := treeWalksRow, standIns := [], harness := (true, "7f73465bb55f5144827b10b7fcaddd20251200458df2a7f47a7bab9ae96eeb76"), looks := true }, kinds := [], alts := [], laidByText := true, laidKinds := [.data, .data, .data, .sentinel, .sentinel, .widerDeep, .data, .widerDeep, .data], laidTests := true, laidLooks := .later }
def TreeWalksCardSaid : Prop := Claim7.holds Tryz.pinned (.plain (OpenSpec.ofChange treeWalksSpec)) treeWalksCard

/-- THE TIED CARD OF 'sloppylaw.HoistNames'. -/
def hoistNamesCard : Claim7 := { stood := { row := hoistNamesRow, standIns := [], harness := (true, "7f73465bb55f5144827b10b7fcaddd20251200458df2a7f47a7bab9ae96eeb76"), looks := true }, kinds := [], alts := [], laidByText := true, laidKinds := [.data, .data, .data, .sentinel, .sentinel, .widerDeep, .data, .widerDeep, .data], laidTests := true, laidLooks := .later }
def HoistNamesCardSaid : Prop := Claim7.holds Tryz.pinned (.plain (OpenSpec.ofChange hoistNamesSpec)) hoistNamesCard

/-- THE TIED CARD OF 'sloppylaw.AlphaOwns'. -/
def alphaOwnsCard : Claim7 := { stood := { row := alphaOwnsRow, standIns := [], harness := (true, "7f73465bb55f5144827b10b7fcaddd20251200458df2a7f47a7bab9ae96eeb76"), looks := true }, kinds := [], alts := [], laidByText := true, laidKinds := [.data, .data, .data, .sentinel, .sentinel, .widerDeep, .data, .widerDeep, .data], laidTests := true, laidLooks := .later }
def AlphaOwnsCardSaid : Prop := Claim7.holds Tryz.pinned (.plain (OpenSpec.ofChange alphaOwnsSpec)) alphaOwnsCard

/-- THE TIED CARD OF 'sloppylaw.WhereTells'. -/
def whereTellsCard : Claim7 := { stood := { row := whereTellsRow, standIns := [], harness := (true, "7f73465bb55f5144827b10b7fcaddd20251200458df2a7f47a7bab9ae96eeb76"), looks := true }, kinds := [], alts := [], laidByText := true, laidKinds := [.data, .data, .data, .sentinel, .sentinel, .widerDeep, .data, .widerDeep, .data], laidTests := true, laidLooks := .later }
def WhereTellsCardSaid : Prop := Claim7.holds Tryz.pinned (.plain (OpenSpec.ofChange whereTellsSpec)) whereTellsCard

/-- THE TIED CARD OF 'sloppykeep.TreeBack'. -/
def treeBackCard : Claim7 := { stood := { row := treeBackRow, standIns := [], harness := (true, "7f73465bb55f5144827b10b7fcaddd20251200458df2a7f47a7bab9ae96eeb76"), looks := true }, kinds := [], alts := [], laidByText := true, laidKinds := [.data, .data, .data, .handle, .widerDeep, .data, .data, .data], laidTests := true, laidLooks := .later }
def TreeBackCardSaid : Prop := Claim7.holds Tryz.pinned (.plain (OpenSpec.ofChange treeBackSpec)) treeBackCard

/-- THE TIED CARD OF 'sloppykeep.TreeJoins'. -/
def treeJoinsCard : Claim7 := { stood := { row := treeJoinsRow, standIns := [], harness := (true, "7f73465bb55f5144827b10b7fcaddd20251200458df2a7f47a7bab9ae96eeb76"), looks := true }, kinds := [], alts := [], laidByText := true, laidKinds := [.data, .data, .data, .handle, .widerDeep, .data, .data, .data], laidTests := true, laidLooks := .later }
def TreeJoinsCardSaid : Prop := Claim7.holds Tryz.pinned (.plain (OpenSpec.ofChange treeJoinsSpec)) treeJoinsCard

/-- THE TIED CARD OF 'sloppylaw.EarlyChecks'. -/
def earlyChecksCard : Claim7 := { stood := { row := earlyChecksRow, standIns := [], harness := (true, "7f73465bb55f5144827b10b7fcaddd20251200458df2a7f47a7bab9ae96eeb76"), looks := true }, kinds := [], alts := [], laidByText := true, laidKinds := [.data, .data, .data, .handle, .sentinel, .sentinel, .widerDeep, .data, .widerDeep, .data], laidTests := true, laidLooks := .later }
def EarlyChecksCardSaid : Prop := Claim7.holds Tryz.pinned (.plain (OpenSpec.ofChange earlyChecksSpec)) earlyChecksCard

/-- THE SECOND FORM's CARD OF 'sloppykeep.EarlyMore'. -/
def earlyMoreUptoCard : Claim7 := { stood := { row := earlyMoreUptoRow, standIns := [], harness := (true, "7f73465bb55f5144827b10b7fcaddd20251200458df2a7f47a7bab9ae96eeb76"), looks := true }, kinds := [], alts := [], laidByText := true, laidKinds := [.handle, .widerDeep, .data], laidTests := true, laidLooks := .later }
def EarlyMoreUptoCardSaid : Prop := Claim7.holds Tryz.pinned (.plain (OpenSpec.upto earlyMoreSpec)) earlyMoreUptoCard

/-- THE SECOND FORM's CARD OF 'sloppylaw.RunNumbers'. -/
def runNumbersUptoCard : Claim7 := { stood := { row := runNumbersUptoRow, standIns := [], harness := (true, "7f73465bb55f5144827b10b7fcaddd20251200458df2a7f47a7bab9ae96eeb76"), looks := true }, kinds := [], alts := [], laidByText := true, laidKinds := [.data, .data, .data, .sentinel, .sentinel, .widerDeep, .data, .widerDeep, .data], laidTests := true, laidLooks := .later }
def RunNumbersUptoCardSaid : Prop := Claim7.holds Tryz.pinned (.plain (OpenSpec.upto runNumbersSpec)) runNumbersUptoCard

/-- THE SECOND FORM's CARD OF 'sloppylaw.TreeWalks'. -/
def treeWalksUptoCard : Claim7 := { stood := { row := treeWalksUptoRow, standIns := [], harness := (true, "7f73465bb55f5144827b10b7fcaddd20251200458df2a7f47a7bab9ae96eeb76"), looks := true }, kinds := [], alts := [], laidByText := true, laidKinds := [.data, .data, .data, .sentinel, .sentinel, .widerDeep, .data, .widerDeep, .data], laidTests := true, laidLooks := .later }
def TreeWalksUptoCardSaid : Prop := Claim7.holds Tryz.pinned (.plain (OpenSpec.upto treeWalksSpec)) treeWalksUptoCard

/-- THE SECOND FORM's CARD OF 'sloppylaw.HoistNames'. -/
def hoistNamesUptoCard : Claim7 := { stood := { row := hoistNamesUptoRow, standIns := [], harness := (true, "7f73465bb55f5144827b10b7fcaddd20251200458df2a7f47a7bab9ae96eeb76"), looks := true }, kinds := [], alts := [], laidByText := true, laidKinds := [.data, .data, .data, .sentinel, .sentinel, .widerDeep, .data, .widerDeep, .data], laidTests := true, laidLooks := .later }
def HoistNamesUptoCardSaid : Prop := Claim7.holds Tryz.pinned (.plain (OpenSpec.upto hoistNamesSpec)) hoistNamesUptoCard

/-- THE SECOND FORM's CARD OF 'sloppylaw.AlphaOwns'. -/
def alphaOwnsUptoCard : Claim7 := { stood := { row := alphaOwnsUptoRow, standIns := [], harness := (true, "7f73465bb55f5144827b10b7fcaddd20251200458df2a7f47a7bab9ae96eeb76"), looks := true }, kinds := [], alts := [], laidByText := true, laidKinds := [.data, .data, .data, .sentinel, .sentinel, .widerDeep, .data, .widerDeep, .data], laidTests := true, laidLooks := .later }
def AlphaOwnsUptoCardSaid : Prop := Claim7.holds Tryz.pinned (.plain (OpenSpec.upto alphaOwnsSpec)) alphaOwnsUptoCard

/-- THE SECOND FORM's CARD OF 'sloppylaw.WhereTells'. -/
def whereTellsUptoCard : Claim7 := { stood := { row := whereTellsUptoRow, standIns := [], harness := (true, "7f73465bb55f5144827b10b7fcaddd20251200458df2a7f47a7bab9ae96eeb76"), looks := true }, kinds := [], alts := [], laidByText := true, laidKinds := [.data, .data, .data, .sentinel, .sentinel, .widerDeep, .data, .widerDeep, .data], laidTests := true, laidLooks := .later }
def WhereTellsUptoCardSaid : Prop := Claim7.holds Tryz.pinned (.plain (OpenSpec.upto whereTellsSpec)) whereTellsUptoCard

/-- THE SECOND FORM's CARD OF 'sloppykeep.TreeBack'. -/
def treeBackUptoCard : Claim7 := { stood := { row := treeBackUptoRow, standIns := [], harness := (true, "7f73465bb55f5144827b10b7fcaddd20251200458df2a7f47a7bab9ae96eeb76"), looks := true }, kinds := [], alts := [], laidByText := true, laidKinds := [.data, .data, .data, .handle, .widerDeep, .data, .data, .data], laidTests := true, laidLooks := .later }
def TreeBackUptoCardSaid : Prop := Claim7.holds Tryz.pinned (.plain (OpenSpec.upto treeBackSpec)) treeBackUptoCard

/-- THE SECOND FORM's CARD OF 'sloppykeep.TreeJoins'. -/
def treeJoinsUptoCard : Claim7 := { stood := { row := treeJoinsUptoRow, standIns := [], harness := (true, "7f73465bb55f5144827b10b7fcaddd20251200458df2a7f47a7bab9ae96eeb76"), looks := true }, kinds := [], alts := [], laidByText := true, laidKinds := [.data, .data, .data, .handle, .widerDeep, .data, .data, .data], laidTests := true, laidLooks := .later }
def TreeJoinsUptoCardSaid : Prop := Claim7.holds Tryz.pinned (.plain (OpenSpec.upto treeJoinsSpec)) treeJoinsUptoCard

/-- THE SECOND FORM's CARD OF 'sloppylaw.EarlyChecks'. -/
def earlyChecksUptoCard : Claim7 := { stood := { row := earlyChecksUptoRow, standIns := [], harness := (true, "7f73465bb55f5144827b10b7fcaddd20251200458df2a7f47a7bab9ae96eeb76"), looks := true }, kinds := [], alts := [], laidByText := true, laidKinds := [.data, .data, .data, .handle, .sentinel, .sentinel, .widerDeep, .data, .widerDeep, .data], laidTests := true, laidLooks := .later }
def EarlyChecksUptoCardSaid : Prop := Claim7.holds Tryz.pinned (.plain (OpenSpec.upto earlyChecksSpec)) earlyChecksUptoCard
end Rows
end Go.Proofs.YtgifgiipojedbaaGreatDoor
