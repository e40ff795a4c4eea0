/-
  DERIVED. GIVEN WITH THE SEED: THE CARDS: each row of YtgifgiipojedbaaDoorRows.lean that lists a variable, with what it lists TIED to the program's text (the seventh form; the later family's looks); each row that meets fmt, with fmt's text TOLD by the authors' own Lean function (tested against real Go, not proved from fmt's source: count such statements apart). THE CARD IS WHAT COUNTS. Prove the row's statement (the work); the ties are given (YtgifgiipojedbaaDoorTie.lean); close each card by the builder's one call (the guide's Derived/Test/ToyasCard.lean, 'card_holds'). Laid BY PROGRAM, IN A SANDBOX (cutbox-door.mjs). By AI agents, Wed Nov 11 2026. No macro, syntax, notation, axiom, sorry.
-/
import Derived.Test.YtgifgiipojedbaaDoorRows
import GoSem.ClaimSeven
namespace Go.Proofs.YtgifgiipojedbaaDoor
namespace Rows

/-- THE TIED CARD OF 'sloppylaw.HeapPlays'. -/
def heapPlaysCard : Claim7 := { stood := { row := heapPlaysRow, standIns := [], harness := (true, "57c0a5f6ddd2c9c969c0db3eae4e801596c1909cd1c0a7cd0249852eb8c40ae4"), looks := true }, kinds := [], alts := [], laidByText := true, laidKinds := [.handle], laidTests := true, laidLooks := .later }
def HeapPlaysCardSaid : Prop := Claim7.holds Tryd.pinned (.plain (OpenSpec.ofChange heapPlaysSpec)) heapPlaysCard

/-- THE TIED CARD OF 'sloppykeep.WherePlain'. -/
def wherePlainCard : Claim7 := { stood := { row := wherePlainRow, standIns := [], harness := (true, "57c0a5f6ddd2c9c969c0db3eae4e801596c1909cd1c0a7cd0249852eb8c40ae4"), looks := true }, kinds := [], alts := [], laidByText := true, laidKinds := [.widerDeep, .data], laidTests := true, laidLooks := .later }
def WherePlainCardSaid : Prop := Claim7.holds Tryd.pinned (.plain (OpenSpec.ofChange wherePlainSpec)) wherePlainCard

/-- THE TIED CARD OF 'sloppylaw.LexTokens'. -/
def lexTokensCard : Claim7 := { stood := { row := lexTokensRow, standIns := [], harness := (true, "57c0a5f6ddd2c9c969c0db3eae4e801596c1909cd1c0a7cd0249852eb8c40ae4"), looks := true }, kinds := [], alts := [], laidByText := true, laidKinds := [.data, .data, .data, .handle, .sentinel, .sentinel, .widerDeep, .data, .widerDeep], laidTests := true, laidLooks := .later }
def LexTokensCardSaid : Prop := Claim7.holds Tryd.pinned (.plain (OpenSpec.ofChange lexTokensSpec)) lexTokensCard

/-- THE SECOND FORM's CARD OF 'sloppylaw.HeapPlays'. -/
def heapPlaysUptoCard : Claim7 := { stood := { row := heapPlaysUptoRow, standIns := [], harness := (true, "57c0a5f6ddd2c9c969c0db3eae4e801596c1909cd1c0a7cd0249852eb8c40ae4"), looks := true }, kinds := [], alts := [], laidByText := true, laidKinds := [.handle], laidTests := true, laidLooks := .later }
def HeapPlaysUptoCardSaid : Prop := Claim7.holds Tryd.pinned (.plain (OpenSpec.upto heapPlaysSpec)) heapPlaysUptoCard

/-- THE SECOND FORM's CARD OF 'sloppykeep.WherePlain'. -/
def wherePlainUptoCard : Claim7 := { stood := { row := wherePlainUptoRow, standIns := [], harness := (true, "57c0a5f6ddd2c9c969c0db3eae4e801596c1909cd1c0a7cd0249852eb8c40ae4"), looks := true }, kinds := [], alts := [], laidByText := true, laidKinds := [.widerDeep, .data], laidTests := true, laidLooks := .later }
def WherePlainUptoCardSaid : Prop := Claim7.holds Tryd.pinned (.plain (OpenSpec.upto wherePlainSpec)) wherePlainUptoCard

/-- THE SECOND FORM's CARD OF 'sloppylaw.LexTokens'. -/
def lexTokensUptoCard : Claim7 := { stood := { row := lexTokensUptoRow, standIns := [], harness := (true, "57c0a5f6ddd2c9c969c0db3eae4e801596c1909cd1c0a7cd0249852eb8c40ae4"), looks := true }, kinds := [], alts := [], laidByText := true, laidKinds := [.data, .data, .data, .handle, .sentinel, .sentinel, .widerDeep, .data, .widerDeep], laidTests := true, laidLooks := .later }
def LexTokensUptoCardSaid : Prop := Claim7.holds Tryd.pinned (.plain (OpenSpec.upto lexTokensSpec)) lexTokensUptoCard
end Rows
end Go.Proofs.YtgifgiipojedbaaDoor
