/-
  DERIVED. GIVEN WITH THE SEED: THE PROGRAM's TIES (one call each: nine closed facts by the kernel) AND EACH ROW's TIE, after the 31st guide's Derived/Test/Toyas{Tie, Card}.lean. No idea stands in it: it is a product of the set-up. Laid BY PROGRAM, IN A SANDBOX (cutbox-door.mjs). By AI agents, Wed Nov 11 2026. No macro, syntax, notation, axiom, sorry.
-/
import Derived.Test.YtmeiggjboakmpaaGreatDoorRows
import Derived.LaidByTextLater
import Derived.SevenTiedAt
import Derived.LaidSub
import Derived.LaidOnce
namespace Go.Proofs.YtmeiggjboakmpaaGreatDoor
open Go
set_option maxRecDepth 100000
theorem seatTie1 : Tryz.prog.laidByTextLater [("math/bits.deBruijn32tab", Rows.laid_math_bits_deBruijn32tab), ("math/bits.deBruijn64tab", Rows.laid_math_bits_deBruijn64tab), ("internal/strconv.uint64pow10", Rows.laid_internal_strconv_uint64pow10), ("errors.errorType", Rows.laid_errors_errorType), ("strconv.ErrRange", Rows.laid_strconv_ErrRange), ("strconv.ErrSyntax", Rows.laid_strconv_ErrSyntax), ("sloppyscope/lex.wordList", Rows.laid_sloppyscope_lex_wordList), ("sloppyscope/sloppyref.Fine", Rows.laid_sloppyscope_sloppyref_Fine), ("sloppyscope/sloppyref.words", Rows.laid_sloppyscope_sloppyref_words), ("sloppyscope/tree.levels", Rows.laid_sloppyscope_tree_levels), ("sloppyscope/tree.signs", Rows.laid_sloppyscope_tree_signs), ("sloppyscope/tree.heads", Rows.laid_sloppyscope_tree_heads)] [.data, .data, .data, .handle, .sentinel, .sentinel, .widerDeep, .data, .widerDeep, .data, .data, .data] true :=
  Program.laidByTextLater_by_one 105 8 65 (by kernel_rfl) (by kernel_rfl) (by kernel_rfl) (by kernel_rfl) (by kernel_rfl) (by kernel_rfl) (fun _ _ => by kernel_rfl)
theorem noOwnUnsafe : Tryz.pinned.checked.prog.headLifts.contains "ownunsafe" = false := by kernel_rfl
theorem tie : Tryz.prog.laidByTextLater [("math/bits.deBruijn32tab", Rows.laid_math_bits_deBruijn32tab), ("math/bits.deBruijn64tab", Rows.laid_math_bits_deBruijn64tab), ("internal/strconv.uint64pow10", Rows.laid_internal_strconv_uint64pow10), ("errors.errorType", Rows.laid_errors_errorType), ("strconv.ErrRange", Rows.laid_strconv_ErrRange), ("strconv.ErrSyntax", Rows.laid_strconv_ErrSyntax), ("sloppyscope/lex.wordList", Rows.laid_sloppyscope_lex_wordList), ("sloppyscope/sloppyref.Fine", Rows.laid_sloppyscope_sloppyref_Fine), ("sloppyscope/sloppyref.words", Rows.laid_sloppyscope_sloppyref_words), ("sloppyscope/tree.levels", Rows.laid_sloppyscope_tree_levels), ("sloppyscope/tree.signs", Rows.laid_sloppyscope_tree_signs), ("sloppyscope/tree.heads", Rows.laid_sloppyscope_tree_heads)] [.data, .data, .data, .handle, .sentinel, .sentinel, .widerDeep, .data, .widerDeep, .data, .data, .data] true :=
  Program.laidByTextLater.sub seatTie1 ["math/bits.deBruijn32tab", "math/bits.deBruijn64tab", "internal/strconv.uint64pow10", "errors.errorType", "strconv.ErrRange", "strconv.ErrSyntax", "sloppyscope/lex.wordList", "sloppyscope/sloppyref.Fine", "sloppyscope/sloppyref.words", "sloppyscope/tree.levels", "sloppyscope/tree.signs", "sloppyscope/tree.heads"] (by kernel_rfl) (by kernel_rfl)
theorem treeParses_row_tie : Rows.treeParsesRow.laidByTextAt .later Tryz.pinned [.data, .data, .data, .handle, .sentinel, .sentinel, .widerDeep, .data, .widerDeep, .data, .data, .data] true :=
  OpenClaim.laidByTextAt_later rfl rfl tie noOwnUnsafe
theorem treeParsesUpto_row_tie : Rows.treeParsesUptoRow.laidByTextAt .later Tryz.pinned [.data, .data, .data, .handle, .sentinel, .sentinel, .widerDeep, .data, .widerDeep, .data, .data, .data] true :=
  OpenClaim.laidByTextAt_later rfl rfl tie noOwnUnsafe
end Go.Proofs.YtmeiggjboakmpaaGreatDoor
