/-
  NARROWER THAN 'FOR EVERY INPUT', by the rows' own cells (each row's printed sentence says how): EarlyMore: laid · RunNumbers: laid · TreeWalks: laid · HoistNames: laid · AlphaOwns: laid · WhereTells: laid · TreeBack: laid · TreeJoins: laid · EarlyChecks: laid.
  DERIVED. THE GIVEN ROWS OF THIS SEAT. 9 by the template 'for every input the law returns true; each argument reads behind the call as it read before'; 0 by the template 'total and deterministic' (their statements: YtgifgiipojedbaaGreatDoorTotals.lean).
  GIVEN WITH THE SEED: the statements are not yours to turn. If you find one false, say at which input.
  Laid BY PROGRAM, IN A SANDBOX (cutbox-rows.mjs): the forced cells as the released guide's own fill.sh prints them over the translation ba63b76fcc3612f1… (all of the seat's roots in one cut). By AI agents, Wed Nov 11 2026. No macro, syntax, notation, axiom, sorry.
-/
import Derived.Test.YtgifgiipojedbaaGreatDoorChecked
import GoSem.Claim
import GoSem.ClaimJoined
import GoSem.ClaimMapViews
import Derived.JoinedTies
import Derived.KernelRfl
namespace Go.Proofs.YtgifgiipojedbaaGreatDoor
/- THE CELL 'sum', in the pinned program and in every row, IS THE sha256 OF THE DUMP (.gsa) THAT YtgifgiipojedbaaGreatDoorProg.lean LOADS. Nothing in Lean hashes anything: it is a label: what it is worth is what the hold of that sum in a sandbox is worth. -/
noncomputable def Tryz.pinned : Pinned := { name := "ytgifgiipojedbaagreatdoor", sum := "ba63b76fcc3612f1c7449ab386c1c0577c36e36ef446742a40f017c2414b6b5f", checked := Tryz.checked }
namespace Rows
def none {H : Type} : Left H := { results := [], args := [] }

/- WHAT THE LISTED PACKAGE-LEVEL VARIABLES READ AS WHEN THE CALL BEGINS. Each datum BY PROGRAM (the guide's laid-datum.mjs) off the statement by which the dump's own 'gosem.cut.vars' lays the variable. In a bare row this is a premise. The card (YtgifgiipojedbaaGreatDoorCards.lean) ties it to the program's text. -/
def laid_errors_errorType {H : Type} : DataW H := .iface "internal/reflectlite.rtype" (.agg [.ptr (.lit (.string [101, 114, 114, 111, 114]))])
def laid_sloppyscope_lex_wordList {H : Type} : DataW H := .agg [.lit (.string [118, 97, 114]), .lit (.string [108, 101, 116]), .lit (.string [99, 111, 110, 115, 116]), .lit (.string [102, 117, 110, 99, 116, 105, 111, 110]), .lit (.string [105, 102]), .lit (.string [101, 108, 115, 101]), .lit (.string [119, 104, 105, 108, 101]), .lit (.string [119, 105, 116, 104]), .lit (.string [114, 101, 116, 117, 114, 110]), .lit (.string [116, 104, 114, 111, 119]), .lit (.string [116, 114, 121]), .lit (.string [99, 97, 116, 99, 104]), .lit (.string [102, 105, 110, 97, 108, 108, 121]), .lit (.string [116, 121, 112, 101, 111, 102]), .lit (.string [100, 101, 108, 101, 116, 101]), .lit (.string [116, 114, 117, 101]), .lit (.string [102, 97, 108, 115, 101]), .lit (.string [110, 117, 108, 108]), .lit (.string [117, 110, 100, 101, 102, 105, 110, 101, 100])]
def laid_sloppyscope_tree_levels {H : Type} : DataW H := .agg [.slice [.lit (.string [124, 124])] [], .slice [.lit (.string [38, 38])] [], .slice [.lit (.string [61, 61, 61])] [], .slice [.lit (.string [60])] [], .slice [.lit (.string [43]), .lit (.string [45])] [], .slice [.lit (.string [42])] []]
def laid_math_bits_deBruijn32tab {H : Type} : DataW H := .agg [.lit (.int .u8 0), .lit (.int .u8 1), .lit (.int .u8 28), .lit (.int .u8 2), .lit (.int .u8 29), .lit (.int .u8 14), .lit (.int .u8 24), .lit (.int .u8 3), .lit (.int .u8 30), .lit (.int .u8 22), .lit (.int .u8 20), .lit (.int .u8 15), .lit (.int .u8 25), .lit (.int .u8 17), .lit (.int .u8 4), .lit (.int .u8 8), .lit (.int .u8 31), .lit (.int .u8 27), .lit (.int .u8 13), .lit (.int .u8 23), .lit (.int .u8 21), .lit (.int .u8 19), .lit (.int .u8 16), .lit (.int .u8 7), .lit (.int .u8 26), .lit (.int .u8 12), .lit (.int .u8 18), .lit (.int .u8 6), .lit (.int .u8 11), .lit (.int .u8 5), .lit (.int .u8 10), .lit (.int .u8 9)]
def laid_math_bits_deBruijn64tab {H : Type} : DataW H := .agg [.lit (.int .u8 0), .lit (.int .u8 1), .lit (.int .u8 56), .lit (.int .u8 2), .lit (.int .u8 57), .lit (.int .u8 49), .lit (.int .u8 28), .lit (.int .u8 3), .lit (.int .u8 61), .lit (.int .u8 58), .lit (.int .u8 42), .lit (.int .u8 50), .lit (.int .u8 38), .lit (.int .u8 29), .lit (.int .u8 17), .lit (.int .u8 4), .lit (.int .u8 62), .lit (.int .u8 47), .lit (.int .u8 59), .lit (.int .u8 36), .lit (.int .u8 45), .lit (.int .u8 43), .lit (.int .u8 51), .lit (.int .u8 22), .lit (.int .u8 53), .lit (.int .u8 39), .lit (.int .u8 33), .lit (.int .u8 30), .lit (.int .u8 24), .lit (.int .u8 18), .lit (.int .u8 12), .lit (.int .u8 5), .lit (.int .u8 63), .lit (.int .u8 55), .lit (.int .u8 48), .lit (.int .u8 27), .lit (.int .u8 60), .lit (.int .u8 41), .lit (.int .u8 37), .lit (.int .u8 16), .lit (.int .u8 46), .lit (.int .u8 35), .lit (.int .u8 44), .lit (.int .u8 21), .lit (.int .u8 52), .lit (.int .u8 32), .lit (.int .u8 23), .lit (.int .u8 11), .lit (.int .u8 54), .lit (.int .u8 26), .lit (.int .u8 40), .lit (.int .u8 15), .lit (.int .u8 34), .lit (.int .u8 20), .lit (.int .u8 31), .lit (.int .u8 10), .lit (.int .u8 25), .lit (.int .u8 14), .lit (.int .u8 19), .lit (.int .u8 9), .lit (.int .u8 13), .lit (.int .u8 8), .lit (.int .u8 7), .lit (.int .u8 6)]
def laid_internal_strconv_uint64pow10 {H : Type} : DataW H := .agg [.lit (.int .u64 1), .lit (.int .u64 10), .lit (.int .u64 100), .lit (.int .u64 1000), .lit (.int .u64 10000), .lit (.int .u64 100000), .lit (.int .u64 1000000), .lit (.int .u64 10000000), .lit (.int .u64 100000000), .lit (.int .u64 1000000000), .lit (.int .u64 10000000000), .lit (.int .u64 100000000000), .lit (.int .u64 1000000000000), .lit (.int .u64 10000000000000), .lit (.int .u64 100000000000000), .lit (.int .u64 1000000000000000), .lit (.int .u64 10000000000000000), .lit (.int .u64 100000000000000000), .lit (.int .u64 1000000000000000000), .lit (.int .u64 10000000000000000000)]
def laid_strconv_ErrRange {H : Type} : DataW H := .iface "*errors.errorString" (.ptr (.agg [.lit (.string [118, 97, 108, 117, 101, 32, 111, 117, 116, 32, 111, 102, 32, 114, 97, 110, 103, 101])]))
def laid_strconv_ErrSyntax {H : Type} : DataW H := .iface "*errors.errorString" (.ptr (.agg [.lit (.string [105, 110, 118, 97, 108, 105, 100, 32, 115, 121, 110, 116, 97, 120])]))
def laid_sloppyscope_sloppyref_Fine {H : Type} : DataW H := .agg [.lit (.int .i64 0), .lit (.int .i64 (-1))]
def laid_sloppyscope_sloppyref_words {H : Type} : DataW H := .slice [.lit (.string [118, 97, 114]), .lit (.string [108, 101, 116]), .lit (.string [99, 111, 110, 115, 116]), .lit (.string [102, 117, 110, 99, 116, 105, 111, 110]), .lit (.string [105, 102]), .lit (.string [101, 108, 115, 101]), .lit (.string [119, 104, 105, 108, 101]), .lit (.string [119, 105, 116, 104]), .lit (.string [114, 101, 116, 117, 114, 110]), .lit (.string [116, 104, 114, 111, 119]), .lit (.string [116, 114, 121]), .lit (.string [99, 97, 116, 99, 104]), .lit (.string [102, 105, 110, 97, 108, 108, 121]), .lit (.string [116, 121, 112, 101, 111, 102]), .lit (.string [100, 101, 108, 101, 116, 101]), .lit (.string [116, 114, 117, 101]), .lit (.string [102, 97, 108, 115, 101]), .lit (.string [110, 117, 108, 108]), .lit (.string [117, 110, 100, 101, 102, 105, 110, 101, 100])] []
def laid_sloppyscope_tree_signs {H : Type} : DataW H := .agg [.lit (.string [32, 124, 124, 32]), .lit (.string [32, 38, 38, 32]), .lit (.string [32, 61, 61, 61, 32]), .lit (.string [32, 60, 32]), .lit (.string [32, 43, 32]), .lit (.string [32, 45, 32]), .lit (.string [32, 42, 32]), .lit (.string [33]), .lit (.string [116, 121, 112, 101, 111, 102, 32]), .lit (.string [100, 101, 108, 101, 116, 101, 32])]
def laid_sloppyscope_tree_heads {H : Type} : DataW H := .agg [.lit (.string [118, 97, 114, 32]), .lit (.string [108, 101, 116, 32]), .lit (.string [99, 111, 110, 115, 116, 32]), .lit (.string []), .lit (.string []), .lit (.string [105, 102, 32]), .lit (.string [119, 104, 105, 108, 101, 32]), .lit (.string [119, 105, 116, 104, 32]), .lit (.string [114, 101, 116, 117, 114, 110]), .lit (.string [116, 104, 114, 111, 119])]

/-- 'sloppykeep.EarlyMore': WHATEVER THE INPUT: true; the input reads as it did. -/
def earlyMoreSpec : ChangeSpec := { name := "earlyMore", fn := fun _ => fun
  | [d] => { results := [.lit (.bool true)], args := [d] }
  | _ => none }
def earlyMoreRow : OpenClaim := { program := "ytgifgiipojedbaagreatdoor", sum := "ba63b76fcc3612f1c7449ab386c1c0577c36e36ef446742a40f017c2414b6b5f", func := "sloppyscope/sloppykeep.EarlyMore", spec := "earlyMore", inPlace := ["internal/bytealg.IndexByteString", "internal/abi.NoEscape", "internal/reflectlite.ValueOf", "(internal/reflectlite.Value).Type", "(internal/reflectlite.Value).IsNil", "internal/reflectlite.TypeOf", "(internal/reflectlite.Value).Elem", "(internal/reflectlite.Value).Set"], unfollowed := true, recurses := true, named := ["sloppyscope/lex.wordList", "sloppyscope/tree.levels", "errors.errorType"], apart := false, laid := [("errors.errorType", laid_errors_errorType), ("sloppyscope/lex.wordList", laid_sloppyscope_lex_wordList), ("sloppyscope/tree.levels", laid_sloppyscope_tree_levels)] }
def EarlyMoreSaid : Prop := earlyMoreRow.holds Tryz.pinned (OpenSpec.ofChange earlyMoreSpec)

/-- ITS FALSE NEIGHBOUR: 'it returns false'. Refute it at one input. -/
def earlyMoreWrong : ChangeSpec := { name := "earlyMore", fn := fun _ => fun
  | [d] => { results := [.lit (.bool false)], args := [d] }
  | _ => none }
def EarlyMoreWrongFalsely : Prop := earlyMoreRow.holds Tryz.pinned (OpenSpec.ofChange earlyMoreWrong)

/-- 'sloppylaw.RunNumbers': WHATEVER THE INPUT: true; the input reads as it did. -/
def runNumbersSpec : ChangeSpec := { name := "runNumbers", fn := fun _ => fun
  | [d] => { results := [.lit (.bool true)], args := [d] }
  | _ => none }
def runNumbersRow : OpenClaim := { program := "ytgifgiipojedbaagreatdoor", sum := "ba63b76fcc3612f1c7449ab386c1c0577c36e36ef446742a40f017c2414b6b5f", func := "sloppyscope/sloppylaw.RunNumbers", spec := "runNumbers", inPlace := ["internal/bytealg.IndexByteString", "internal/abi.NoEscape"], unfollowed := true, recurses := true, named := ["sloppyscope/sloppyref.Fine", "sloppyscope/sloppyref.words", "strconv.ErrSyntax", "strconv.ErrRange", "internal/strconv.uint64pow10", "math/bits.deBruijn32tab", "math/bits.deBruijn64tab", "sloppyscope/lex.wordList", "sloppyscope/tree.levels"], apart := false, laid := [("math/bits.deBruijn32tab", laid_math_bits_deBruijn32tab), ("math/bits.deBruijn64tab", laid_math_bits_deBruijn64tab), ("internal/strconv.uint64pow10", laid_internal_strconv_uint64pow10), ("strconv.ErrRange", laid_strconv_ErrRange), ("strconv.ErrSyntax", laid_strconv_ErrSyntax), ("sloppyscope/lex.wordList", laid_sloppyscope_lex_wordList), ("sloppyscope/sloppyref.Fine", laid_sloppyscope_sloppyref_Fine), ("sloppyscope/sloppyref.words", laid_sloppyscope_sloppyref_words), ("sloppyscope/tree.levels", laid_sloppyscope_tree_levels)] }
def RunNumbersSaid : Prop := runNumbersRow.holds Tryz.pinned (OpenSpec.ofChange runNumbersSpec)

/-- ITS FALSE NEIGHBOUR: 'it returns false'. Refute it at one input. -/
def runNumbersWrong : ChangeSpec := { name := "runNumbers", fn := fun _ => fun
  | [d] => { results := [.lit (.bool false)], args := [d] }
  | _ => none }
def RunNumbersWrongFalsely : Prop := runNumbersRow.holds Tryz.pinned (OpenSpec.ofChange runNumbersWrong)

/-- 'sloppylaw.TreeWalks': WHATEVER THE INPUT: true; the input reads as it did. -/
def treeWalksSpec : ChangeSpec := { name := "treeWalks", fn := fun _ => fun
  | [d1, d2] => { results := [.lit (.bool true)], args := [d1, d2] }
  | _ => none }
def treeWalksRow : OpenClaim := { program := "ytgifgiipojedbaagreatdoor", sum := "ba63b76fcc3612f1c7449ab386c1c0577c36e36ef446742a40f017c2414b6b5f", func := "sloppyscope/sloppylaw.TreeWalks", spec := "treeWalks", inPlace := ["internal/bytealg.IndexByteString", "internal/abi.NoEscape", "internal/bytealg.MakeNoZero"], unfollowed := true, recurses := true, named := ["sloppyscope/sloppyref.Fine", "sloppyscope/sloppyref.words", "strconv.ErrSyntax", "strconv.ErrRange", "internal/strconv.uint64pow10", "math/bits.deBruijn32tab", "math/bits.deBruijn64tab", "sloppyscope/lex.wordList", "sloppyscope/tree.levels"], apart := false, laid := [("math/bits.deBruijn32tab", laid_math_bits_deBruijn32tab), ("math/bits.deBruijn64tab", laid_math_bits_deBruijn64tab), ("internal/strconv.uint64pow10", laid_internal_strconv_uint64pow10), ("strconv.ErrRange", laid_strconv_ErrRange), ("strconv.ErrSyntax", laid_strconv_ErrSyntax), ("sloppyscope/lex.wordList", laid_sloppyscope_lex_wordList), ("sloppyscope/sloppyref.Fine", laid_sloppyscope_sloppyref_Fine), ("sloppyscope/sloppyref.words", laid_sloppyscope_sloppyref_words), ("sloppyscope/tree.levels", laid_sloppyscope_tree_levels)] }
def TreeWalksSaid : Prop := treeWalksRow.holds Tryz.pinned (OpenSpec.ofChange treeWalksSpec)

/-- ITS FALSE NEIGHBOUR: 'it returns false'. Refute it at one input. -/
def treeWalksWrong : ChangeSpec := { name := "treeWalks", fn := fun _ => fun
  | [d1, d2] => { results := [.lit (.bool false)], args := [d1, d2] }
  | _ => none }
def TreeWalksWrongFalsely : Prop := treeWalksRow.holds Tryz.pinned (OpenSpec.ofChange treeWalksWrong)

/-- 'sloppylaw.HoistNames': WHATEVER THE INPUT: true; the input reads as it did. -/
def hoistNamesSpec : ChangeSpec := { name := "hoistNames", fn := fun _ => fun
  | [d] => { results := [.lit (.bool true)], args := [d] }
  | _ => none }
def hoistNamesRow : OpenClaim := { program := "ytgifgiipojedbaagreatdoor", sum := "ba63b76fcc3612f1c7449ab386c1c0577c36e36ef446742a40f017c2414b6b5f", func := "sloppyscope/sloppylaw.HoistNames", spec := "hoistNames", inPlace := ["internal/bytealg.IndexByteString", "internal/abi.NoEscape"], unfollowed := true, recurses := true, named := ["sloppyscope/sloppyref.Fine", "sloppyscope/sloppyref.words", "strconv.ErrSyntax", "strconv.ErrRange", "internal/strconv.uint64pow10", "math/bits.deBruijn32tab", "math/bits.deBruijn64tab", "sloppyscope/lex.wordList", "sloppyscope/tree.levels"], apart := false, laid := [("math/bits.deBruijn32tab", laid_math_bits_deBruijn32tab), ("math/bits.deBruijn64tab", laid_math_bits_deBruijn64tab), ("internal/strconv.uint64pow10", laid_internal_strconv_uint64pow10), ("strconv.ErrRange", laid_strconv_ErrRange), ("strconv.ErrSyntax", laid_strconv_ErrSyntax), ("sloppyscope/lex.wordList", laid_sloppyscope_lex_wordList), ("sloppyscope/sloppyref.Fine", laid_sloppyscope_sloppyref_Fine), ("sloppyscope/sloppyref.words", laid_sloppyscope_sloppyref_words), ("sloppyscope/tree.levels", laid_sloppyscope_tree_levels)] }
def HoistNamesSaid : Prop := hoistNamesRow.holds Tryz.pinned (OpenSpec.ofChange hoistNamesSpec)

/-- ITS FALSE NEIGHBOUR: 'it returns false'. Refute it at one input. -/
def hoistNamesWrong : ChangeSpec := { name := "hoistNames", fn := fun _ => fun
  | [d] => { results := [.lit (.bool false)], args := [d] }
  | _ => none }
def HoistNamesWrongFalsely : Prop := hoistNamesRow.holds Tryz.pinned (OpenSpec.ofChange hoistNamesWrong)

/-- 'sloppylaw.AlphaOwns': WHATEVER THE INPUT: true; the input reads as it did. -/
def alphaOwnsSpec : ChangeSpec := { name := "alphaOwns", fn := fun _ => fun
  | [d1, d2] => { results := [.lit (.bool true)], args := [d1, d2] }
  | _ => none }
def alphaOwnsRow : OpenClaim := { program := "ytgifgiipojedbaagreatdoor", sum := "ba63b76fcc3612f1c7449ab386c1c0577c36e36ef446742a40f017c2414b6b5f", func := "sloppyscope/sloppylaw.AlphaOwns", spec := "alphaOwns", inPlace := ["internal/bytealg.IndexByteString", "internal/abi.NoEscape"], unfollowed := true, recurses := true, named := ["sloppyscope/sloppyref.Fine", "sloppyscope/sloppyref.words", "strconv.ErrSyntax", "strconv.ErrRange", "internal/strconv.uint64pow10", "math/bits.deBruijn32tab", "math/bits.deBruijn64tab", "sloppyscope/lex.wordList", "sloppyscope/tree.levels"], apart := false, laid := [("math/bits.deBruijn32tab", laid_math_bits_deBruijn32tab), ("math/bits.deBruijn64tab", laid_math_bits_deBruijn64tab), ("internal/strconv.uint64pow10", laid_internal_strconv_uint64pow10), ("strconv.ErrRange", laid_strconv_ErrRange), ("strconv.ErrSyntax", laid_strconv_ErrSyntax), ("sloppyscope/lex.wordList", laid_sloppyscope_lex_wordList), ("sloppyscope/sloppyref.Fine", laid_sloppyscope_sloppyref_Fine), ("sloppyscope/sloppyref.words", laid_sloppyscope_sloppyref_words), ("sloppyscope/tree.levels", laid_sloppyscope_tree_levels)] }
def AlphaOwnsSaid : Prop := alphaOwnsRow.holds Tryz.pinned (OpenSpec.ofChange alphaOwnsSpec)

/-- ITS FALSE NEIGHBOUR: 'it returns false'. Refute it at one input. -/
def alphaOwnsWrong : ChangeSpec := { name := "alphaOwns", fn := fun _ => fun
  | [d1, d2] => { results := [.lit (.bool false)], args := [d1, d2] }
  | _ => none }
def AlphaOwnsWrongFalsely : Prop := alphaOwnsRow.holds Tryz.pinned (OpenSpec.ofChange alphaOwnsWrong)

/-- 'sloppylaw.WhereTells': WHATEVER THE INPUT: true; the input reads as it did. -/
def whereTellsSpec : ChangeSpec := { name := "whereTells", fn := fun _ => fun
  | [d] => { results := [.lit (.bool true)], args := [d] }
  | _ => none }
def whereTellsRow : OpenClaim := { program := "ytgifgiipojedbaagreatdoor", sum := "ba63b76fcc3612f1c7449ab386c1c0577c36e36ef446742a40f017c2414b6b5f", func := "sloppyscope/sloppylaw.WhereTells", spec := "whereTells", inPlace := ["internal/bytealg.IndexByteString", "internal/abi.NoEscape"], unfollowed := true, recurses := true, named := ["sloppyscope/sloppyref.Fine", "sloppyscope/sloppyref.words", "strconv.ErrSyntax", "strconv.ErrRange", "internal/strconv.uint64pow10", "math/bits.deBruijn32tab", "math/bits.deBruijn64tab", "sloppyscope/lex.wordList", "sloppyscope/tree.levels"], apart := false, laid := [("math/bits.deBruijn32tab", laid_math_bits_deBruijn32tab), ("math/bits.deBruijn64tab", laid_math_bits_deBruijn64tab), ("internal/strconv.uint64pow10", laid_internal_strconv_uint64pow10), ("strconv.ErrRange", laid_strconv_ErrRange), ("strconv.ErrSyntax", laid_strconv_ErrSyntax), ("sloppyscope/lex.wordList", laid_sloppyscope_lex_wordList), ("sloppyscope/sloppyref.Fine", laid_sloppyscope_sloppyref_Fine), ("sloppyscope/sloppyref.words", laid_sloppyscope_sloppyref_words), ("sloppyscope/tree.levels", laid_sloppyscope_tree_levels)] }
def WhereTellsSaid : Prop := whereTellsRow.holds Tryz.pinned (OpenSpec.ofChange whereTellsSpec)

/-- ITS FALSE NEIGHBOUR: 'it returns false'. Refute it at one input. -/
def whereTellsWrong : ChangeSpec := { name := "whereTells", fn := fun _ => fun
  | [d] => { results := [.lit (.bool false)], args := [d] }
  | _ => none }
def WhereTellsWrongFalsely : Prop := whereTellsRow.holds Tryz.pinned (OpenSpec.ofChange whereTellsWrong)

/-- 'sloppykeep.TreeBack': WHATEVER THE INPUT: true; the input reads as it did. -/
def treeBackSpec : ChangeSpec := { name := "treeBack", fn := fun _ => fun
  | [d] => { results := [.lit (.bool true)], args := [d] }
  | _ => none }
def treeBackRow : OpenClaim := { program := "ytgifgiipojedbaagreatdoor", sum := "ba63b76fcc3612f1c7449ab386c1c0577c36e36ef446742a40f017c2414b6b5f", func := "sloppyscope/sloppykeep.TreeBack", spec := "treeBack", inPlace := ["internal/bytealg.IndexByteString", "internal/abi.NoEscape", "sync/atomic.LoadUint32", "(*internal/sync.Mutex).Lock", "internal/race.Disable", "sync/atomic.CompareAndSwapInt32", "internal/race.Enable", "internal/race.Acquire", "(*internal/sync.Mutex).lockSlow", "internal/sync.runtime_canSpin", "internal/sync.runtime_doSpin", "internal/sync.throw", "internal/sync.runtime_nanotime", "internal/sync.runtime_SemacquireMutex", "sync/atomic.AddInt32", "(*internal/sync.Mutex).Unlock", "internal/race.ReleaseMerge", "(*internal/sync.Mutex).unlockSlow", "internal/sync.fatal", "internal/sync.runtime_Semrelease", "sync/atomic.StoreUint32", "internal/reflectlite.ValueOf", "(internal/reflectlite.Value).Type", "(internal/reflectlite.Value).IsNil", "internal/reflectlite.TypeOf", "(internal/reflectlite.Value).Elem", "(internal/reflectlite.Value).Set"], unfollowed := true, recurses := true, named := ["sloppyscope/lex.wordList", "sloppyscope/tree.levels", "sloppyscope/tree.heads", "sloppyscope/tree.signs", "internal/strconv.uint64pow10", "math/bits.deBruijn32tab", "math/bits.deBruijn64tab", "errors.errorType"], apart := false, laid := [("math/bits.deBruijn32tab", laid_math_bits_deBruijn32tab), ("math/bits.deBruijn64tab", laid_math_bits_deBruijn64tab), ("internal/strconv.uint64pow10", laid_internal_strconv_uint64pow10), ("errors.errorType", laid_errors_errorType), ("sloppyscope/lex.wordList", laid_sloppyscope_lex_wordList), ("sloppyscope/tree.levels", laid_sloppyscope_tree_levels), ("sloppyscope/tree.signs", laid_sloppyscope_tree_signs), ("sloppyscope/tree.heads", laid_sloppyscope_tree_heads)] }
def TreeBackSaid : Prop := treeBackRow.holds Tryz.pinned (OpenSpec.ofChange treeBackSpec)

/-- ITS FALSE NEIGHBOUR: 'it returns false'. Refute it at one input. -/
def treeBackWrong : ChangeSpec := { name := "treeBack", fn := fun _ => fun
  | [d] => { results := [.lit (.bool false)], args := [d] }
  | _ => none }
def TreeBackWrongFalsely : Prop := treeBackRow.holds Tryz.pinned (OpenSpec.ofChange treeBackWrong)

/-- 'sloppykeep.TreeJoins': WHATEVER THE INPUT: true; the input reads as it did. -/
def treeJoinsSpec : ChangeSpec := { name := "treeJoins", fn := fun _ => fun
  | [d1, d2] => { results := [.lit (.bool true)], args := [d1, d2] }
  | _ => none }
def treeJoinsRow : OpenClaim := { program := "ytgifgiipojedbaagreatdoor", sum := "ba63b76fcc3612f1c7449ab386c1c0577c36e36ef446742a40f017c2414b6b5f", func := "sloppyscope/sloppykeep.TreeJoins", spec := "treeJoins", inPlace := ["internal/bytealg.IndexByteString", "internal/abi.NoEscape", "sync/atomic.LoadUint32", "(*internal/sync.Mutex).Lock", "internal/race.Disable", "sync/atomic.CompareAndSwapInt32", "internal/race.Enable", "internal/race.Acquire", "(*internal/sync.Mutex).lockSlow", "internal/sync.runtime_canSpin", "internal/sync.runtime_doSpin", "internal/sync.throw", "internal/sync.runtime_nanotime", "internal/sync.runtime_SemacquireMutex", "sync/atomic.AddInt32", "(*internal/sync.Mutex).Unlock", "internal/race.ReleaseMerge", "(*internal/sync.Mutex).unlockSlow", "internal/sync.fatal", "internal/sync.runtime_Semrelease", "sync/atomic.StoreUint32", "internal/reflectlite.ValueOf", "(internal/reflectlite.Value).Type", "(internal/reflectlite.Value).IsNil", "internal/reflectlite.TypeOf", "(internal/reflectlite.Value).Elem", "(internal/reflectlite.Value).Set"], unfollowed := true, recurses := true, named := ["sloppyscope/lex.wordList", "sloppyscope/tree.levels", "sloppyscope/tree.heads", "sloppyscope/tree.signs", "internal/strconv.uint64pow10", "math/bits.deBruijn32tab", "math/bits.deBruijn64tab", "errors.errorType"], apart := false, laid := [("math/bits.deBruijn32tab", laid_math_bits_deBruijn32tab), ("math/bits.deBruijn64tab", laid_math_bits_deBruijn64tab), ("internal/strconv.uint64pow10", laid_internal_strconv_uint64pow10), ("errors.errorType", laid_errors_errorType), ("sloppyscope/lex.wordList", laid_sloppyscope_lex_wordList), ("sloppyscope/tree.levels", laid_sloppyscope_tree_levels), ("sloppyscope/tree.signs", laid_sloppyscope_tree_signs), ("sloppyscope/tree.heads", laid_sloppyscope_tree_heads)] }
def TreeJoinsSaid : Prop := treeJoinsRow.holds Tryz.pinned (OpenSpec.ofChange treeJoinsSpec)

/-- ITS FALSE NEIGHBOUR: 'it returns false'. Refute it at one input. -/
def treeJoinsWrong : ChangeSpec := { name := "treeJoins", fn := fun _ => fun
  | [d1, d2] => { results := [.lit (.bool false)], args := [d1, d2] }
  | _ => none }
def TreeJoinsWrongFalsely : Prop := treeJoinsRow.holds Tryz.pinned (OpenSpec.ofChange treeJoinsWrong)

/-- 'sloppylaw.EarlyChecks': WHATEVER THE INPUT: true; the input reads as it did. -/
def earlyChecksSpec : ChangeSpec := { name := "earlyChecks", fn := fun _ => fun
  | [d1, d2, d3] => { results := [.lit (.bool true)], args := [d1, d2, d3] }
  | _ => none }
def earlyChecksRow : OpenClaim := { program := "ytgifgiipojedbaagreatdoor", sum := "ba63b76fcc3612f1c7449ab386c1c0577c36e36ef446742a40f017c2414b6b5f", func := "sloppyscope/sloppylaw.EarlyChecks", spec := "earlyChecks", inPlace := ["internal/bytealg.IndexByteString", "internal/abi.NoEscape", "internal/reflectlite.ValueOf", "(internal/reflectlite.Value).Type", "(internal/reflectlite.Value).IsNil", "internal/reflectlite.TypeOf", "(internal/reflectlite.Value).Elem", "(internal/reflectlite.Value).Set"], unfollowed := true, recurses := true, named := ["sloppyscope/sloppyref.Fine", "sloppyscope/sloppyref.words", "strconv.ErrSyntax", "strconv.ErrRange", "internal/strconv.uint64pow10", "math/bits.deBruijn32tab", "math/bits.deBruijn64tab", "sloppyscope/lex.wordList", "sloppyscope/tree.levels", "errors.errorType"], apart := false, laid := [("math/bits.deBruijn32tab", laid_math_bits_deBruijn32tab), ("math/bits.deBruijn64tab", laid_math_bits_deBruijn64tab), ("internal/strconv.uint64pow10", laid_internal_strconv_uint64pow10), ("errors.errorType", laid_errors_errorType), ("strconv.ErrRange", laid_strconv_ErrRange), ("strconv.ErrSyntax", laid_strconv_ErrSyntax), ("sloppyscope/lex.wordList", laid_sloppyscope_lex_wordList), ("sloppyscope/sloppyref.Fine", laid_sloppyscope_sloppyref_Fine), ("sloppyscope/sloppyref.words", laid_sloppyscope_sloppyref_words), ("sloppyscope/tree.levels", laid_sloppyscope_tree_levels)] }
def EarlyChecksSaid : Prop := earlyChecksRow.holds Tryz.pinned (OpenSpec.ofChange earlyChecksSpec)

/-- ITS FALSE NEIGHBOUR: 'it returns false'. Refute it at one input. -/
def earlyChecksWrong : ChangeSpec := { name := "earlyChecks", fn := fun _ => fun
  | [d1, d2, d3] => { results := [.lit (.bool false)], args := [d1, d2, d3] }
  | _ => none }
def EarlyChecksWrongFalsely : Prop := earlyChecksRow.holds Tryz.pinned (OpenSpec.ofChange earlyChecksWrong)

/- THE SECOND FORM. 'bulk': how many values and letters a reading holds, each counted each time it is reached (what is shared counts as often as it is met; a slice's spare places count too). A statement '..UptoSaid' is the law's where the arguments, and the package variables that the reading takes, are together of bulk at most 1048576: NARROWER than '..Said'. Prove '..Said' where nothing that the law and all that it calls make is longer than what came in: it says more and counts as full. Else prove '..UptoSaid'. A law counts once. -/
mutual
def uptoBulk {H : Type} : DataW H → Nat
  | .lit (.string bytes) => bytes.length + 1
  | .lit _ => 1
  | .nil => 1
  | .ptr d => uptoBulk d + 1
  | .slice elems spare => uptoBulkAll elems + uptoBulkAll spare + 1
  | .agg parts => uptoBulkAll parts + 1
  | .iface _ d => uptoBulk d + 1
  | .map entries => uptoBulkEntries entries + 1
  | .held _ => 1
def uptoBulkAll {H : Type} : List (DataW H) → Nat
  | [] => 0
  | d :: r => uptoBulk d + uptoBulkAll r
def uptoBulkEntries {H : Type} : List (Lit × DataW H) → Nat
  | [] => 0
  | x :: r => uptoBulkEntry x + uptoBulkEntries r
def uptoBulkEntry {H : Type} : Lit × DataW H → Nat
  | (.string bytes, d) => bytes.length + uptoBulk d + 1
  | (_, d) => uptoBulk d + 1
 end
def uptoSmall : (H : Type) → List (DataW H) → Bool := fun _ ds => decide (uptoBulkAll ds ≤ 1048576)
def OpenSpec.upto (s : _root_.Go.ChangeSpec) : _root_.Go.OpenSpec := { _root_.Go.OpenSpec.ofChange s with cond := some uptoSmall }

/-- 'sloppykeep.EarlyMore', WHERE WHAT IT READS IS OF BULK AT MOST 1048576: true; the input reads as it did. -/
def earlyMoreUptoRow : OpenClaim := { program := "ytgifgiipojedbaagreatdoor", sum := "ba63b76fcc3612f1c7449ab386c1c0577c36e36ef446742a40f017c2414b6b5f", func := "sloppyscope/sloppykeep.EarlyMore", spec := "earlyMore", inPlace := ["internal/bytealg.IndexByteString", "internal/abi.NoEscape", "internal/reflectlite.ValueOf", "(internal/reflectlite.Value).Type", "(internal/reflectlite.Value).IsNil", "internal/reflectlite.TypeOf", "(internal/reflectlite.Value).Elem", "(internal/reflectlite.Value).Set"], unfollowed := true, recurses := true, named := ["sloppyscope/lex.wordList", "sloppyscope/tree.levels", "errors.errorType"], apart := false, laid := [("errors.errorType", laid_errors_errorType), ("sloppyscope/lex.wordList", laid_sloppyscope_lex_wordList), ("sloppyscope/tree.levels", laid_sloppyscope_tree_levels)], narrowed := true }
def EarlyMoreUptoSaid : Prop := earlyMoreUptoRow.holds Tryz.pinned (OpenSpec.upto earlyMoreSpec)

/-- 'sloppylaw.RunNumbers', WHERE WHAT IT READS IS OF BULK AT MOST 1048576: true; the input reads as it did. -/
def runNumbersUptoRow : OpenClaim := { program := "ytgifgiipojedbaagreatdoor", sum := "ba63b76fcc3612f1c7449ab386c1c0577c36e36ef446742a40f017c2414b6b5f", func := "sloppyscope/sloppylaw.RunNumbers", spec := "runNumbers", inPlace := ["internal/bytealg.IndexByteString", "internal/abi.NoEscape"], unfollowed := true, recurses := true, named := ["sloppyscope/sloppyref.Fine", "sloppyscope/sloppyref.words", "strconv.ErrSyntax", "strconv.ErrRange", "internal/strconv.uint64pow10", "math/bits.deBruijn32tab", "math/bits.deBruijn64tab", "sloppyscope/lex.wordList", "sloppyscope/tree.levels"], apart := false, laid := [("math/bits.deBruijn32tab", laid_math_bits_deBruijn32tab), ("math/bits.deBruijn64tab", laid_math_bits_deBruijn64tab), ("internal/strconv.uint64pow10", laid_internal_strconv_uint64pow10), ("strconv.ErrRange", laid_strconv_ErrRange), ("strconv.ErrSyntax", laid_strconv_ErrSyntax), ("sloppyscope/lex.wordList", laid_sloppyscope_lex_wordList), ("sloppyscope/sloppyref.Fine", laid_sloppyscope_sloppyref_Fine), ("sloppyscope/sloppyref.words", laid_sloppyscope_sloppyref_words), ("sloppyscope/tree.levels", laid_sloppyscope_tree_levels)], narrowed := true }
def RunNumbersUptoSaid : Prop := runNumbersUptoRow.holds Tryz.pinned (OpenSpec.upto runNumbersSpec)

/-- 'sloppylaw.TreeWalks', WHERE WHAT IT READS IS OF BULK AT MOST 1048576: true; the input reads as it did. -/
def treeWalksUptoRow : OpenClaim := { program := "ytgifgiipojedbaagreatdoor", sum := "ba63b76fcc3612f1c7449ab386c1c0577c36e36ef446742a40f017c2414b6b5f", func := "sloppyscope/sloppylaw.TreeWalks", spec := "treeWalks", inPlace := ["internal/bytealg.IndexByteString", "internal/abi.NoEscape", "internal/bytealg.MakeNoZero"], unfollowed := true, recurses := true, named := ["sloppyscope/sloppyref.Fine", "sloppyscope/sloppyref.words", "strconv.ErrSyntax", "strconv.ErrRange", "internal/strconv.uint64pow10", "math/bits.deBruijn32tab", "math/bits.deBruijn64tab", "sloppyscope/lex.wordList", "sloppyscope/tree.levels"], apart := false, laid := [("math/bits.deBruijn32tab", laid_math_bits_deBruijn32tab), ("math/bits.deBruijn64tab", laid_math_bits_deBruijn64tab), ("internal/strconv.uint64pow10", laid_internal_strconv_uint64pow10), ("strconv.ErrRange", laid_strconv_ErrRange), ("strconv.ErrSyntax", laid_strconv_ErrSyntax), ("sloppyscope/lex.wordList", laid_sloppyscope_lex_wordList), ("sloppyscope/sloppyref.Fine", laid_sloppyscope_sloppyref_Fine), ("sloppyscope/sloppyref.words", laid_sloppyscope_sloppyref_words), ("sloppyscope/tree.levels", laid_sloppyscope_tree_levels)], narrowed := true }
def TreeWalksUptoSaid : Prop := treeWalksUptoRow.holds Tryz.pinned (OpenSpec.upto treeWalksSpec)

/-- 'sloppylaw.HoistNames', WHERE WHAT IT READS IS OF BULK AT MOST 1048576: true; the input reads as it did. -/
def hoistNamesUptoRow : OpenClaim := { program := "ytgifgiipojedbaagreatdoor", sum := "ba63b76fcc3612f1c7449ab386c1c0577c36e36ef446742a40f017c2414b6b5f", func := "sloppyscope/sloppylaw.HoistNames", spec := "hoistNames", inPlace := ["internal/bytealg.IndexByteString", "internal/abi.NoEscape"], unfollowed := true, recurses := true, named := ["sloppyscope/sloppyref.Fine", "sloppyscope/sloppyref.words", "strconv.ErrSyntax", "strconv.ErrRange", "internal/strconv.uint64pow10", "math/bits.deBruijn32tab", "math/bits.deBruijn64tab", "sloppyscope/lex.wordList", "sloppyscope/tree.levels"], apart := false, laid := [("math/bits.deBruijn32tab", laid_math_bits_deBruijn32tab), ("math/bits.deBruijn64tab", laid_math_bits_deBruijn64tab), ("internal/strconv.uint64pow10", laid_internal_strconv_uint64pow10), ("strconv.ErrRange", laid_strconv_ErrRange), ("strconv.ErrSyntax", laid_strconv_ErrSyntax), ("sloppyscope/lex.wordList", laid_sloppyscope_lex_wordList), ("sloppyscope/sloppyref.Fine", laid_sloppyscope_sloppyref_Fine), ("sloppyscope/sloppyref.words", laid_sloppyscope_sloppyref_words), ("sloppyscope/tree.levels", laid_sloppyscope_tree_levels)], narrowed := true }
def HoistNamesUptoSaid : Prop := hoistNamesUptoRow.holds Tryz.pinned (OpenSpec.upto hoistNamesSpec)

/-- 'sloppylaw.AlphaOwns', WHERE WHAT IT READS IS OF BULK AT MOST 1048576: true; the input reads as it did. -/
def alphaOwnsUptoRow : OpenClaim := { program := "ytgifgiipojedbaagreatdoor", sum := "ba63b76fcc3612f1c7449ab386c1c0577c36e36ef446742a40f017c2414b6b5f", func := "sloppyscope/sloppylaw.AlphaOwns", spec := "alphaOwns", inPlace := ["internal/bytealg.IndexByteString", "internal/abi.NoEscape"], unfollowed := true, recurses := true, named := ["sloppyscope/sloppyref.Fine", "sloppyscope/sloppyref.words", "strconv.ErrSyntax", "strconv.ErrRange", "internal/strconv.uint64pow10", "math/bits.deBruijn32tab", "math/bits.deBruijn64tab", "sloppyscope/lex.wordList", "sloppyscope/tree.levels"], apart := false, laid := [("math/bits.deBruijn32tab", laid_math_bits_deBruijn32tab), ("math/bits.deBruijn64tab", laid_math_bits_deBruijn64tab), ("internal/strconv.uint64pow10", laid_internal_strconv_uint64pow10), ("strconv.ErrRange", laid_strconv_ErrRange), ("strconv.ErrSyntax", laid_strconv_ErrSyntax), ("sloppyscope/lex.wordList", laid_sloppyscope_lex_wordList), ("sloppyscope/sloppyref.Fine", laid_sloppyscope_sloppyref_Fine), ("sloppyscope/sloppyref.words", laid_sloppyscope_sloppyref_words), ("sloppyscope/tree.levels", laid_sloppyscope_tree_levels)], narrowed := true }
def AlphaOwnsUptoSaid : Prop := alphaOwnsUptoRow.holds Tryz.pinned (OpenSpec.upto alphaOwnsSpec)

/-- 'sloppylaw.WhereTells', WHERE WHAT IT READS IS OF BULK AT MOST 1048576: true; the input reads as it did. -/
def whereTellsUptoRow : OpenClaim := { program := "ytgifgiipojedbaagreatdoor", sum := "ba63b76fcc3612f1c7449ab386c1c0577c36e36ef446742a40f017c2414b6b5f", func := "sloppyscope/sloppylaw.WhereTells", spec := "whereTells", inPlace := ["internal/bytealg.IndexByteString", "internal/abi.NoEscape"], unfollowed := true, recurses := true, named := ["sloppyscope/sloppyref.Fine", "sloppyscope/sloppyref.words", "strconv.ErrSyntax", "strconv.ErrRange", "internal/strconv.uint64pow10", "math/bits.deBruijn32tab", "math/bits.deBruijn64tab", "sloppyscope/lex.wordList", "sloppyscope/tree.levels"], apart := false, laid := [("math/bits.deBruijn32tab", laid_math_bits_deBruijn32tab), ("math/bits.deBruijn64tab", laid_math_bits_deBruijn64tab), ("internal/strconv.uint64pow10", laid_internal_strconv_uint64pow10), ("strconv.ErrRange", laid_strconv_ErrRange), ("strconv.ErrSyntax", laid_strconv_ErrSyntax), ("sloppyscope/lex.wordList", laid_sloppyscope_lex_wordList), ("sloppyscope/sloppyref.Fine", laid_sloppyscope_sloppyref_Fine), ("sloppyscope/sloppyref.words", laid_sloppyscope_sloppyref_words), ("sloppyscope/tree.levels", laid_sloppyscope_tree_levels)], narrowed := true }
def WhereTellsUptoSaid : Prop := whereTellsUptoRow.holds Tryz.pinned (OpenSpec.upto whereTellsSpec)

/-- 'sloppykeep.TreeBack', WHERE WHAT IT READS IS OF BULK AT MOST 1048576: true; the input reads as it did. -/
def treeBackUptoRow : OpenClaim := { program := "ytgifgiipojedbaagreatdoor", sum := "ba63b76fcc3612f1c7449ab386c1c0577c36e36ef446742a40f017c2414b6b5f", func := "sloppyscope/sloppykeep.TreeBack", spec := "treeBack", inPlace := ["internal/bytealg.IndexByteString", "internal/abi.NoEscape", "sync/atomic.LoadUint32", "(*internal/sync.Mutex).Lock", "internal/race.Disable", "sync/atomic.CompareAndSwapInt32", "internal/race.Enable", "internal/race.Acquire", "(*internal/sync.Mutex).lockSlow", "internal/sync.runtime_canSpin", "internal/sync.runtime_doSpin", "internal/sync.throw", "internal/sync.runtime_nanotime", "internal/sync.runtime_SemacquireMutex", "sync/atomic.AddInt32", "(*internal/sync.Mutex).Unlock", "internal/race.ReleaseMerge", "(*internal/sync.Mutex).unlockSlow", "internal/sync.fatal", "internal/sync.runtime_Semrelease", "sync/atomic.StoreUint32", "internal/reflectlite.ValueOf", "(internal/reflectlite.Value).Type", "(internal/reflectlite.Value).IsNil", "internal/reflectlite.TypeOf", "(internal/reflectlite.Value).Elem", "(internal/reflectlite.Value).Set"], unfollowed := true, recurses := true, named := ["sloppyscope/lex.wordList", "sloppyscope/tree.levels", "sloppyscope/tree.heads", "sloppyscope/tree.signs", "internal/strconv.uint64pow10", "math/bits.deBruijn32tab", "math/bits.deBruijn64tab", "errors.errorType"], apart := false, laid := [("math/bits.deBruijn32tab", laid_math_bits_deBruijn32tab), ("math/bits.deBruijn64tab", laid_math_bits_deBruijn64tab), ("internal/strconv.uint64pow10", laid_internal_strconv_uint64pow10), ("errors.errorType", laid_errors_errorType), ("sloppyscope/lex.wordList", laid_sloppyscope_lex_wordList), ("sloppyscope/tree.levels", laid_sloppyscope_tree_levels), ("sloppyscope/tree.signs", laid_sloppyscope_tree_signs), ("sloppyscope/tree.heads", laid_sloppyscope_tree_heads)], narrowed := true }
def TreeBackUptoSaid : Prop := treeBackUptoRow.holds Tryz.pinned (OpenSpec.upto treeBackSpec)

/-- 'sloppykeep.TreeJoins', WHERE WHAT IT READS IS OF BULK AT MOST 1048576: true; the input reads as it did. -/
def treeJoinsUptoRow : OpenClaim := { program := "ytgifgiipojedbaagreatdoor", sum := "ba63b76fcc3612f1c7449ab386c1c0577c36e36ef446742a40f017c2414b6b5f", func := "sloppyscope/sloppykeep.TreeJoins", spec := "treeJoins", inPlace := ["internal/bytealg.IndexByteString", "internal/abi.NoEscape", "sync/atomic.LoadUint32", "(*internal/sync.Mutex).Lock", "internal/race.Disable", "sync/atomic.CompareAndSwapInt32", "internal/race.Enable", "internal/race.Acquire", "(*internal/sync.Mutex).lockSlow", "internal/sync.runtime_canSpin", "internal/sync.runtime_doSpin", "internal/sync.throw", "internal/sync.runtime_nanotime", "internal/sync.runtime_SemacquireMutex", "sync/atomic.AddInt32", "(*internal/sync.Mutex).Unlock", "internal/race.ReleaseMerge", "(*internal/sync.Mutex).unlockSlow", "internal/sync.fatal", "internal/sync.runtime_Semrelease", "sync/atomic.StoreUint32", "internal/reflectlite.ValueOf", "(internal/reflectlite.Value).Type", "(internal/reflectlite.Value).IsNil", "internal/reflectlite.TypeOf", "(internal/reflectlite.Value).Elem", "(internal/reflectlite.Value).Set"], unfollowed := true, recurses := true, named := ["sloppyscope/lex.wordList", "sloppyscope/tree.levels", "sloppyscope/tree.heads", "sloppyscope/tree.signs", "internal/strconv.uint64pow10", "math/bits.deBruijn32tab", "math/bits.deBruijn64tab", "errors.errorType"], apart := false, laid := [("math/bits.deBruijn32tab", laid_math_bits_deBruijn32tab), ("math/bits.deBruijn64tab", laid_math_bits_deBruijn64tab), ("internal/strconv.uint64pow10", laid_internal_strconv_uint64pow10), ("errors.errorType", laid_errors_errorType), ("sloppyscope/lex.wordList", laid_sloppyscope_lex_wordList), ("sloppyscope/tree.levels", laid_sloppyscope_tree_levels), ("sloppyscope/tree.signs", laid_sloppyscope_tree_signs), ("sloppyscope/tree.heads", laid_sloppyscope_tree_heads)], narrowed := true }
def TreeJoinsUptoSaid : Prop := treeJoinsUptoRow.holds Tryz.pinned (OpenSpec.upto treeJoinsSpec)

/-- 'sloppylaw.EarlyChecks', WHERE WHAT IT READS IS OF BULK AT MOST 1048576: true; the input reads as it did. -/
def earlyChecksUptoRow : OpenClaim := { program := "ytgifgiipojedbaagreatdoor", sum := "ba63b76fcc3612f1c7449ab386c1c0577c36e36ef446742a40f017c2414b6b5f", func := "sloppyscope/sloppylaw.EarlyChecks", spec := "earlyChecks", inPlace := ["internal/bytealg.IndexByteString", "internal/abi.NoEscape", "internal/reflectlite.ValueOf", "(internal/reflectlite.Value).Type", "(internal/reflectlite.Value).IsNil", "internal/reflectlite.TypeOf", "(internal/reflectlite.Value).Elem", "(internal/reflectlite.Value).Set"], unfollowed := true, recurses := true, named := ["sloppyscope/sloppyref.Fine", "sloppyscope/sloppyref.words", "strconv.ErrSyntax", "strconv.ErrRange", "internal/strconv.uint64pow10", "math/bits.deBruijn32tab", "math/bits.deBruijn64tab", "sloppyscope/lex.wordList", "sloppyscope/tree.levels", "errors.errorType"], apart := false, laid := [("math/bits.deBruijn32tab", laid_math_bits_deBruijn32tab), ("math/bits.deBruijn64tab", laid_math_bits_deBruijn64tab), ("internal/strconv.uint64pow10", laid_internal_strconv_uint64pow10), ("errors.errorType", laid_errors_errorType), ("strconv.ErrRange", laid_strconv_ErrRange), ("strconv.ErrSyntax", laid_strconv_ErrSyntax), ("sloppyscope/lex.wordList", laid_sloppyscope_lex_wordList), ("sloppyscope/sloppyref.Fine", laid_sloppyscope_sloppyref_Fine), ("sloppyscope/sloppyref.words", laid_sloppyscope_sloppyref_words), ("sloppyscope/tree.levels", laid_sloppyscope_tree_levels)], narrowed := true }
def EarlyChecksUptoSaid : Prop := earlyChecksUptoRow.holds Tryz.pinned (OpenSpec.upto earlyChecksSpec)

end Rows
end Go.Proofs.YtgifgiipojedbaaGreatDoor
