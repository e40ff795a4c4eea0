/- LexTokens is proved: for every text the law returns true, and what was there ahead of the call stands as it stood. What is assumed is the card's own: nine listed variables are laid as the program lays them. -/
import Derived.Test.YtgifgiipojedbaaDoorRows
import Derived.Test.YtgifgiipojedbaaDoorTie
import Derived.Test.YtgifgiipojedbaaDoorCards
import Derived.Test.YtgifgiipojedbaaDoorLz
import Derived.Test.YtgifgiipojedbaaDoorOpen
import Derived.Stop.LaidErr
import Derived.Lib.LaidTab
import Derived.WalkKit
import Derived.ProofKit
import Derived.OpenShut
import Derived.ShutString
import Derived.ChangeOld
import Derived.Below
import Derived.ChangeSame
import Derived.ChangeVars
import Derived.JoinedOf
import Derived.RowKit
import Derived.RowKitTokens
import Derived.LaidLaws
import Derived.LaidHandle
import Derived.Stop.Joined
import Derived.SevenTiedAt
namespace Go.Proofs.YtgifgiipojedbaaDoor.lexTokens
open Go.ChangeShapes Go.WideShapes Go.ChangeAt Go.RowKit
open Go.ChangeMaps (open_string shut_string)
set_option linter.unusedVariables false
set_option maxRecDepth 100000

theorem own : ownKnob Tryd.prog.godebug = none := by kernel_rfl
theorem gw : Tryd.prog.globalNamed "sloppyscope/lex.wordList" = some 2 := by kernel_rfl
theorem tw : (Tryd.prog.globals[2]?).map (·.type) = some 174 := by kernel_rfl

/-- the words, as bytes -/
def wordsB : List (List UInt8) := match (Rows.laid_sloppyscope_lex_wordList : DataW Unit) with
  | .agg l => l.map fun
    | .lit (.string bs) => bs
    | _ => []
  | _ => []
theorem words_laid : (Rows.laid_sloppyscope_lex_wordList : DataW Unit) = .agg (wordsB.map fun b => .lit (.string b)) := by kernel_rfl
theorem words_get (j : Nat) (hj : j < 19) : ∃ b, wordsB[j]? = some b ∧ wordsL.getD j ByteArray.empty = ⟨b.toArray⟩ := by
  have h : wordsL = wordsB.map fun b => (⟨b.toArray⟩ : ByteArray) := by kernel_rfl
  have hl : wordsB.length = 19 := by kernel_rfl
  have hg : wordsB[j]? = some wordsB[j] := List.getElem?_eq_getElem (by omega)
  exact ⟨_, hg, by rw [h, List.getD_eq_getElem?_getD, List.getElem?_map, hg]; rfl⟩
theorem gr : Tryd.prog.globalNamed "sloppyscope/sloppyref.words" = some 1 := by kernel_rfl
theorem tr : (Tryd.prog.globals[1]?).map (·.type) = some 66 := by kernel_rfl
theorem rwords_laid : (Rows.laid_sloppyscope_sloppyref_words : DataW Unit) = .slice (wordsB.map fun b => .lit (.string b)) [] := by kernel_rfl
theorem gf : Tryd.prog.globalNamed "sloppyscope/sloppyref.Fine" = some 0 := by kernel_rfl
theorem tf : (Tryd.prog.globals[0]?).map (·.type) = some 86 := by kernel_rfl
theorem et : Tryd.prog.globalNamed "errors.errorType" = some 6 := by kernel_rfl
theorem rt : (Tryd.prog.cutTypes.find? (·.1 == "internal/reflectlite.rtype")).map (·.2) = some 229 := by kernel_rfl
theorem oneRow : ((List.range 283).filter fun t => Tryd.prog.rowNamed t [101, 114, 114, 111, 114]) = [45] := by kernel_rfl
theorem size : Tryd.prog.types.size = 283 := by kernel_rfl
/-- a struct of two numbers that stands first on the list -/
theorem fine_of_head {W : World} {rest : List (String × DataW Unit)} (h : laidMet Tryd.prog (("sloppyscope/sloppyref.Fine", Rows.laid_sloppyscope_sloppyref_Fine) :: rest) W) :
    W.cell? ⟨0, 0, none⟩ = some (.int .i64 0) ∧ W.cell? ⟨0, 1, none⟩ = some (.int .i64 (-1)) := by
  obtain ⟨ps, ⟨g', t', cs, fuel, p, q, hg', ht', hvar, hd', _, _⟩, _⟩ := h
  obtain rfl := Option.some.inj (gf.symm.trans hg')
  obtain rfl := Option.some.inj (tf.symm.trans ht')
  obtain ⟨y0, y1, n, hx, hlen, h0, h1⟩ := trod_struct2 Tryd.underlying86 hd'
  obtain ⟨m0, c0, e0, _⟩ := DataW.trod_int Tryd.underlying47 h0
  obtain ⟨m1, c1, e1, _⟩ := DataW.trod_int Tryd.underlying3 h1
  rw [e0, e1] at hx
  have hx0 : Rows.laid_sloppyscope_sloppyref_Fine = (.agg [.lit (.int .i64 m0), .lit (.int .i64 m1)] : DataW Unit) := congrArg Prod.fst hx
  simp only [Rows.laid_sloppyscope_sloppyref_Fine, DataW.agg.injEq, List.cons.injEq, DataW.lit.injEq, Lit.int.injEq, true_and, and_true] at hx0
  obtain ⟨rfl, rfl⟩ := hx0
  have d0 : cs[0]? = some (.int .i64 0) := by
    have := congrArg (·[0]?) c0
    simp [List.getElem?_take] at this
    exact this.2
  have d1 : cs[1]? = some (.int .i64 (-1)) := by
    have := congrArg (·[0]?) c1
    simp [List.getElem?_take] at this
    exact this.2
  exact ⟨(World.var?_cell gf hvar 0).trans d0, (World.var?_cell gf hvar 1).trans d1⟩
/-- what the condition gives a walk: the lists' cells -/
theorem words_of_laid {W : World} (h : laidMetH Tryd.prog Rows.lexTokensRow.laid W) : Words W ∧ RWords W ∧ FineAt W ∧ ErrType W := by
  have hh' : laidMet Tryd.prog [("math/bits.deBruijn32tab", Rows.laid_math_bits_deBruijn32tab), ("math/bits.deBruijn64tab", Rows.laid_math_bits_deBruijn64tab), ("internal/strconv.uint64pow10", Rows.laid_internal_strconv_uint64pow10), ("strconv.ErrRange", Rows.laid_strconv_ErrRange), ("strconv.ErrSyntax", Rows.laid_strconv_ErrSyntax), ("sloppyscope/lex.wordList", Rows.laid_sloppyscope_lex_wordList), ("sloppyscope/sloppyref.Fine", Rows.laid_sloppyscope_sloppyref_Fine), ("sloppyscope/sloppyref.words", Rows.laid_sloppyscope_sloppyref_words)] W ∧ handlesMet Tryd.prog [("errors.errorType", Rows.laid_errors_errorType)] W := h
  have h2 := hh'.1.tail.tail.tail.tail.tail
  refine ⟨fun j hj => ?_, ?_, ?_, ?_⟩
  · obtain ⟨b, hb, hw⟩ := words_get j hj
    rw [hw]
    exact texts_of_head gw tw Tryd.underlying174 Tryd.underlying9 (by kernel_rfl) (by kernel_rfl) words_laid h2 j b hb
  · have hl : wordsL = wordsB.map fun b => (⟨b.toArray⟩ : ByteArray) := by kernel_rfl
    have hn : wordsB.length = 19 := by kernel_rfl
    obtain ⟨b, off, cap, h1, _, h3⟩ := row_of_head gr tr Tryd.underlying66 Tryd.underlying9 (by kernel_rfl) rwords_laid (by omega) h2.tail.tail
    refine ⟨b, off, cap, by rw [hl, List.length_map]; exact h1, fun i x hx => ?_⟩
    rw [hl, List.getElem?_map] at hx
    obtain ⟨y, hy, rfl⟩ := Option.map_eq_some_iff.1 hx
    exact h3 i y hy
  · obtain ⟨f0, f1⟩ := fine_of_head h2.tail
    refine ⟨f0, f1, ?_⟩
    rcases Nat.lt_or_ge 0 W.heap.size with h' | h'
    · exact h'
    · simp [World.cell?, Array.getElem?_eq_none h'] at f0
  · obtain ⟨name, u, ty, e1, e2, e3, e4, e5⟩ := hh'.2 _ (List.mem_singleton.2 rfl)
    have en : name = [101, 114, 114, 111, 114] := (Option.some.inj e1).symm
    subst en
    obtain rfl := Option.some.inj (rt.symm.trans e2)
    have hm : ty ∈ (List.range 283).filter fun t => Tryd.prog.rowNamed t [101, 114, 114, 111, 114] := List.mem_filter.2 ⟨List.mem_range.2 (by rw [← size]; exact e3), e4⟩
    rw [oneRow] at hm
    obtain rfl := List.mem_singleton.1 hm
    have hh : typeHandle Tryd.prog 45 = .pointer (some ⟨11, 45, none⟩) := by kernel_rfl
    rw [hh] at e5
    exact World.var?_cell et e5 0

def cellOf : DataW Unit → List Value
  | .lit (.string bs) => [.string ⟨bs.toArray⟩]
  | .lit (.int k z) => [.int k z]
  | _ => []
def cellsOfData : DataW Unit → Array Value
  | .agg l => (l.flatMap fun
    | .agg m => m.flatMap cellOf
    | d => cellOf d).toArray
  | .slice l _ => (l.flatMap cellOf).toArray
  | _ => #[]
noncomputable def laidWorld (os : Os) : World :=
  let w0 := World.holding Tryd.prog os ⟨#[], #[], []⟩
  let lay (c : Array Value) (o : Obj) : Obj := match o with
    | .cells _ t frozen => .cells c t frozen
    | o => o
  let n := w0.heap.size
  { w0 with heap := ((((((((((((w0.heap.modify 2 (lay (cellsOfData Rows.laid_sloppyscope_lex_wordList))).modify 8 (lay (cellsOfData Rows.laid_internal_strconv_uint64pow10))).modify 9 (lay (cellsOfData Rows.laid_math_bits_deBruijn32tab))).modify 10 (lay (cellsOfData Rows.laid_math_bits_deBruijn64tab))).modify 6 (lay #[.iface 229 (.agg #[.pointer (some ⟨11, 45, none⟩)])])).modify 0 (lay #[.int .i64 0, .int .i64 (-1)])).modify 5 (lay #[.iface 225 (.pointer (some ⟨n + 1, 0, none⟩))])).modify 4 (lay #[.iface 225 (.pointer (some ⟨n + 2, 0, none⟩))])).modify 1 (lay #[.slice (some ⟨n, 0, none⟩) 19 19])).push (.cells (cellsOfData Rows.laid_sloppyscope_sloppyref_words) 9 (0, 0))).push (.cells #[.string ⟨#[118, 97, 108, 117, 101, 32, 111, 117, 116, 32, 111, 102, 32, 114, 97, 110, 103, 101]⟩] 227 (0, 0)))).push (.cells #[.string ⟨#[105, 110, 118, 97, 108, 105, 100, 32, 115, 121, 110, 116, 97, 120]⟩] 227 (0, 0)) }
theorem laidWorld_met (os : Os) (args : Array Value) : laidMetH Tryd.prog Rows.lexTokensRow.laid ((laidWorld os).forCall (fun _ _ => 0) ⟨#[], args, []⟩).memory :=
  laidMetH_of_parts (laidMet_of_run' 8 (by kernel_rfl) (by kernel_rfl)) (by kernel_rfl)

theorem lifted (os : Os) (started : os.Started) (H : Type) (enc : TypeId × Value → H) :
    ReturnsInHanded {} Tryd.checked os 5 .any (fun w args => (Rows.lexTokensSpec.pre enc Tryd.prog Tryd.f5 [] false w args ∧ laidMetH Tryd.prog Rows.lexTokensRow.laid w) ∧ sizedMet enc Tryd.prog Tryd.f5 (OpenSpec.ofChange Rows.lexTokensSpec) false w args)
      (Rows.lexTokensSpec.post enc Tryd.prog Tryd.f5 false true false false) := by
  refine returnsInHanded_of_change_and (C := Tryd.checked) (X := fun w _ => laidMetH Tryd.prog Rows.lexTokensRow.laid w) (fun _ _ _ hh h => h.of_heap hh) own started (by kernel_rfl) Tryd.func5
    (ChangeSpec.witness_shaped (enc := enc) (C := Tryd.checked) (os := os) (X := fun w _ => laidMetH Tryd.prog Rows.lexTokensRow.laid w) false (laidWorld os) #[.string ByteArray.empty] 8 rfl (World.shaped_of_RefB (by kernel_rfl) (by kernel_rfl)) (by kernel_rfl) (by kernel_rfl) (by kernel_rfl) (laidWorld_met os _)) ?_
  intro W base args ds gs before hval0 hW _ _ hL _
  have hval : ∀ (j : Nat) t v, Tryd.f5.params[j]? = some t → args[j]? = some v → Value.okWide Tryd.prog W .any base t v := hval0
  have hW' := hW
  obtain ⟨p, q, hA0, hV, rfl, hfz, hnd⟩ := hW
  have hA : DataW.TrodAll enc Tryd.prog W 0 (fun _ => true) true Tryd.f5.params.toList args.toList ds p := hA0
  rw [Tryd.params5] at hA hval
  obtain ⟨v0, vs0, d0, ds0, p0, q0, hargs, rfl, rfl, h0, r0⟩ := trodAll_cons hA
  obtain ⟨rfl, rfl, rfl⟩ := trodAll_nil r0
  obtain rfl : args = #[v0] := by cases args; simp_all
  obtain ⟨rfl, rfl⟩ := trodVars_none hV
  obtain ⟨a0, rfl, rfl, rfl, w0⟩ := open_string Tryd.underlying9 (hval 0 9 v0 rfl rfl) h0
  clear hA0 hval0
  simp only [List.append_nil] at hW'
  refine (lextokens_any W a0 (words_of_laid hL).2.1 (words_of_laid hL).2.2.1 (words_of_laid hL).1 (words_of_laid hL).2.2.2).mono fun e W' ⟨he, bel⟩ => ?_
  subst he
  exact ⟨_, rfl, _, _, _, [], _, [], hW', trodAll_mk1 (shut_bool Tryd.underlying4 _), (trodAll_cons_mk (shut_string Tryd.underlying9 w0) trodAll_mk0), rfl, bel.frame _, fun h => by cases h⟩

theorem over : Rows.LexTokensSaid :=
  OpenClaim.holds_of_wide 5 Tryd.f5 rfl rfl rfl rfl rfl rfl rfl ⟨rfl, rfl, rfl, rfl, rfl⟩ rfl rfl rfl rfl rfl (by kernel_rfl) Tryd.func5 (by kernel_rfl)
    (of_decide_eq_true (by kernel_rfl)) (by unfold Func.isWrapper; rw [if_neg (of_decide_eq_false (by kernel_rfl))]; exact ⟨rfl, rfl⟩)
    (fun os started H enc _ => lifted os started H enc)

theorem proved : Rows.LexTokensCardSaid :=
  Claim7.holds_tied_plain_at .later [] [.data, .data, .data, .handle, .sentinel, .sentinel, .widerDeep, .data, .widerDeep] true (true, "57c0a5f6ddd2c9c969c0db3eae4e801596c1909cd1c0a7cd0249852eb8c40ae4") true
    over (fun _ h => by cases h) (by kernel_rfl) (fun _ h => by cases h) lexTokens_row_tie rfl ⟨rfl, rfl⟩ (by kernel_rfl) rfl
    (fun f fn hf hfn => by
      obtain rfl : f = 5 := Option.some.inj ((show Tryd.prog.funcNamed "sloppyscope/sloppylaw.LexTokens" = some 5 by kernel_rfl).symm.trans hf) |>.symm
      obtain rfl : fn = Tryd.f5 := (Option.some.inj (Tryd.func5.symm.trans hfn)).symm
      exact ⟨by kernel_rfl, fun j t ht => by
        rw [Tryd.params5] at ht
        have h3 : t = 9 := by
          rcases j with _ | j
          · simpa using ht.symm
          · simp at ht
        subst h3
        exact (show Tryd.prog.wantsStandIn 9 = false by kernel_rfl)⟩)
    (by kernel_rfl)
#print axioms proved
end Go.Proofs.YtgifgiipojedbaaDoor.lexTokens
