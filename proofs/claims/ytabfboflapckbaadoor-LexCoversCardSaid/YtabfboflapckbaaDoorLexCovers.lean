/- LexCovers is proved: for every text the law returns true, and what was there ahead of the call stands as it stood. What is assumed is the card's own: the list of the language's words is laid as the program lays it. -/
import Derived.Test.YtabfboflapckbaaDoorRows
import Derived.Test.YtabfboflapckbaaDoorTie
import Derived.Test.YtabfboflapckbaaDoorCards
import Derived.Test.YtabfboflapckbaaDoorLexCv
import Derived.Test.YtabfboflapckbaaDoorOpen
import Derived.Stop.LaidErr
import Derived.Lib.LaidTab
import Derived.WalkKit
import Derived.ProofKit
import Derived.OpenShut
import Derived.ShutString
import Derived.ChangeOld
import Derived.Below
import Derived.ChangeSame
import Derived.ChangeVars
import Derived.JoinedOf
import Derived.RowKit
import Derived.RowKitTokens
import Derived.LaidLaws
import Derived.LaidHandle
import Derived.Stop.Joined
import Derived.SevenTiedAt
namespace Go.Proofs.YtabfboflapckbaaDoor.lexCovers
open Go.ChangeShapes Go.WideShapes Go.ChangeAt Go.RowKit
open Go.ChangeMaps (open_string shut_string)
set_option linter.unusedVariables false
set_option maxRecDepth 100000

theorem own : ownKnob Tryd.prog.godebug = none := by kernel_rfl
theorem gw : Tryd.prog.globalNamed "sloppyscope/lex.wordList" = some 0 := by kernel_rfl
theorem tw : (Tryd.prog.globals[0]?).map (·.type) = some 109 := by kernel_rfl

/-- the words, as bytes -/
def wordsB : List (List UInt8) := match (Rows.laid_sloppyscope_lex_wordList : DataW Unit) with
  | .agg l => l.map fun
    | .lit (.string bs) => bs
    | _ => []
  | _ => []
theorem words_laid : (Rows.laid_sloppyscope_lex_wordList : DataW Unit) = .agg (wordsB.map fun b => .lit (.string b)) := by kernel_rfl
theorem words_get (j : Nat) (hj : j < 19) : ∃ b, wordsB[j]? = some b ∧ wordsL.getD j ByteArray.empty = ⟨b.toArray⟩ := by
  have h : wordsL = wordsB.map fun b => (⟨b.toArray⟩ : ByteArray) := by kernel_rfl
  have hl : wordsB.length = 19 := by kernel_rfl
  have hg : wordsB[j]? = some wordsB[j] := List.getElem?_eq_getElem (by omega)
  exact ⟨_, hg, by rw [h, List.getD_eq_getElem?_getD, List.getElem?_map, hg]; rfl⟩
/-- what the condition gives a walk: the list's cells -/
theorem words_of_laid {W : World} (h : laidMetH Tryd.prog Rows.lexCoversRow.laid W) : Words W := by
  have h' : laidMet Tryd.prog Rows.lexCoversRow.laid W := h
  intro j hj
  obtain ⟨b, hb, hw⟩ := words_get j hj
  rw [hw]
  exact texts_of_head gw tw Tryd.underlying109 Tryd.underlying9 (by kernel_rfl) (by kernel_rfl) words_laid h' j b hb

def cellsOfData : DataW Unit → Array Value
  | .agg l => (l.map fun
    | .lit (.string bs) => Value.string ⟨bs.toArray⟩
    | _ => .nilIface).toArray
  | _ => #[]
noncomputable def laidWorld (os : Os) : World :=
  let w0 := World.holding Tryd.prog os ⟨#[], #[], []⟩
  let lay (d : DataW Unit) (o : Obj) : Obj := match o with
    | .cells _ t frozen => .cells (cellsOfData d) t frozen
    | o => o
  { w0 with heap := w0.heap.modify 0 (lay Rows.laid_sloppyscope_lex_wordList) }
theorem laidWorld_met (os : Os) (args : Array Value) : laidMetH Tryd.prog Rows.lexCoversRow.laid ((laidWorld os).forCall (fun _ _ => 0) ⟨#[], args, []⟩).memory :=
  laidMetH_of_parts (laidMet_of_run' 8 (by kernel_rfl) (by kernel_rfl)) (by kernel_rfl)

theorem lifted (os : Os) (started : os.Started) (H : Type) (enc : TypeId × Value → H) :
    ReturnsInHanded {} Tryd.checked os 3 .any (fun w args => (Rows.lexCoversSpec.pre enc Tryd.prog Tryd.f3 [] false w args ∧ laidMetH Tryd.prog Rows.lexCoversRow.laid w) ∧ sizedMet enc Tryd.prog Tryd.f3 (OpenSpec.ofChange Rows.lexCoversSpec) false w args)
      (Rows.lexCoversSpec.post enc Tryd.prog Tryd.f3 false true false false) := by
  refine returnsInHanded_of_change_and (C := Tryd.checked) (X := fun w _ => laidMetH Tryd.prog Rows.lexCoversRow.laid w) (fun _ _ _ hh h => h.of_heap hh) own started (by kernel_rfl) Tryd.func3
    (ChangeSpec.witness_at (enc := enc) (C := Tryd.checked) (os := os) (X := fun w _ => laidMetH Tryd.prog Rows.lexCoversRow.laid w) false (laidWorld os) #[.string ByteArray.empty] 8 rfl (by kernel_rfl) (by kernel_rfl) (by kernel_rfl) (by kernel_rfl) (by kernel_rfl) (laidWorld_met os _)) ?_
  intro W base args ds gs before hval0 hW _ _ hL _
  have hval : ∀ (j : Nat) t v, Tryd.f3.params[j]? = some t → args[j]? = some v → Value.okWide Tryd.prog W .any base t v := hval0
  have hW' := hW
  obtain ⟨p, q, hA0, hV, rfl, hfz, hnd⟩ := hW
  have hA : DataW.TrodAll enc Tryd.prog W 0 (fun _ => true) true Tryd.f3.params.toList args.toList ds p := hA0
  rw [Tryd.params3] at hA hval
  obtain ⟨v0, vs0, d0, ds0, p0, q0, hargs, rfl, rfl, h0, r0⟩ := trodAll_cons hA
  obtain ⟨rfl, rfl, rfl⟩ := trodAll_nil r0
  obtain rfl : args = #[v0] := by cases args; simp_all
  obtain ⟨rfl, rfl⟩ := trodVars_none hV
  obtain ⟨a0, rfl, rfl, rfl, w0⟩ := open_string Tryd.underlying9 (hval 0 9 v0 rfl rfl) h0
  clear hA0 hval0
  simp only [List.append_nil] at hW'
  refine (covers_walk W a0 (words_of_laid hL)).mono fun e W' ⟨he, bel⟩ => ?_
  subst he
  exact ⟨_, rfl, _, _, _, [], _, [], hW', trodAll_mk1 (shut_bool Tryd.underlying4 _), (trodAll_cons_mk (shut_string Tryd.underlying9 w0) trodAll_mk0), rfl, bel.frame _, fun h => by cases h⟩

theorem over : Rows.LexCoversSaid :=
  OpenClaim.holds_of_wide 3 Tryd.f3 rfl rfl rfl rfl rfl rfl rfl ⟨rfl, rfl, rfl, rfl, rfl⟩ rfl rfl rfl rfl rfl (by kernel_rfl) Tryd.func3 (by kernel_rfl)
    (of_decide_eq_true (by kernel_rfl)) (by unfold Func.isWrapper; rw [if_neg (of_decide_eq_false (by kernel_rfl))]; exact ⟨rfl, rfl⟩)
    (fun os started H enc _ => lifted os started H enc)

theorem proved : Rows.LexCoversCardSaid :=
  Claim7.holds_tied_plain_at .later [] [.widerDeep] true (true, "a1116d70707a62b13f55689415bee4e2a681ce369e791c9c8339c3c2864eef2b") true
    over (fun _ h => by cases h) (by kernel_rfl) (fun _ h => by cases h) lexCovers_row_tie rfl ⟨rfl, rfl⟩ (by kernel_rfl) rfl
    (fun f fn hf hfn => by
      obtain rfl : f = 3 := Option.some.inj ((show Tryd.prog.funcNamed "sloppyscope/sloppykeep.LexCovers" = some 3 by kernel_rfl).symm.trans hf) |>.symm
      obtain rfl : fn = Tryd.f3 := (Option.some.inj (Tryd.func3.symm.trans hfn)).symm
      exact ⟨by kernel_rfl, fun j t ht => by
        rw [Tryd.params3] at ht
        have h3 : t = 9 := by
          rcases j with _ | j
          · simpa using ht.symm
          · simp at ht
        subst h3
        exact (show Tryd.prog.wantsStandIn 9 = false by kernel_rfl)⟩)
    (by kernel_rfl)
#print axioms proved
end Go.Proofs.YtabfboflapckbaaDoor.lexCovers
