/- WherePlain is proved: for every text the law returns true, and what was there ahead of the call stands as it stood. What is assumed is the card's own: the list of the language's words and the table of its signs are laid as the program lays them. -/
import Derived.Test.YtgifgiipojedbaaDoorRows
import Derived.Test.YtgifgiipojedbaaDoorTie
import Derived.Test.YtgifgiipojedbaaDoorCards
import Derived.Test.YtgifgiipojedbaaDoorJ29
import Derived.Stop.LaidErr
import Derived.Lib.LaidTab
import Derived.WalkKit
import Derived.ProofKit
import Derived.OpenShut
import Derived.ShutString
import Derived.ChangeOld
import Derived.Below
import Derived.ChangeSame
import Derived.ChangeVars
import Derived.JoinedOf
import Derived.RowKit
import Derived.RowKitTokens
import Derived.LaidLaws
import Derived.LaidHandle
import Derived.Stop.Joined
import Derived.SevenTiedAt
namespace Go.Proofs.YtgifgiipojedbaaDoor.wherePlain
open Go.ChangeShapes Go.WideShapes Go.ChangeAt Go.RowKit
open Go.ChangeMaps (open_string shut_string)
set_option linter.unusedVariables false
set_option maxRecDepth 100000

theorem own : ownKnob Tryd.prog.godebug = none := by kernel_rfl
theorem gw : Tryd.prog.globalNamed "sloppyscope/lex.wordList" = some 2 := by kernel_rfl
theorem tw : (Tryd.prog.globals[2]?).map (·.type) = some 174 := by kernel_rfl

/-- the words, as bytes -/
def wordsB : List (List UInt8) := match (Rows.laid_sloppyscope_lex_wordList : DataW Unit) with
  | .agg l => l.map fun
    | .lit (.string bs) => bs
    | _ => []
  | _ => []
theorem words_laid : (Rows.laid_sloppyscope_lex_wordList : DataW Unit) = .agg (wordsB.map fun b => .lit (.string b)) := by kernel_rfl
theorem words_get (j : Nat) (hj : j < 19) : ∃ b, wordsB[j]? = some b ∧ wordsL.getD j ByteArray.empty = ⟨b.toArray⟩ := by
  have h : wordsL = wordsB.map fun b => (⟨b.toArray⟩ : ByteArray) := by kernel_rfl
  have hl : wordsB.length = 19 := by kernel_rfl
  have hg : wordsB[j]? = some wordsB[j] := List.getElem?_eq_getElem (by omega)
  exact ⟨_, hg, by rw [h, List.getD_eq_getElem?_getD, List.getElem?_map, hg]; rfl⟩
theorem gl : Tryd.prog.globalNamed "sloppyscope/tree.levels" = some 7 := by kernel_rfl
theorem tl : (Tryd.prog.globals[7]?).map (·.type) = some 242 := by kernel_rfl
/-- the signs, as bytes -/
def levelsB : List (List (List UInt8)) := match (Rows.laid_sloppyscope_tree_levels : DataW Unit) with
  | .agg l => l.map fun
    | .slice m _ => m.map fun
      | .lit (.string bs) => bs
      | _ => []
    | _ => []
  | _ => []
theorem levels_laid : (Rows.laid_sloppyscope_tree_levels : DataW Unit) = .agg (levelsB.map fun r => .slice (r.map fun b => .lit (.string b)) []) := by kernel_rfl
theorem levels_get (lv : Nat) (h : lv < 6) : ∃ r, levelsB[lv]? = some r ∧ 0 < r.length ∧ levL lv = r.map fun b => (⟨b.toArray⟩ : ByteArray) := by
  match lv, h with
  | 0, _ => exact ⟨_, rfl, by decide, by kernel_rfl⟩
  | 1, _ => exact ⟨_, rfl, by decide, by kernel_rfl⟩
  | 2, _ => exact ⟨_, rfl, by decide, by kernel_rfl⟩
  | 3, _ => exact ⟨_, rfl, by decide, by kernel_rfl⟩
  | 4, _ => exact ⟨_, rfl, by decide, by kernel_rfl⟩
  | 5, _ => exact ⟨_, rfl, by decide, by kernel_rfl⟩
/-- what the condition gives a walk: the lists' cells -/
theorem words_of_laid {W : World} (h : laidMetH Tryd.prog Rows.wherePlainRow.laid W) : Words W ∧ Levels W W.heap.size := by
  have h' : laidMet Tryd.prog Rows.wherePlainRow.laid W := h
  refine ⟨fun j hj => ?_, fun lv hlv => ?_⟩
  · obtain ⟨b, hb, hw⟩ := words_get j hj
    rw [hw]
    exact texts_of_head gw tw Tryd.underlying174 Tryd.underlying9 (by kernel_rfl) (by kernel_rfl) words_laid h' j b hb
  · obtain ⟨r, hr, hpos, hl⟩ := levels_get lv hlv
    obtain ⟨b, off, cap, h1, h2, h3⟩ := rows_of_second gl tl Tryd.underlying242 Tryd.underlying66 Tryd.underlying9 (by kernel_rfl) (by kernel_rfl) (by kernel_rfl) levels_laid h' lv r hr hpos
    have hlt : ∀ {p : Addr} {v : Value}, W.cell? p = some v → p.block < W.heap.size := fun {p v} hc => by
      unfold World.cell? at hc
      split at hc
      · rename_i hb
        exact (Array.getElem?_eq_some_iff.1 hb).1
      · cases hc
    refine ⟨b, off, cap, hlt h1, ?_, by rw [hl, List.length_map]; exact h1, by rw [hl, List.length_map]; exact h2, fun i x hx => ?_⟩
    · obtain ⟨x, hx⟩ : ∃ x, r[0]? = some x := ⟨r[0], List.getElem?_eq_getElem hpos⟩
      exact hlt (h3 0 x hx)
    · rw [hl, List.getElem?_map] at hx
      obtain ⟨y, hy, rfl⟩ := Option.map_eq_some_iff.1 hx
      exact h3 i y hy

def cellOf : DataW Unit → List Value
  | .lit (.string bs) => [.string ⟨bs.toArray⟩]
  | _ => []
def cellsOfData : DataW Unit → Array Value
  | .agg l => (l.flatMap cellOf).toArray
  | _ => #[]
noncomputable def laidWorld (os : Os) : World :=
  let w0 := World.holding Tryd.prog os ⟨#[], #[], []⟩
  let lay (c : Array Value) (o : Obj) : Obj := match o with
    | .cells _ t frozen => .cells c t frozen
    | o => o
  let n := w0.heap.size
  { w0 with heap := (((((((w0.heap.modify 2 (lay (cellsOfData Rows.laid_sloppyscope_lex_wordList))).modify 7 (lay #[.slice (some ⟨n, 0, none⟩) 1 1, .slice (some ⟨n + 1, 0, none⟩) 1 1, .slice (some ⟨n + 2, 0, none⟩) 1 1, .slice (some ⟨n + 3, 0, none⟩) 1 1, .slice (some ⟨n + 4, 0, none⟩) 2 2, .slice (some ⟨n + 5, 0, none⟩) 1 1])).push (.cells #[.string ⟨#[124, 124]⟩] 9 (0, 0))).push (.cells #[.string ⟨#[38, 38]⟩] 9 (0, 0))).push (.cells #[.string ⟨#[61, 61, 61]⟩] 9 (0, 0))).push (.cells #[.string ⟨#[60]⟩] 9 (0, 0))).push (.cells #[.string ⟨#[43]⟩, .string ⟨#[45]⟩] 9 (0, 0))).push (.cells #[.string ⟨#[42]⟩] 9 (0, 0)) }
theorem laidWorld_met (os : Os) (args : Array Value) : laidMetH Tryd.prog Rows.wherePlainRow.laid ((laidWorld os).forCall (fun _ _ => 0) ⟨#[], args, []⟩).memory :=
  laidMetH_of_parts (laidMet_of_run' 8 (by kernel_rfl) (by kernel_rfl)) (by kernel_rfl)

theorem lifted (os : Os) (started : os.Started) (H : Type) (enc : TypeId × Value → H) :
    ReturnsInHanded {} Tryd.checked os 4 .any (fun w args => (Rows.wherePlainSpec.pre enc Tryd.prog Tryd.f4 [] false w args ∧ laidMetH Tryd.prog Rows.wherePlainRow.laid w) ∧ sizedMet enc Tryd.prog Tryd.f4 (OpenSpec.ofChange Rows.wherePlainSpec) false w args)
      (Rows.wherePlainSpec.post enc Tryd.prog Tryd.f4 false true false false) := by
  refine returnsInHanded_of_change_and (C := Tryd.checked) (X := fun w _ => laidMetH Tryd.prog Rows.wherePlainRow.laid w) (fun _ _ _ hh h => h.of_heap hh) own started (by kernel_rfl) Tryd.func4
    (ChangeSpec.witness_shaped (enc := enc) (C := Tryd.checked) (os := os) (X := fun w _ => laidMetH Tryd.prog Rows.wherePlainRow.laid w) false (laidWorld os) #[.string ByteArray.empty] 8 rfl (World.shaped_of_RefB (by kernel_rfl) (by kernel_rfl)) (by kernel_rfl) (by kernel_rfl) (by kernel_rfl) (laidWorld_met os _)) ?_
  intro W base args ds gs before hval0 hW _ _ hL _
  have hval : ∀ (j : Nat) t v, Tryd.f4.params[j]? = some t → args[j]? = some v → Value.okWide Tryd.prog W .any base t v := hval0
  have hW' := hW
  obtain ⟨p, q, hA0, hV, rfl, hfz, hnd⟩ := hW
  have hA : DataW.TrodAll enc Tryd.prog W 0 (fun _ => true) true Tryd.f4.params.toList args.toList ds p := hA0
  rw [Tryd.params4] at hA hval
  obtain ⟨v0, vs0, d0, ds0, p0, q0, hargs, rfl, rfl, h0, r0⟩ := trodAll_cons hA
  obtain ⟨rfl, rfl, rfl⟩ := trodAll_nil r0
  obtain rfl : args = #[v0] := by cases args; simp_all
  obtain ⟨rfl, rfl⟩ := trodVars_none hV
  obtain ⟨a0, rfl, rfl, rfl, w0⟩ := open_string Tryd.underlying9 (hval 0 9 v0 rfl rfl) h0
  clear hA0 hval0
  simp only [List.append_nil] at hW'
  refine (whereplain_any W a0 (words_of_laid hL).1 (words_of_laid hL).2).mono fun e W' ⟨he, bel⟩ => ?_
  subst he
  exact ⟨_, rfl, _, _, _, [], _, [], hW', trodAll_mk1 (shut_bool Tryd.underlying4 _), (trodAll_cons_mk (shut_string Tryd.underlying9 w0) trodAll_mk0), rfl, bel.frame _, fun h => by cases h⟩

theorem over : Rows.WherePlainSaid :=
  OpenClaim.holds_of_wide 4 Tryd.f4 rfl rfl rfl rfl rfl rfl rfl ⟨rfl, rfl, rfl, rfl, rfl⟩ rfl rfl rfl rfl rfl (by kernel_rfl) Tryd.func4 (by kernel_rfl)
    (of_decide_eq_true (by kernel_rfl)) (by unfold Func.isWrapper; rw [if_neg (of_decide_eq_false (by kernel_rfl))]; exact ⟨rfl, rfl⟩)
    (fun os started H enc _ => lifted os started H enc)

theorem proved : Rows.WherePlainCardSaid :=
  Claim7.holds_tied_plain_at .later [] [.widerDeep, .data] true (true, "57c0a5f6ddd2c9c969c0db3eae4e801596c1909cd1c0a7cd0249852eb8c40ae4") true
    over (fun _ h => by cases h) (by kernel_rfl) (fun _ h => by cases h) wherePlain_row_tie rfl ⟨rfl, rfl⟩ (by kernel_rfl) rfl
    (fun f fn hf hfn => by
      obtain rfl : f = 4 := Option.some.inj ((show Tryd.prog.funcNamed "sloppyscope/sloppykeep.WherePlain" = some 4 by kernel_rfl).symm.trans hf) |>.symm
      obtain rfl : fn = Tryd.f4 := (Option.some.inj (Tryd.func4.symm.trans hfn)).symm
      exact ⟨by kernel_rfl, fun j t ht => by
        rw [Tryd.params4] at ht
        have h3 : t = 9 := by
          rcases j with _ | j
          · simpa using ht.symm
          · simp at ht
        subst h3
        exact (show Tryd.prog.wantsStandIn 9 = false by kernel_rfl)⟩)
    (by kernel_rfl)
#print axioms proved
end Go.Proofs.YtgifgiipojedbaaDoor.wherePlain
