/- HeapPlays is proved: for every list the law returns true, and what was there ahead of the call stands as it stood. What is assumed is the card's own: errors.errorType is laid as the program lays it. -/
import Derived.Test.YtfanolcjgaccpaaDoorRows
import Derived.Test.YtfanolcjgaccpaaDoorTie
import Derived.Test.YtfanolcjgaccpaaDoorCards
import Derived.Test.YtfanolcjgaccpaaDoorJ27
import Derived.WalkKit
import Derived.ProofKit
import Derived.OpenShut
import Derived.ShutString
import Derived.ChangeOld
import Derived.Below
import Derived.ChangeSame
import Derived.ChangeVars
import Derived.JoinedOf
import Derived.RowKit
import Derived.RowKitTokens
import Derived.LaidLaws
import Derived.LaidHandle
import Derived.Stop.Joined
import Derived.SevenTiedAt
import Derived.Carry
import Derived.Deep.Slices
namespace Go.Proofs.YtfanolcjgaccpaaDoor.heapPlays
open Go.ChangeShapes Go.WideShapes Go.ChangeAt Go.RowKit
open Go.ChangeMaps (open_string shut_string)
set_option linter.unusedVariables false
set_option maxRecDepth 100000

theorem own : ownKnob Tryd.prog.godebug = none := by kernel_rfl
theorem et : Tryd.prog.globalNamed "errors.errorType" = some 1 := by kernel_rfl
theorem rt : (Tryd.prog.cutTypes.find? (·.1 == "internal/reflectlite.rtype")).map (·.2) = some 143 := by kernel_rfl
theorem oneRow : ((List.range 182).filter fun t => Tryd.prog.rowNamed t [101, 114, 114, 111, 114]) = [45] := by kernel_rfl
theorem size : Tryd.prog.types.size = 182 := by kernel_rfl

/-- what the condition gives a walk: the variable's one cell -/
theorem handle_of_laid {W : World} (h : laidMetH Tryd.prog Rows.heapPlaysRow.laid W) : ErrType W := by
  have h' : laidMet Tryd.prog [] W ∧ handlesMet Tryd.prog Rows.heapPlaysRow.laid W := h
  obtain ⟨name, u, ty, e1, e2, e3, e4, e5⟩ := h'.2 _ (List.mem_singleton.2 rfl)
  have en : name = [101, 114, 114, 111, 114] := (Option.some.inj e1).symm
  subst en
  obtain rfl := Option.some.inj (rt.symm.trans e2)
  have hm : ty ∈ (List.range 182).filter fun t => Tryd.prog.rowNamed t [101, 114, 114, 111, 114] := List.mem_filter.2 ⟨List.mem_range.2 (by rw [← size]; exact e3), e4⟩
  rw [oneRow] at hm
  obtain rfl := List.mem_singleton.1 hm
  have hh : typeHandle Tryd.prog 45 = .pointer (some ⟨2, 45, none⟩) := by kernel_rfl
  rw [hh] at e5
  exact World.var?_cell et e5 0

noncomputable def laidWorld (os : Os) : World :=
  let w0 := World.holding Tryd.prog os ⟨#[], #[], []⟩
  { w0 with heap := w0.heap.modify 1 fun
      | .cells _ t frozen => .cells #[.iface 143 (.agg #[.pointer (some ⟨2, 45, none⟩)])] t frozen
      | o => o }
theorem laidWorld_met (os : Os) (args : Array Value) : laidMetH Tryd.prog Rows.heapPlaysRow.laid ((laidWorld os).forCall (fun _ _ => 0) ⟨#[], args, []⟩).memory :=
  laidMetH_of_parts (laidMet_nil _ _) (by kernel_rfl)

theorem laidOut : laidOutB Tryd.prog = true := by kernel_rfl
theorem cellsD : Tryd.prog.cellsOf 34 = 7 := by kernel_rfl
theorem cellsI : Tryd.prog.cellsOf 3 = 1 := by kernel_rfl
theorem cellsS : Tryd.prog.cellsOf 9 = 1 := by kernel_rfl
theorem cellsB : Tryd.prog.cellsOf 4 = 1 := by kernel_rfl
theorem fld {fs : Array Field} {i : Nat} {t : TypeId} {o : Nat} (h : (fs[i]?).map (fun f => (f.type, f.offset)) = some (t, o)) {M : TypeId → Nat → Prop} (hf : ∀ f, fs[i]? = some f → M f.type f.offset) : M t o := by
  cases e : fs[i]? with
  | none => rw [e] at h; cases h
  | some f =>
    rw [e] at h
    simp only [Option.map_some, Option.some.injEq, Prod.mk.injEq] at h
    obtain ⟨rfl, rfl⟩ := h
    exact hf f e
/-- one of the list, opened -/
theorem rec_of {H : Type} {enc : TypeId × Value → H} {W : World} {n : Nat} {cs : List Value} {x : DataW H × List MemPlace} (hlen : cs.length = 7)
    (h : DataW.trod enc Tryd.prog W 0 (fun _ => true) true n 34 cs = some x) : ∃ d : DoRec, cs = d.cells := by
  obtain ⟨xs, k, hk, hxy, _, hxl, hf⟩ := DataW.trod_struct Tryd.underlying34 h
  match cs, hlen with
  | [c0, c1, c2, c3, c4, c5, c6], _ =>
    match xs, hxl with
    | [y0, y1, y2, y3, y4, y5, y6], _ =>
      have g0 := fld (i := 0) (t := 3) (o := 0) (M := fun t o => DataW.trod enc Tryd.prog W 0 (fun _ => true) true k t (([c0, c1, c2, c3, c4, c5, c6].drop o).take (Tryd.prog.cellsOf t)) = [y0, y1, y2, y3, y4, y5, y6][0]?) (by rfl) (hf 0)
      have g1 := fld (i := 1) (t := 3) (o := 1) (M := fun t o => DataW.trod enc Tryd.prog W 0 (fun _ => true) true k t (([c0, c1, c2, c3, c4, c5, c6].drop o).take (Tryd.prog.cellsOf t)) = [y0, y1, y2, y3, y4, y5, y6][1]?) (by rfl) (hf 1)
      have g2 := fld (i := 2) (t := 3) (o := 2) (M := fun t o => DataW.trod enc Tryd.prog W 0 (fun _ => true) true k t (([c0, c1, c2, c3, c4, c5, c6].drop o).take (Tryd.prog.cellsOf t)) = [y0, y1, y2, y3, y4, y5, y6][2]?) (by rfl) (hf 2)
      have g3 := fld (i := 3) (t := 9) (o := 3) (M := fun t o => DataW.trod enc Tryd.prog W 0 (fun _ => true) true k t (([c0, c1, c2, c3, c4, c5, c6].drop o).take (Tryd.prog.cellsOf t)) = [y0, y1, y2, y3, y4, y5, y6][3]?) (by rfl) (hf 3)
      have g4 := fld (i := 4) (t := 3) (o := 4) (M := fun t o => DataW.trod enc Tryd.prog W 0 (fun _ => true) true k t (([c0, c1, c2, c3, c4, c5, c6].drop o).take (Tryd.prog.cellsOf t)) = [y0, y1, y2, y3, y4, y5, y6][4]?) (by rfl) (hf 4)
      have g5 := fld (i := 5) (t := 3) (o := 5) (M := fun t o => DataW.trod enc Tryd.prog W 0 (fun _ => true) true k t (([c0, c1, c2, c3, c4, c5, c6].drop o).take (Tryd.prog.cellsOf t)) = [y0, y1, y2, y3, y4, y5, y6][5]?) (by rfl) (hf 5)
      have g6 := fld (i := 6) (t := 4) (o := 6) (M := fun t o => DataW.trod enc Tryd.prog W 0 (fun _ => true) true k t (([c0, c1, c2, c3, c4, c5, c6].drop o).take (Tryd.prog.cellsOf t)) = [y0, y1, y2, y3, y4, y5, y6][6]?) (by rfl) (hf 6)
      simp only [cellsI, cellsS, cellsB, List.drop_zero, List.drop_succ_cons, List.take_succ_cons, List.take_zero, List.getElem?_cons_zero, List.getElem?_cons_succ] at g0 g1 g2 g3 g4 g5 g6
      obtain ⟨z0, e0, _⟩ := DataW.trod_int Tryd.underlying3 g0
      obtain ⟨z1, e1, _⟩ := DataW.trod_int Tryd.underlying3 g1
      obtain ⟨z2, e2, _⟩ := DataW.trod_int Tryd.underlying3 g2
      obtain ⟨z3, e3, _⟩ := DataW.trod_string Tryd.underlying9 g3
      obtain ⟨z4, e4, _⟩ := DataW.trod_int Tryd.underlying3 g4
      obtain ⟨z5, e5, _⟩ := DataW.trod_int Tryd.underlying3 g5
      obtain ⟨z6, e6, _⟩ := DataW.trod_bool Tryd.underlying4 g6
      simp only [List.cons.injEq, and_true] at e0 e1 e2 e3 e4 e5 e6
      subst e0 e1 e2 e3 e4 e5 e6
      exact ⟨⟨z0, z1, z2, z3, z4, z5, z6⟩, rfl⟩
/-- the list, opened -/
theorem arg_of {H : Type} {enc : TypeId × Value → H} {W : World} {fuel : Nat} {a0 : Option Addr} {len cap : Nat} {x : DataW H × List MemPlace}
    (h : DataW.trod enc Tryd.prog W 0 (fun _ => true) true fuel 22 (Value.slice a0 len cap).cells.toList = some x) : ∃ dl, ArgAt W a0 len cap dl := by
  rcases Go.Deep.open_slice Tryd.underlying22 h with ⟨hcs, _⟩ | ⟨a, len', cap', m, n, D, Pl, hcs, _, hl, hm, hmm, _, hel⟩
  · simp [Value.cells] at hcs
    obtain ⟨rfl, rfl, rfl⟩ := hcs
    exact ⟨[], rfl, Nat.le_refl _, by decide, fun i d hd => by simp at hd⟩
  · simp [Value.cells] at hcs
    obtain ⟨rfl, rfl, rfl⟩ := hcs
    simp only [if_true] at hmm
    have each : ∀ i, i < len → ∃ d : DoRec, ∃ cs', W.cells? 0 (a.add (i * 7)) 7 = some cs' ∧ cs' = d.cells := fun i hi => by
      obtain ⟨cs', h1, h2⟩ := hel i (by omega)
      rw [cellsD] at h1
      obtain ⟨_, hl7, _⟩ := World.cells?_some h1
      obtain ⟨d, hd⟩ := rec_of hl7 h2
      exact ⟨d, cs', h1, hd⟩
    obtain ⟨q, hq⟩ : ∃ q : Nat → DoRec, ∀ i, i < len → ∃ cs', W.cells? 0 (a.add (i * 7)) 7 = some cs' ∧ cs' = (q i).cells :=
      ⟨fun i => if hi : i < len then (each i hi).choose else ⟨0, 0, 0, ⟨#[]⟩, 0, 0, false⟩, fun i hi => by simp only [dif_pos hi]; exact (each i hi).choose_spec⟩
    obtain ⟨bk, off, spot⟩ := a
    refine ⟨(List.range len).map q, by simp, hl, by unfold maxLen at hm; omega, fun i d hd => ?_⟩
    have hi : i < len := by have := getElem?_lt hd; simpa using this
    rw [List.getElem?_map, List.getElem?_range hi] at hd
    simp only [Option.map_some, Option.some.injEq] at hd
    subst hd
    obtain ⟨cs', h1, rfl⟩ := hq i hi
    obtain ⟨_, _, hcell⟩ := World.cells?_some h1
    obtain ⟨cz, hz1, rfl⟩ := hq 0 (by omega)
    obtain ⟨_, _, hz⟩ := World.cells?_some hz1
    have hz0 := hz 0 (by omega)
    have hspot : spot = none := by
      simp [DoRec.cells] at hz0
      have := World.cell?_spot hz0
      simpa [Addr.add] using this
    subst hspot
    have hc : ∀ j, j < 7 → W.cell? ⟨bk, off + i * 7 + j, none⟩ = (q i).cells[j]? := fun j hj => by
      have := hcell j hj
      rwa [add_plain, add_plain] at this
    refine ⟨bk, off, rfl, ?_, fun j x hx => ?_⟩
    · have := hc 0 (by omega)
      exact World.block_lt_of_cell? W ⟨bk, off + i * 7 + 0, none⟩ this
    · rw [hc j (by have := getElem?_lt hx; simpa [DoRec.cells] using this)]
      exact hx

theorem lifted (os : Os) (started : os.Started) (H : Type) (enc : TypeId × Value → H) :
    ReturnsInHanded {} Tryd.checked os 3 .any (fun w args => (Rows.heapPlaysSpec.pre enc Tryd.prog Tryd.f3 [] false w args ∧ laidMetH Tryd.prog Rows.heapPlaysRow.laid w) ∧ sizedMet enc Tryd.prog Tryd.f3 (OpenSpec.ofChange Rows.heapPlaysSpec) false w args)
      (Rows.heapPlaysSpec.post enc Tryd.prog Tryd.f3 false true false false) := by
  refine returnsInHanded_of_change_and (C := Tryd.checked) (X := fun w _ => laidMetH Tryd.prog Rows.heapPlaysRow.laid w) (fun _ _ _ hh h => h.of_heap hh) own started (by kernel_rfl) Tryd.func3
    (ChangeSpec.witness_at (enc := enc) (C := Tryd.checked) (os := os) (X := fun w _ => laidMetH Tryd.prog Rows.heapPlaysRow.laid w) false (laidWorld os) #[.slice none 0 0] 8 rfl (by kernel_rfl) (by kernel_rfl) (by kernel_rfl) (by kernel_rfl) (by kernel_rfl) (laidWorld_met os _)) ?_
  intro W base args ds gs before hval0 hW _ _ hL _
  have hval : ∀ (j : Nat) t v, Tryd.f3.params[j]? = some t → args[j]? = some v → Value.okWide Tryd.prog W .any base t v := hval0
  have hW' := hW
  obtain ⟨p, q, hA0, hV, rfl, hfz, hnd⟩ := hW
  have hA : DataW.TrodAll enc Tryd.prog W 0 (fun _ => true) true Tryd.f3.params.toList args.toList ds p := hA0
  rw [Tryd.params3] at hA hval
  obtain ⟨v0, d0, rfl, rfl, h0⟩ := trodAll_one hA
  obtain ⟨rfl, rfl⟩ := trodVars_none hV
  have h0k := h0
  obtain ⟨fuel, hf⟩ := h0
  clear hA0 hval0
  simp only [List.append_nil] at hW'
  have hlt : ∀ x ∈ p, x.block < W.heap.size := fun x hx => by simpa using hW'.lt x hx
  obtain ⟨a0, len, cap, rfl⟩ := okWide_slice Tryd.underlying22 (hval 0 22 v0 rfl rfl)
  obtain ⟨dl, har⟩ := arg_of hf
  refine (heapplays_any W a0 len cap dl har (handle_of_laid hL)).mono fun e W' ⟨he, bel⟩ => ?_
  subst he
  exact ⟨_, rfl, _, _, _, [], _, [], hW', trodAll_mk1 (shut_bool Tryd.underlying4 _), trodAll_mk1 (Below.trod laidOut (by kernel_rfl) (of_decide_eq_true (by kernel_rfl)) h0k bel hlt), rfl, bel.frame _, fun h => by cases h⟩

theorem over : Rows.HeapPlaysSaid :=
  OpenClaim.holds_of_wide 3 Tryd.f3 rfl rfl rfl rfl rfl rfl rfl ⟨rfl, rfl, rfl, rfl, rfl⟩ rfl rfl rfl rfl rfl (by kernel_rfl) Tryd.func3 (by kernel_rfl)
    (of_decide_eq_true (by kernel_rfl)) (by unfold Func.isWrapper; rw [if_neg (of_decide_eq_false (by kernel_rfl))]; exact ⟨rfl, rfl⟩)
    (fun os started H enc _ => lifted os started H enc)

theorem proved : Rows.HeapPlaysCardSaid :=
  Claim7.holds_tied_plain_at .later [] [.handle] true (true, "c57feb070e08771fd4cc513a5ceaa3323a0242316efc1e7ddcad378317e4d19b") true
    over (fun _ h => by cases h) (by kernel_rfl) (fun _ h => by cases h) heapPlays_row_tie rfl ⟨rfl, rfl⟩ (by kernel_rfl) rfl
    (fun f fn hf hfn => by
      obtain rfl : f = 3 := Option.some.inj ((show Tryd.prog.funcNamed "sloppyscope/sloppylaw.HeapPlays" = some 3 by kernel_rfl).symm.trans hf) |>.symm
      obtain rfl : fn = Tryd.f3 := (Option.some.inj (Tryd.func3.symm.trans hfn)).symm
      exact ⟨by kernel_rfl, fun j t ht => by
        rw [Tryd.params3] at ht
        have h3 : t = 22 := by
          rcases j with _ | j
          · simpa using ht.symm
          · simp at ht
        subst h3
        exact (show Tryd.prog.wantsStandIn 22 = false by kernel_rfl)⟩)
    (by kernel_rfl)
#print axioms proved
end Go.Proofs.YtfanolcjgaccpaaDoor.heapPlays
