/- The law WherePlain, walked. What a listed variable gives a walk: rows of texts. What a listed variable gives a walk: an array of rows of texts, second on the list. -/
import Derived.Test.YtgifgiipojedbaaDoorJ28
import Derived.Test.YtgifgiipojedbaaDoorProg
import Derived.Lib.LaidTab
import Derived.LaidMore
import Derived.Stop.Joined
import Derived.WalkKit
namespace Go.Proofs.YtgifgiipojedbaaDoor
open Go Go.RowKit
set_option maxRecDepth 100000
set_option linter.unusedVariables false

mutual
theorem subs_sub : ∀ (a x y : ATree), x ∈ a.subs → y ∈ x.subs → y ∈ a.subs
  | .mk b v k t n ks, x, y, hx, hy => by
    simp only [ATree.subs, List.mem_cons] at hx ⊢
    rcases hx with rfl | hx
    · simpa only [ATree.subs, List.mem_cons] using hy
    · exact .inr (subs_subL ks x y hx hy)
theorem subs_subL : ∀ (l : List ATree) (x y : ATree), x ∈ subsL l → y ∈ x.subs → y ∈ subsL l
  | [], x, y, hx, hy => by simp [subsL] at hx
  | a :: l, x, y, hx, hy => by
    simp only [subsL, List.mem_append] at hx ⊢
    exact hx.imp (fun h => subs_sub a x y h hy) (fun h => subs_subL l x y h hy)
end
theorem WA.sub {a x : ATree} (h : WA a) (hx : x ∈ a.subs) : WA x := fun y hy => h y (subs_sub a x y hx hy)
set_option maxHeartbeats 8000000 in
theorem wp_not (w : World) (text : ByteArray)
    (HR : Hid (Calls Tryd.prog 39 #[.string text] w fun e w' => (∃ p, e = .returned (.tuple #[p, .bool false])) ∧ Below w.heap.size w w'))
    (HTO : Hid (∀ w1, Below w.heap.size w w1 → Calls Tryd.prog 40 #[] w1 fun e w' => e = .returned (.bool true) ∧ Below w1.heap.size w1 w')) :
    Calls Tryd.prog 4 #[.string text] w fun e w' => e = .returned (.bool true) ∧ Below w.heap.size w w' := by
  go_enter Tryd.func4, Tryd.ntmps4
  go_wp2_with fail
  refine HR.out.mono ?_
  rintro e w1 ⟨⟨p, rfl⟩, hb⟩
  have HB := Lib.hid hb
  clear hb
  go_wp2_with fail
  refine (HTO.out w1 HB.out).mono ?_
  rintro e w2 ⟨rfl, hb⟩
  have HB2 := Lib.hid (HB.out.trans (hb.mono HB.out.size))
  clear hb
  go_wp2_with fail
  refine (HTO.out w2 HB2.out).mono ?_
  rintro e w3 ⟨rfl, hb⟩
  have HB3 := Lib.hid (HB2.out.trans (hb.mono HB2.out.size))
  clear hb
  go_wp2
  go_ret
  exact ⟨rfl, HB3.out⟩

set_option maxHeartbeats 16000000 in
theorem wp_is (w : World) (text : ByteArray)
    (HR : Hid (Calls Tryd.prog 39 #[.string text] w fun e w' => Below w.heap.size w w' ∧ ∃ a, e = .returned (.tuple #[.pointer (some ⟨a.b, 0, none⟩), .bool true]) ∧ TreeAt w' w.heap.size a ∧ WA a ∧ (a.subs.map ATree.b).Nodup ∧ a.many < 274877906944))
    (HTO : Hid (∀ w1, Below w.heap.size w w1 → Calls Tryd.prog 40 #[] w1 fun e w' => e = .returned (.bool true) ∧ Below w1.heap.size w1 w')) :
    Calls Tryd.prog 4 #[.string text] w fun e w' => e = .returned (.bool true) ∧ Below w.heap.size w w' := by
  have hmf : ∀ (fn : Fn) (first cap : Array Value) (w : World), (Instr.makeFunc fn first cap).run Tryd.prog w = .ok (.func fn first cap) w := fun _ _ _ _ => rfl
  go_enter Tryd.func4, Tryd.ntmps4
  go_wp2_with fail
  refine HR.out.mono ?_
  rintro e w1 ⟨hb, a, rfl, hT, hA, hd, hm⟩
  have HB := Lib.hid hb
  have HT := Lib.hid hT
  have HA := Lib.hid hA
  have HD := Lib.hid hd
  have HM := Lib.hid hm
  clear hb hT hA hd hm
  go_wp2_with fail
  refine (HTO.out w1 HB.out).mono ?_
  rintro e w2 ⟨rfl, hb⟩
  have HB2 := Lib.hid (HB.out.trans (hb.mono HB.out.size))
  have HT2 := Lib.hid (HT.out.bel hb)
  have HW := Lib.hid (fun (w3 : World) (h : EInv w2 w2.heap.size false w3) => walk_Wp ⟨w2.heap.size, 0, none⟩ (EInv w2 w2.heap.size) badG w.heap.size a.many a (Nat.le_refl _) (fun s w1 h => HT2.out.keep fun k _ hk => h.bel.block k hk) false
    (fun x s hx w1 h => bad1_any w2 w2.heap.size w.heap.size (Nat.le_refl _) x (subs_tree HT2.out hx.sub) (HA.out.sub hx.sub).call s w1 h) w3 h)
  have hstart : EInv w2 w2.heap.size false (w2.alloc (.cells #[.bool false] 4)) :=
    ⟨(Go.MapKept.heap_alloc w2 _).1, (Below.refl _ _).alloc (Nat.le_refl _) _⟩
  have HS := Lib.hid hstart
  unfold ATree.ptr at HW
  clear hb hstart HT HB
  go_wp2_with fail
  refine (HW.out _ HS.out).mono ?_
  rintro e w3 ⟨rfl, hI⟩
  have HI := Lib.hid hI
  have HT3 := Lib.hid (HT2.out.bel hI.bel)
  have hO := of_any w3 w.heap.size a HT3.out HA.out HD.out HM.out
  have HUP := Lib.hid (ofF_up a HD.out)
  have HSU := Lib.hid (fun h => ofF_sure (a := a) h)
  have hln := ofF_len a
  obtain ⟨bad, hbad⟩ : ∃ b, b = walkA badG a false := ⟨_, rfl⟩
  rw [← hbad] at HI HSU
  obtain ⟨L, hL⟩ : ∃ L, L = ofF a := ⟨_, rfl⟩
  rw [← hL] at hO HUP hln
  simp only [← hL] at HSU
  unfold ATree.ptr at hO
  have HO := Lib.hid hO
  clear hI hO HS HW hbad hL
  go_wp2_with fail
  refine HO.out.mono ?_
  rintro e w4 ⟨v, rfl, hrow, hb4⟩
  have cc : w4.cell? ⟨w2.heap.size, 0, none⟩ = some (.bool bad) := by
    rw [World.cell?_of_block (hb4.block _ (Array.getElem?_eq_some_iff.1 HI.out.cell).1)]
    simp [World.cell?, HI.out.cell]
  have hcl : w2.heap.size < w4.heap.size := Nat.lt_of_lt_of_le (Array.getElem?_eq_some_iff.1 HI.out.cell).1 hb4.size
  have HB4 := Lib.hid (HB2.out.trans ((HI.out.bel.trans (hb4.mono HI.out.bel.size)).mono HB2.out.size))
  have HROW := Lib.hid hrow
  obtain ⟨p, cp, rfl, hge, hmx⟩ : ∃ p cp, v = .slice p L.length cp ∧ L.length ≤ cp ∧ cp ≤ maxLen := by
    rcases ownsRow_cases hrow with ⟨h1, h2⟩ | ⟨g, cap, h1, h2, h3, _⟩
    · exact ⟨none, 0, by rw [h1, h2], by rw [h2]; exact Nat.le_refl _, by unfold maxLen; omega⟩
    · exact ⟨_, _, h1, h2, h3⟩
  obtain ⟨n, hn⟩ : ∃ n, n = L.length := ⟨_, rfl⟩
  rw [← hn] at hge HROW ⊢
  have HN := Lib.hid hn
  unfold maxLen at hmx
  clear hrow hb4 HO hn hln
  go_wp2_with fail
  go_loopw [6] (fun i wr => ∃ k : Nat, k ≤ n ∧ i = .int .i64 k ∧ Hid (Below w4.heap.size w4 wr)) (fun i _ => n - (intOf i).toNat)
  case atStart => exact ⟨0, Nat.zero_le _, rfl, Lib.hid (Below.refl _ _)⟩
  case round =>
    obtain ⟨k, hk, rfl, HBR⟩ := hrel
    by_cases hkn : k < n
    · obtain ⟨u, hu⟩ : ∃ u, L[k]? = some u := ⟨_, List.getElem?_eq_getElem (by rw [← HN.out]; exact hkn)⟩
      obtain ⟨g, hp⟩ : ∃ g, p = some ⟨g, 0, none⟩ := by
        rcases ownsRow_cases HROW.out with ⟨_, h2⟩ | ⟨g, cap, h1, _⟩
        · omega
        · simp only [Value.slice.injEq] at h1; exact ⟨g, h1.1⟩
      subst hp
      have hgl := (World.ownsRow.lt HROW.out g rfl).2
      have hcell : ∀ (i j : Nat) (u : Us) (x : Value), L[i]? = some u → u.cells[j]? = some x → wr.cell? ⟨g, i * 3 + j, none⟩ = some x := fun i j u x h1 h2 =>
        (World.cell?_of_block (HBR.out.block g hgl)).trans (us_cell (by rw [← HN.out]; exact HROW.out) rfl h1 h2)
      have cr : wr.cell? ⟨w2.heap.size, 0, none⟩ = some (.bool bad) := (World.cell?_of_block (HBR.out.block _ hcl)).trans cc
      have hsb : u.r.2 = true ∨ (u.r.2 = false ∧ bad = true) := by
        cases hu2 : u.r.2 with
        | true => exact .inl rfl
        | false =>
          cases bad with
          | true => exact .inr ⟨rfl, rfl⟩
          | false =>
            have := HSU.out rfl u (List.mem_of_getElem? hu)
            rw [hu2] at this
            cases this
      have x2 := hcell k 2 u _ hu rfl
      have x0 := hcell k 0 u _ hu rfl
      cases k with
      | zero =>
        simp only [Nat.zero_mul, Nat.zero_add] at x0 x2
        have HX := Lib.hid hcell
        clear hcell hu cc HX x0
        rcases hsb with h1 | ⟨h1, rfl⟩
        · rw [h1] at x2
          clear h1
          go_wp2_with fail
          refine wp_region_plan [(true, 0), (true, 1), (true, 2), (true, 3), (true, 4), (true, 5), (true, 6), (true, 7), (true, 8), (true, 9), (true, 10), (true, 11), (true, 12), (true, 13), (true, 14), (true, 15), (true, 16), (true, 17), (true, 18), (true, 19), (true, 20), (true, 21), (true, 22), (true, 23), (true, 24)] [25, 26, 27] (fun W => W.cell? ⟨g, 2, none⟩ = some (.bool true)) (by kernel_rfl) (by kernel_rfl) (fun _ _ d _ _ h => by cases d <;> exact h) x2 (fun hS0 => ?_)
          simp only [planOps, List.filterMap_cons, List.filterMap_nil, List.getElem?_toArray, List.getElem?_cons_zero, List.getElem?_cons_succ, Option.map_some]
          iterate 25
            first
              | (refine wpPlan_take ?_ (by rfl) (fun w' hS' => ?_) ?_; rotate_left; (have s0 := hS'; go_simp; first | done | with_reducible rfl); simp only [Act.put, List.setIfInBounds_toArray, List.set_cons_zero, List.set_cons_succ])
              | (refine wpPlan_skip (by rfl) ?_; simp only [Act.put, List.setIfInBounds_toArray, List.set_cons_zero, List.set_cons_succ])
          refine wpPlan_end ?_
          go_wp2
          go_roundw
          case rel => exact ⟨1, by omega, rfl, Lib.hid HBR.out.drew⟩
          case measure => simp [intOf]; omega
        · rw [h1] at x2
          clear h1
          go_wp2_with fail
          refine wp_region_plan [(true, 0), (true, 1), (true, 2), (true, 3), (true, 4), (true, 5), (true, 6), (true, 7), (true, 8), (true, 9), (true, 10), (true, 11), (true, 12), (true, 13), (true, 14), (true, 15), (true, 16), (true, 17), (true, 18), (true, 19), (true, 20), (true, 21), (true, 22), (true, 23), (true, 24)] [25, 26, 27] (fun W => W.cell? ⟨g, 2, none⟩ = some (.bool false) ∧ W.cell? ⟨w2.heap.size, 0, none⟩ = some (.bool true)) (by kernel_rfl) (by kernel_rfl) (fun _ _ d _ _ h => by cases d <;> exact h) ⟨x2, cr⟩ (fun hS0 => ?_)
          simp only [planOps, List.filterMap_cons, List.filterMap_nil, List.getElem?_toArray, List.getElem?_cons_zero, List.getElem?_cons_succ, Option.map_some]
          iterate 25
            first
              | (refine wpPlan_take ?_ (by rfl) (fun w' hS' => ?_) ?_; rotate_left; (obtain ⟨s0, s1⟩ := hS'; go_simp; first | done | with_reducible rfl); simp only [Act.put, List.setIfInBounds_toArray, List.set_cons_zero, List.set_cons_succ])
              | (refine wpPlan_skip (by rfl) ?_; simp only [Act.put, List.setIfInBounds_toArray, List.set_cons_zero, List.set_cons_succ])
          refine wpPlan_end ?_
          go_wp2
          go_roundw
          case rel => exact ⟨1, by omega, rfl, Lib.hid HBR.out.drew⟩
          case measure => simp [intOf]; omega
      | succ j =>
        obtain ⟨u', hu'⟩ : ∃ u', L[j]? = some u' := ⟨_, List.getElem?_eq_getElem (by rw [← HN.out]; omega)⟩
        have y0 := hcell j 0 u' _ hu' rfl
        have hup : u'.at' < u.at' := by
          obtain ⟨h1, e1⟩ := List.getElem?_eq_some_iff.1 hu'
          obtain ⟨h2, e2⟩ := List.getElem?_eq_some_iff.1 hu
          have := List.pairwise_iff_getElem.1 HUP.out j (j + 1) (by simpa using h1) (by simpa using h2) (by omega)
          simpa [e1, e2] using this
        obtain ⟨z, hz⟩ : ∃ z, z = u.at' := ⟨_, rfl⟩
        obtain ⟨y, hy⟩ : ∃ y, y = u'.at' := ⟨_, rfl⟩
        rw [← hz] at x0 hup
        rw [← hy] at y0 hup
        have nd : decide (z ≤ y) = false := by simp; omega
        have wr1 : IntKind.i64.wrap ((j : Int) + 1 - 1) = (j : Int) := by rw [show (j : Int) + 1 - 1 = j by omega]; exact IntWalk.i64_in _ (by omega)
        have wr2 : ((j : Int) + 1).toNat = j + 1 := by omega
        have wr3 : (j : Int) + 1 < (n : Int) := by omega
        have wr4 : 0 ≤ (j : Int) + 1 := by omega
        have wr5 : (j : Int) < (n : Int) := by omega
        have wr6 : (0 : Int) < (j : Int) + 1 := by omega
        have wr7 : IntKind.i64.wrap (j : Int) = (j : Int) := IntWalk.i64_in _ (by omega)
        have x0' : wr.cell? ⟨g, (j + 1) * 3, none⟩ = some (.int .i64 z) := x0
        have y0' : wr.cell? ⟨g, j * 3, none⟩ = some (.int .i64 y) := y0
        have HX := Lib.hid hcell
        clear hcell hu hu' cc HX hz hy x0 y0 hup
        rcases hsb with h1 | ⟨h1, rfl⟩
        · rw [h1] at x2
          clear h1
          go_wp2_with fail
          refine wp_region_plan [(true, 0), (true, 1), (true, 2), (true, 3), (true, 4), (true, 5), (true, 6), (true, 7), (true, 8), (true, 9), (true, 10), (true, 11), (true, 12), (true, 13), (true, 14), (true, 15), (true, 16), (true, 17), (true, 18), (true, 19), (true, 20), (true, 21), (true, 22), (true, 23), (true, 24)] [25, 26, 27] (fun W => W.cell? ⟨g, (j + 1) * 3 + 2, none⟩ = some (.bool true) ∧ W.cell? ⟨g, (j + 1) * 3, none⟩ = some (.int .i64 z) ∧ W.cell? ⟨g, j * 3, none⟩ = some (.int .i64 y)) (by kernel_rfl) (by kernel_rfl) (fun _ _ d _ _ h => by cases d <;> exact h) ⟨x2, x0', y0'⟩ (fun hS0 => ?_)
          simp only [planOps, List.filterMap_cons, List.filterMap_nil, List.getElem?_toArray, List.getElem?_cons_zero, List.getElem?_cons_succ, Option.map_some]
          iterate 25
            first
              | (refine wpPlan_take ?_ (by rfl) (fun w' hS' => ?_) ?_; rotate_left; (obtain ⟨s0, s1, s2⟩ := hS'; go_simp; first | done | with_reducible rfl); simp only [Act.put, List.setIfInBounds_toArray, List.set_cons_zero, List.set_cons_succ])
              | (refine wpPlan_skip (by rfl) ?_; simp only [Act.put, List.setIfInBounds_toArray, List.set_cons_zero, List.set_cons_succ])
          refine wpPlan_end ?_
          go_wp2
          go_roundw
          case rel => exact ⟨j + 2, by omega, by go_num, Lib.hid HBR.out.drew⟩
          case measure => simp [intOf]; omega
        · rw [h1] at x2
          clear h1
          go_wp2_with fail
          refine wp_region_plan [(true, 0), (true, 1), (true, 2), (true, 3), (true, 4), (true, 5), (true, 6), (true, 7), (true, 8), (true, 9), (true, 10), (true, 11), (true, 12), (true, 13), (true, 14), (true, 15), (true, 16), (true, 17), (true, 18), (true, 19), (true, 20), (true, 21), (true, 22), (true, 23), (true, 24)] [25, 26, 27] (fun W => W.cell? ⟨g, (j + 1) * 3 + 2, none⟩ = some (.bool false) ∧ W.cell? ⟨w2.heap.size, 0, none⟩ = some (.bool true) ∧ W.cell? ⟨g, (j + 1) * 3, none⟩ = some (.int .i64 z) ∧ W.cell? ⟨g, j * 3, none⟩ = some (.int .i64 y)) (by kernel_rfl) (by kernel_rfl) (fun _ _ d _ _ h => by cases d <;> exact h) ⟨x2, cr, x0', y0'⟩ (fun hS0 => ?_)
          simp only [planOps, List.filterMap_cons, List.filterMap_nil, List.getElem?_toArray, List.getElem?_cons_zero, List.getElem?_cons_succ, Option.map_some]
          iterate 25
            first
              | (refine wpPlan_take ?_ (by rfl) (fun w' hS' => ?_) ?_; rotate_left; (obtain ⟨s0, s1, s2, s3⟩ := hS'; go_simp; first | done | with_reducible rfl); simp only [Act.put, List.setIfInBounds_toArray, List.set_cons_zero, List.set_cons_succ])
              | (refine wpPlan_skip (by rfl) ?_; simp only [Act.put, List.setIfInBounds_toArray, List.set_cons_zero, List.set_cons_succ])
          refine wpPlan_end ?_
          go_wp2
          go_roundw
          case rel => exact ⟨j + 2, by omega, by go_num, Lib.hid HBR.out.drew⟩
          case measure => simp [intOf]; omega
    · have hk2 : k = n := by omega
      subst hk2
      go_wp2
      go_ret
      exact ⟨rfl, HB4.out.trans (HBR.out.mono HB4.out.size)⟩

theorem whereplain_any (w : World) (text : ByteArray) (hW : Words w) (hL : Levels w w.heap.size) :
    Calls Tryd.prog 4 #[.string text] w fun e w' => e = .returned (.bool true) ∧ Below w.heap.size w w' := by
  have hR := lawread_any w text hW hL
  have HTO := Lib.hid (fun w1 (h : Below w.heap.size w w1) => told_any w1 (hW.below h) (hL.up h))
  cases hr : parseAll text with
  | error x =>
    rw [hr] at hR
    exact wp_not w text (Lib.hid (hR.mono fun e w' ⟨h1, h2⟩ => ⟨⟨_, h2⟩, h1⟩)) HTO
  | ok t =>
    rw [hr] at hR
    obtain ⟨h1, h2⟩ := parseAll_ok hr
    by_cases hk : (t.kind == 1) = true
    · refine wp_is w text (Lib.hid (hR.mono ?_)) HTO
      rintro e w' ⟨hb, a, rfl, hg⟩
      rw [hk]
      exact ⟨hb, a, rfl, hg.at', wa_of a (by rw [hg.tree]; exact h1), hg.apart, by have := congrArg Tree.many hg.tree; rw [many_tree] at this; omega⟩
    · refine wp_not w text (Lib.hid (hR.mono ?_)) HTO
      rintro e w' ⟨hb, a, rfl, hg⟩
      rw [Bool.eq_false_iff.2 hk]
      exact ⟨⟨_, rfl⟩, hb⟩
end Go.Proofs.YtgifgiipojedbaaDoor

namespace Go.Proofs.YtgifgiipojedbaaDoor
open Go Go.RowKit
set_option maxRecDepth 100000

/-- an array of texts that reads as these texts holds them, cell for cell -/
theorem cells_of_texts {H : Type} {enc : TypeId × Value → H} {P : Program} {w : World} {base : Nat} {sp : Nat → Bool} {held : Bool} {fuel : Nat} {t e : TypeId} {n : Nat} {cs : List Value} {l : List (List UInt8)} {p : List MemPlace}
    (ht : P.underlying t = some (.array n e)) (he : P.underlying e = some .string) (hce : P.cellsOf e = 1) (hct : P.cellsOf t = n)
    (h : DataW.trod enc P w base sp held fuel t cs = some (.agg (l.map fun b => .lit (.string b)), p)) : cs = l.map fun b => Value.string ⟨b.toArray⟩ := by
  cases fuel with
  | zero => simp [DataW.trod] at h
  | succ fuel =>
    simp only [DataW.trod, ht, hce, hct, Nat.mul_one] at h
    split at h
    · rename_i hl
      obtain ⟨xs, hm, hx⟩ := Option.map_eq_some_iff.1 h
      have hxs : xs.map (·.1) = l.map fun b => (DataW.lit (.string b) : DataW H) := by
        have := congrArg Prod.fst hx
        simpa using this
      have hxl : xs.length = n := by simpa using Lib.mapM_length hm
      have hzl : l.length = n := by
        have := congrArg List.length hxs
        simp at this
        omega
      apply List.ext_getElem?
      intro i
      by_cases hi : i < n
      · obtain ⟨b, hb, hf⟩ := Lib.mapM_at hm i i (by simp [hi])
        obtain ⟨s, hc, rfl, _⟩ := DataW.trod_string he hf
        have h1 : cs[i]? = some (.string s) := by
          have := congrArg (·[0]?) hc
          simpa [List.getElem?_take, List.getElem?_drop] using this
        have h2 : (xs.map (·.1))[i]? = some (DataW.lit (.string s.data.toList) : DataW H) := by simp [hb]
        rw [hxs] at h2
        simp only [List.getElem?_map, Option.map_eq_some_iff, DataW.lit.injEq, Lit.string.injEq] at h2
        obtain ⟨z', hz', hzz⟩ := h2
        simp only [h1, List.getElem?_map, hz', Option.map_some, hzz]
      · rw [List.getElem?_eq_none (by omega), List.getElem?_eq_none (by simp; omega)]
    · cases h
theorem text_of {H : Type} {enc : TypeId × Value → H} {P : Program} {w : World} {base : Nat} {sp : Nat → Bool} {held : Bool} {fuel : Nat} {e : TypeId} {v : Value} {b : List UInt8} {q : List MemPlace} (he : P.underlying e = some .string)
    (h : DataW.trod enc P w base sp held fuel e [v] = some (.lit (.string b), q)) : v = .string ⟨b.toArray⟩ := by
  obtain ⟨s, hc, hx, _⟩ := DataW.trod_string he h
  simp only [List.cons.injEq, and_true] at hc
  simp only [Prod.mk.injEq, DataW.lit.injEq, Lit.string.injEq] at hx
  rw [hc, hx.1]
/-- an array of texts that stands first on the list -/
theorem texts_of_head {P : Program} {W : World} {name : String} {d : DataW Unit} {rest : List (String × DataW Unit)} {g : Nat} {t e : TypeId} {n : Nat} {l : List (List UInt8)}
    (hg : P.globalNamed name = some g) (hty : (P.globals[g]?).map (·.type) = some t) (ht : P.underlying t = some (.array n e)) (he : P.underlying e = some .string) (hce : P.cellsOf e = 1) (hct : P.cellsOf t = n)
    (hd : d = .agg (l.map fun b => .lit (.string b))) (h : laidMet P ((name, d) :: rest) W) (i : Nat) (b : List UInt8) (hi : l[i]? = some b) : W.cell? ⟨g, i, none⟩ = some (.string ⟨b.toArray⟩) := by
  obtain ⟨ps, ⟨g', t', cs, fuel, p, q, hg', ht', hvar, hd', _, _⟩, _⟩ := h
  obtain rfl := Option.some.inj (hg.symm.trans hg')
  obtain rfl := Option.some.inj (hty.symm.trans ht')
  rw [hd] at hd'
  have hc := cells_of_texts ht he hce hct hd'
  have := World.var?_cell hg hvar i
  rw [this]
  have hx : cs = (l.map fun b => Value.string ⟨b.toArray⟩).toArray := by rw [← hc]
  rw [hx]
  simp [hi]
/-- a slice of texts that stands first on the list -/
theorem row_of_head {P : Program} {W : World} {name : String} {d : DataW Unit} {rest : List (String × DataW Unit)} {g : Nat} {t e : TypeId} {l : List (List UInt8)}
    (hg : P.globalNamed name = some g) (hty : (P.globals[g]?).map (·.type) = some t) (ht : P.underlying t = some (.slice e)) (he : P.underlying e = some .string) (hce : P.cellsOf e = 1)
    (hd : d = .slice (l.map fun b => .lit (.string b)) []) (hl : 0 < l.length) (h : laidMet P ((name, d) :: rest) W) :
    ∃ b off cap, W.cell? ⟨g, 0, none⟩ = some (.slice (some ⟨b, off, none⟩) l.length cap) ∧ l.length ≤ cap ∧ ∀ i x, l[i]? = some x → W.cell? ⟨b, off + i, none⟩ = some (.string ⟨x.toArray⟩) := by
  obtain ⟨ps, ⟨g', t', cs, fuel, p, q, hg', ht', hvar, hd', _, _⟩, _⟩ := h
  obtain rfl := Option.some.inj (hg.symm.trans hg')
  obtain rfl := Option.some.inj (hty.symm.trans ht')
  rw [hd] at hd'
  obtain ⟨a, cap, hcs, hcap, hel⟩ := open_row ht hce hd'
  rw [List.length_map] at hcs hcap
  obtain ⟨b, off, spot⟩ := a
  have hspot : spot = none := by
    obtain ⟨x, hx⟩ : ∃ x, l[0]? = some x := ⟨l[0], List.getElem?_eq_getElem hl⟩
    obtain ⟨v, n, q, hc, _⟩ := hel 0 _ (by rw [List.getElem?_map, hx]; rfl)
    simpa [Addr.add] using World.cell?_spot hc
  subst hspot
  refine ⟨b, off, cap, ?_, hcap, fun i x hx => ?_⟩
  · have := World.var?_cell hg hvar 0
    rw [Array.eq_one_of_toList hcs] at this
    simpa using this
  · obtain ⟨v, n, q, hc, hr⟩ := hel i _ (by rw [List.getElem?_map, hx]; rfl)
    rw [text_of he hr] at hc
    rwa [show ((⟨b, off, none⟩ : Addr).add i) = ⟨b, off + i, none⟩ by unfold Addr.add; split <;> simp_all] at hc
end Go.Proofs.YtgifgiipojedbaaDoor

namespace Go.Proofs.YtgifgiipojedbaaDoor
open Go Go.RowKit
set_option maxRecDepth 100000

theorem rows_at {H : Type} {enc : TypeId × Value → H} {P : Program} {w : World} {base : Nat} {sp : Nat → Bool} {held : Bool} {fuel : Nat} {t e : TypeId} {n : Nat} {cs : List Value} {l : List (DataW H)} {p : List MemPlace}
    (ht : P.underlying t = some (.array n e)) (hce : P.cellsOf e = 1) (hct : P.cellsOf t = n)
    (h : DataW.trod enc P w base sp held fuel t cs = some (.agg l, p)) (i : Nat) (r : DataW H) (hi : l[i]? = some r) :
    ∃ fuel' q, DataW.trod enc P w base sp held fuel' e ((cs.drop i).take 1) = some (r, q) := by
  cases fuel with
  | zero => simp [DataW.trod] at h
  | succ fuel =>
    simp only [DataW.trod, ht, hce, hct, Nat.mul_one] at h
    split at h
    · rename_i hl
      obtain ⟨xs, hm, hx⟩ := Option.map_eq_some_iff.1 h
      have hxs : xs.map (·.1) = l := by
        have := congrArg Prod.fst hx
        simpa using this
      have hxl : xs.length = n := by simpa using Lib.mapM_length hm
      have hin : i < n := by
        have h1 := (List.getElem?_eq_some_iff.1 hi).1
        rw [← hxs, List.length_map] at h1
        omega
      obtain ⟨b, hb, hf⟩ := Lib.mapM_at hm i i (by simp [hin])
      have h2 : (xs.map (·.1))[i]? = some b.1 := by simp [hb]
      rw [hxs, hi] at h2
      exact ⟨fuel, b.2, by rw [Option.some.inj h2]; exact hf⟩
    · cases h
theorem rows_of_second {P : Program} {W : World} {n1 name : String} {d1 d : DataW Unit} {rest : List (String × DataW Unit)} {g : Nat} {t e f : TypeId} {n : Nat} {l : List (List (List UInt8))}
    (hg : P.globalNamed name = some g) (hty : (P.globals[g]?).map (·.type) = some t) (ht : P.underlying t = some (.array n e)) (he : P.underlying e = some (.slice f)) (hf : P.underlying f = some .string)
    (hce : P.cellsOf e = 1) (hcf : P.cellsOf f = 1) (hct : P.cellsOf t = n)
    (hd : d = .agg (l.map fun r => .slice (r.map fun b => .lit (.string b)) [])) (h : laidMet P ((n1, d1) :: (name, d) :: rest) W) (i : Nat) (r : List (List UInt8)) (hi : l[i]? = some r) (hr : 0 < r.length) :
    ∃ b off cap, W.cell? ⟨g, i, none⟩ = some (.slice (some ⟨b, off, none⟩) r.length cap) ∧ r.length ≤ cap ∧ ∀ j x, r[j]? = some x → W.cell? ⟨b, off + j, none⟩ = some (.string ⟨x.toArray⟩) := by
  obtain ⟨ps, ⟨_, _, _, _, _, _, _, _, _, _, h2, _⟩, _⟩ := h
  obtain ⟨g', t', cs, fuel, p, q, hg', ht', hvar, hd', _, _⟩ := h2
  obtain rfl := Option.some.inj (hg.symm.trans hg')
  obtain rfl := Option.some.inj (hty.symm.trans ht')
  rw [hd] at hd'
  obtain ⟨fuel', q', hrow⟩ := rows_at ht hce hct hd' i (.slice (r.map fun b => .lit (.string b)) []) (by rw [List.getElem?_map, hi]; rfl)
  obtain ⟨a, cap, hcs, hcap, hel⟩ := open_row he hcf hrow
  rw [List.length_map] at hcs hcap
  have hcell : W.cell? ⟨g, i, none⟩ = some (.slice (some a) r.length cap) := by
    rw [World.var?_cell hg hvar i]
    have := congrArg (·[0]?) hcs
    simpa [List.getElem?_take, List.getElem?_drop] using this
  obtain ⟨b, off, spot⟩ := a
  have hspot : spot = none := by
    obtain ⟨x, hx⟩ : ∃ x, r[0]? = some x := ⟨r[0], List.getElem?_eq_getElem hr⟩
    obtain ⟨v, n, q, hc, _⟩ := hel 0 _ (by rw [List.getElem?_map, hx]; rfl)
    simpa [Addr.add] using World.cell?_spot hc
  subst hspot
  refine ⟨b, off, cap, hcell, hcap, fun j x hx => ?_⟩
  obtain ⟨v, n, q, hc, hr⟩ := hel j _ (by rw [List.getElem?_map, hx]; rfl)
  rw [text_of hf hr] at hc
  rwa [show ((⟨b, off, none⟩ : Addr).add j) = ⟨b, off + j, none⟩ by unfold Addr.add; split <;> simp_all] at hc
end Go.Proofs.YtgifgiipojedbaaDoor
