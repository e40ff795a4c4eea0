/- The law LexCovers, walked. -/
import Derived.Test.YtabfboflapckbaaDoorLexD
namespace Go.Proofs.YtabfboflapckbaaDoor
open Go Go.RowKit
set_option maxRecDepth 100000

theorem trimEnd_le (text : ByteArray) (a : Nat) : ∀ b, trimEnd text a b ≤ b := by
  intro b
  induction b with
  | zero => simp [trimEnd]
  | succ b ih => unfold trimEnd; split <;> omega
theorem trim_go {text : ByteArray} {a m K : Nat} (h : trimEnd text a (m + 1) = K) (hK : K ≤ m) : blankB (byteAt text m) = true ∧ trimEnd text a m = K := by
  unfold trimEnd at h
  by_cases hc : a < m + 1 ∧ blankB (byteAt text m) = true
  · rw [if_pos hc] at h; exact ⟨hc.2, h⟩
  · rw [if_neg hc] at h; omega
theorem trim_stop {text : ByteArray} {a m : Nat} (h : trimEnd text a (m + 1) = m + 1) (ha : a < m + 1) : blankB (byteAt text m) = false := by
  unfold trimEnd at h
  by_cases hc : a < m + 1 ∧ blankB (byteAt text m) = true
  · rw [if_pos hc] at h
    have := trimEnd_le text a m
    omega
  · simpa [ha] using hc
theorem stand_len {text : ByteArray} : ∀ (r : List Tok) (i : Nat), i ≤ text.size → Stand text i r → r.length + i ≤ text.size + 1 := by
  intro r
  induction r with
  | nil => intro i _ h; exact h.elim
  | cons t r ih =>
    intro i hi h
    cases r with
    | nil => simp; omega
    | cons u r =>
      obtain ⟨k, h1, h2, h3⟩ := h
      obtain ⟨c1, c2, _⟩ := tokAt_cut text h1 h2
      have s1 := (spanEnd_spec blankB text (text.size - i) i (Nat.le_refl _) hi).1
      have := ih k c2 h3
      simp only [List.length_cons] at this ⊢
      omega
theorem Below.on {w w1 w2 : World} {B : Nat} (h : Below B w w1) (hB : B ≤ w1.heap.size) (h2 : Below w1.heap.size w1 w2) : Below B w w2 := h.trans (h2.mono hB)

set_option maxHeartbeats 20000000 in
theorem covers_fail (w : World) (text : ByteArray) (hW : Words w)
    (HC : Hid (Calls Tryd.prog 8 #[.string text] w fun e w' => (∃ T p, e = .returned (.tuple #[.slice none 0 0, .iface T p])) ∧ Below w.heap.size w w')) :
    Calls Tryd.prog 3 #[.string text] w fun e w' => e = .returned (.bool true) ∧ Below w.heap.size w w' := by
  have HW := Lib.hid hW
  clear hW
  go_enter Tryd.func3, Tryd.ntmps3
  go_wp2_with fail
  refine HC.out.mono ?_
  rintro e w1 ⟨⟨T, p, rfl⟩, hB⟩
  have HB := Lib.hid hB
  have HL := Lib.hid (lexed_any w1 (HW.out.below hB))
  clear hB HC
  go_wp2_with fail
  refine HL.out.mono ?_
  rintro e w2 ⟨rfl, hB⟩
  have HB2 := Lib.hid (Below.on HB.out HB.out.size hB)
  have HL2 := Lib.hid (lexed_any w2 (HW.out.below HB2.out))
  clear hB HL HB
  go_wp2_with fail
  refine HL2.out.mono ?_
  rintro e w3 ⟨rfl, hB⟩
  have HB3 := Lib.hid (Below.on HB2.out HB2.out.size hB)
  clear hB HL2 HB2
  go_wp2
  go_ret
  exact ⟨rfl, HB3.out⟩

set_option maxHeartbeats 20000000 in
theorem covers_walk (w : World) (text : ByteArray) (hW : Words w) :
    Calls Tryd.prog 3 #[.string text] w fun e w' => e = .returned (.bool true) ∧ Below w.heap.size w w' := by
  by_cases hbig : 3000 < text.size
  · exact covers_fail w text hW (Lib.hid ((tokens_big w text hbig).mono fun e w' h => ⟨⟨_, _, h.1⟩, by rw [← h.2]; exact Below.refl _ _⟩))
  have hm : text.size ≤ 3000 := by omega
  have HC := tokens_any w text hm hW
  rcases hR : lexAll text with ⟨c, p⟩ | l
  · rw [hR] at HC
    exact covers_fail w text hW (Lib.hid (HC.mono fun e w' ⟨⟨x, h, b, hx, _⟩, hB⟩ => by subst hx; exact ⟨⟨_, _, h⟩, hB⟩))
  rw [hR] at HC
  have hS := lexAll_ok hR
  obtain ⟨hlp, hlast⟩ := stand_last l 0 (Nat.zero_le _) hS
  obtain ⟨n, hn⟩ : ∃ n, l.length = n + 1 := ⟨l.length - 1, by omega⟩
  have HN := Lib.hid hn
  have HLs := Lib.hid hlast
  have HS := Lib.hid hS
  have HC := Lib.hid HC
  have HW := Lib.hid hW
  have hnb : n < 4000 := by have := stand_len l 0 (Nat.zero_le _) hS; omega
  clear hlast hS hW hR hn hlp
  go_enter Tryd.func3, Tryd.ntmps3
  go_wp2_with fail
  refine HC.out.mono ?_
  rintro e w1 ⟨⟨v, rfl, hO⟩, hB⟩
  rcases ownsRow_cases hO with ⟨_, h0⟩ | ⟨g, cap, rfl, h1, h2, h3⟩
  · have := HN.out; omega
  have HL := Lib.hid (lexed_any w1 (HW.out.below hB))
  have HB := Lib.hid hB
  have HO := Lib.hid hO
  rw [HN.out] at h1 ⊢
  unfold maxLen at h2
  clear hB hO HC
  go_wp2_with fail
  refine HL.out.mono ?_
  rintro e w2 ⟨rfl, hB⟩
  have hO2 : w2.ownsRow w.heap.size 29 4 (.slice (some ⟨g, 0, none⟩) l.length cap) l.length (l.flatMap Tok.cells) := by
    rw [HN.out]; have := HO.out; rw [HN.out] at this; exact ownsRow_block this fun k hk => hB.block k (by simp only [Value.ownBlock, Option.some.injEq] at hk; omega)
  have HB2 := Lib.hid (Below.on HB.out HB.out.size hB)
  have hlast := HLs.out
  rw [HN.out] at hlast
  have cl0 := tok_cell hO2 (g := g) rfl (i := n) (j := 0) hlast rfl
  have cl3 := tok_cell hO2 (g := g) rfl (i := n) (j := 3) hlast rfl
  rw [Nat.add_zero] at cl0
  have hg2 : g < w2.heap.size := Nat.lt_of_lt_of_le h3 hB.size
  have O2 := Lib.hid hO2
  have hln : decide (((n + 1 : Nat) : Int) = 0) = false := by simp; omega
  clear hO2 hB HL HB hlast HO h3
  go_wp2
  have HR0 := Lib.hid (Below.refl w2.heap.size w2)
  clear cl0 cl3 hln
  go_loopw [5] (fun x wr => ∃ i : Nat, x = .int .i64 i ∧ i ≤ n ∧ Below w2.heap.size w2 wr) (fun x _ => n + 1 - (intOf x).toNat)
  case atStart => exact ⟨0, rfl, Nat.zero_le _, HR0.out⟩
  case round =>
    obtain ⟨i, rfl, hi, hBr⟩ := hrel
    have BR := Lib.hid hBr
    clear HR0
    by_cases hin : i < n
    · obtain ⟨t, ht⟩ : ∃ t, l[i]? = some t := ⟨_, List.getElem?_eq_getElem (by have := HN.out; omega)⟩
      obtain ⟨u, hu⟩ : ∃ u, l[i + 1]? = some u := ⟨_, List.getElem?_eq_getElem (by have := HN.out; omega)⟩
      obtain ⟨p1, p2, p3, p4, p5, p6⟩ := stand_pair l 0 i t u (Nat.zero_le _) HS.out ht hu
      have hcell : ∀ (k j : Nat) (t : Tok) (x : Value), l[k]? = some t → t.cells[j]? = some x → wr.cell? ⟨g, k * 4 + j, none⟩ = some x := fun k j t x h1 h2 => (hBr.cell (p := ⟨g, k * 4 + j, none⟩) hg2).trans (tok_cell O2.out (g := g) rfl h1 h2)
      obtain ⟨kd, tx, tn, a⟩ := t
      obtain ⟨_, _, _, b⟩ := u
      simp only at p1 p2 p3 p4 p5 p6
      have d0 := hcell i 0 _ _ ht rfl
      have d1 := hcell i 1 _ _ ht rfl
      have d2 := hcell i 2 _ _ ht rfl
      have d3 := hcell i 3 _ _ ht rfl
      have e3 := hcell (i + 1) 3 _ _ hu rfl
      simp only [Nat.add_zero] at d0 d1 d2 d3 e3
      obtain ⟨K, hK⟩ : ∃ K, trimEnd text a b = K := ⟨_, rfl⟩
      rw [hK] at p4 p5 p6
      have HK := Lib.hid hK
      have P6 := Lib.hid p6
      have n6 : (kd == 6) = false := by simpa using p3
      have nd : decide (b ≤ a) = false := by simp; omega
      have HG := Lib.hid hcell
      clear hBr ht hu p3 p6 hK hcell
      have wr1 : IntKind.i64.wrap ((i : Int) + 1) = (i : Int) + 1 := IntWalk.i64_in _ (by omega)
      have wr2 : ((i : Int) + 1).toNat = i + 1 := by omega
      have wr3 : (i : Int) + 1 < (n : Int) + 1 := by omega
      have wr4 : 0 ≤ (i : Int) + 1 := by omega
      have wr5 : (i : Int) < (n : Int) + 1 := by omega
      go_wp2_with fail
      refine wp_region_plan [(true, 0), (true, 1), (true, 2), (true, 3), (true, 4), (true, 5), (true, 6), (true, 7), (true, 8), (true, 9), (true, 10), (true, 11)] [12] (fun W => W.cell? ⟨g, i * 4 + 3, none⟩ = some (.int .i64 a) ∧ W.cell? ⟨g, (i + 1) * 4 + 3, none⟩ = some (.int .i64 b)) (by kernel_rfl) (by kernel_rfl) (fun _ _ d _ _ h => by cases d <;> exact h) ⟨d3, e3⟩ (fun hS0 => ?_)
      simp only [planOps, List.filterMap_cons, List.filterMap_nil, List.getElem?_toArray, List.getElem?_cons_zero, List.getElem?_cons_succ, Option.map_some]
      iterate 12
        first
          | (refine wpPlan_take ?_ (by rfl) (fun w' hS' => ?_) ?_; rotate_left; (obtain ⟨s0, s1⟩ := hS'; go_simp; first | done | with_reducible rfl); simp only [Act.put, List.setIfInBounds_toArray, List.set_cons_zero, List.set_cons_succ])
          | (refine wpPlan_skip (by rfl) ?_; simp only [Act.put, List.setIfInBounds_toArray, List.set_cons_zero, List.set_cons_succ])
      refine wpPlan_end ?_
      clear wr1 wr2 wr3 wr4 wr5
      go_wp2
      clear nd n6
      go_loop [7] (fun x => ∃ m : Nat, x = .int .i64 ((m + 1 : Nat) : Int) ∧ K ≤ m + 1 ∧ m + 1 ≤ b ∧ trimEnd text a (m + 1) = K) (fun x => (intOf x).toNat)
      case atStart => exact ⟨b - 1, by rw [show b - 1 + 1 = b by omega], by omega, by omega, by rw [show b - 1 + 1 = b by omega]; exact HK.out⟩
      case round =>
        obtain ⟨m, rfl, hm1, hm2, htr⟩ := hrel
        have hms : m < text.size := by omega
        have hby := byteAt_get (text := text) hms
        obtain ⟨c, hc⟩ : ∃ c, c = byteAt text m := ⟨_, rfl⟩
        rw [← hc] at hby
        have hb2 := hby.symm
        by_cases hK : K = m + 1
        · have hst : blankB c = false := by rw [hc]; rw [hK] at htr; exact trim_stop htr (by omega)
          have n32 : (c == 32) = false := by
            simp only [blankB, Bool.or_eq_false_iff, decide_eq_false_iff_not] at hst; simpa using hst.1
          have n10 : (c == 10) = false := by
            simp only [blankB, Bool.or_eq_false_iff, decide_eq_false_iff_not] at hst; simpa using hst.2
          obtain ⟨s, hs⟩ : ∃ s, s = text.extract a (m + 1) := ⟨_, rfl⟩
          have HS2 := Lib.hid hs
          have p6 := P6.out
          rw [hK, ← hs] at p6
          have P7 := Lib.hid p6
          have hdk : decide (a < m + 1) = true := by simp; omega
          clear hst hby hc htr hK hs p6
          go_wp2_with fail
          rw [← HS2.out]
          have hBw : Below w.heap.size w wr.drew := (Below.trans HB2.out (BR.out.mono HB2.out.size)).drew
          have HC2 := tokens_any wr.drew s (by rw [HS2.out, ByteArray.size_extract]; omega) (HW.out.below hBw)
          rw [P7.out] at HC2
          refine HC2.mono ?_
          rintro e w5 ⟨⟨v2, rfl, hO3⟩, hB5⟩
          have hB6 : Below w2.heap.size w2 w5 := Below.trans BR.out.drew (hB5.mono BR.out.size)
          have B6 := Lib.hid hB6
          have hg5 : g < wr.drew.heap.size := Nat.lt_of_lt_of_le hg2 BR.out.size
          have f0 := (hB5.cell (p := ⟨g, i * 4, none⟩) hg5).trans d0
          have f1 := (hB5.cell (p := ⟨g, i * 4 + 1, none⟩) hg5).trans d1
          have f2 := (hB5.cell (p := ⟨g, i * 4 + 2, none⟩) hg5).trans d2
          rcases ownsRow_cases hO3 with ⟨_, h0⟩ | ⟨g2, cap2, rfl, k1, k2, k3⟩
          · exact absurd h0 (by simp)
          have x0 := tok_cell hO3 (g := g2) rfl (i := 0) (j := 0) rfl rfl
          have x1 := tok_cell hO3 (g := g2) rfl (i := 0) (j := 1) rfl rfl
          have x2 := tok_cell hO3 (g := g2) rfl (i := 0) (j := 2) rfl rfl
          simp only [List.length_cons, List.length_nil, Nat.zero_mul, Nat.zero_add, Nat.reduceAdd] at x0 x1 x2 k1 ⊢
          unfold maxLen at k2
          clear hO3 hB5 hB6 hBw HC2 d0 d1 d2 d3 e3
          go_wp2_with fail
          refine wp_region_plan [(true, 0), (true, 1), (true, 2), (true, 3), (true, 4), (true, 5), (true, 6), (true, 7), (true, 8), (true, 9), (true, 10), (true, 11), (true, 12), (true, 13), (true, 14), (true, 15), (true, 16), (true, 17), (true, 18), (true, 19), (true, 20), (true, 21), (true, 22), (true, 23), (true, 24), (true, 25), (true, 26), (true, 27), (true, 28), (true, 29), (true, 30), (true, 31), (true, 32), (true, 33), (true, 34), (true, 35), (true, 36), (true, 37), (true, 38), (true, 39), (true, 40)] [41, 42] (fun W => W.cell? ⟨g2, 0, none⟩ = some (.int .i64 kd) ∧ W.cell? ⟨g2, 1, none⟩ = some (.string tx) ∧ W.cell? ⟨g2, 2, none⟩ = some (.int .i64 tn) ∧ W.cell? ⟨g, i * 4, none⟩ = some (.int .i64 kd) ∧ W.cell? ⟨g, i * 4 + 1, none⟩ = some (.string tx) ∧ W.cell? ⟨g, i * 4 + 2, none⟩ = some (.int .i64 tn)) (by kernel_rfl) (by kernel_rfl) (fun _ _ d _ _ h => by cases d <;> exact h) ⟨x0, x1, x2, f0, f1, f2⟩ (fun hS0 => ?_)
          simp only [planOps, List.filterMap_cons, List.filterMap_nil, List.getElem?_toArray, List.getElem?_cons_zero, List.getElem?_cons_succ, Option.map_some]
          iterate 41
            first
              | (refine wpPlan_take ?_ (by rfl) (fun w' hS' => ?_) ?_; rotate_left; (obtain ⟨s0, s1, s2, s3, s4, s5⟩ := hS'; go_simp; first | done | with_reducible rfl); simp only [Act.put, List.setIfInBounds_toArray, List.set_cons_zero, List.set_cons_succ])
              | (refine wpPlan_skip (by rfl) ?_; simp only [Act.put, List.setIfInBounds_toArray, List.set_cons_zero, List.set_cons_succ])
          refine wpPlan_end ?_
          go_wp2
          go_roundw
          case rel =>
            repeat apply Exists.intro
            exact ⟨⟨i + 1, by go_num, by omega, B6.out.drew⟩, rfl⟩
          case measure => simp [intOf]; omega
        · obtain ⟨hbl, htr2⟩ := trim_go htr (by omega)
          have hbl2 : c = 32 ∨ c = 10 := by
            rw [← hc] at hbl
            simpa [blankB] using hbl
          have HT := Lib.hid htr2
          have hdk : decide (a < m + 1) = true := by simp; omega
          clear hbl htr htr2 hby hc
          rcases hbl2 with rfl | rfl
          all_goals
            go_wp2
            go_round
            case rel => exact ⟨m - 1, by omega, by omega, by omega, by rw [show m - 1 + 1 = m by omega]; exact HT.out⟩
            case measure => simp [intOf]; omega
    · go_wp2
      go_ret
      exact ⟨rfl, Below.trans HB2.out (BR.out.mono HB2.out.size)⟩
end Go.Proofs.YtabfboflapckbaaDoor
