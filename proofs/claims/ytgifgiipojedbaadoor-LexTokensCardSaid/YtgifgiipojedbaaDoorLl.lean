/- The law LexTokens, walked. -/
import Derived.Test.YtgifgiipojedbaaDoorRh
import Derived.Test.YtgifgiipojedbaaDoorPl2
namespace Go.Proofs.YtgifgiipojedbaaDoor
open Go Go.RowKit
set_option maxRecDepth 100000
set_option linter.unusedVariables false

theorem quoted_codes (text : ByteArray) (j : Nat) (e : Int × Nat) (h : tokAt text j = .error e) : e.1 ≠ 0 := by
  unfold tokAt at h
  simp only at h
  split at h
  · split at h
    · cases h
    · split at h
      · cases h; simp
      · cases h
  · split at h
    · split at h
      · cases h; simp
      · split at h
        · cases h; simp
        · cases h
    · split at h
      · split at h
        · cases h; simp
        · split at h
          · cases h; simp
          · cases h
      · split at h
        · cases h; simp
        · cases h
theorem lexF_codes (text : ByteArray) : ∀ (f i : Nat) (acc : List Tok) (e : Int × Nat), lexF text f i acc = .error e → e.1 ≠ 0 := by
  intro f
  induction f with
  | zero => intro i acc e h; simp [lexF] at h
  | succ f ih =>
    intro i acc e h
    simp only [lexF] at h
    split at h
    · cases h
    · split at h
      · rename_i e' ht
        cases h
        exact quoted_codes text _ _ ht
      · exact ih _ _ _ h
theorem bare_res {w' : World} {tmps : Array Value} {cb : Nat} {x y : Value} (h3 : tmps.getD 2 undef = .pointer (some ⟨cb, 0, none⟩)) (hx : w'.cell? ⟨cb, 0, none⟩ = some x) (hy : w'.cell? ⟨cb, 1, none⟩ = some y) :
    (results Tryd.f48 tmps).run Tryd.prog w' = .ok (.agg #[x, y]) w' := by
  have h3' : tmps[2]?.getD undef = .pointer (some ⟨cb, 0, none⟩) := by simpa using h3
  simp [results, go_sem, h3', hx, hy]
set_option maxHeartbeats 4000000 in
theorem bare_any (w : World) (c : Int) :
    Calls Tryd.prog 48 #[.int .i64 c] w fun e w' => e = .returned (.agg #[.int .i64 c, .int .i64 (-1)]) ∧ Below w.heap.size w w' := by
  have hb : Below w.heap.size w (w.alloc (.cells #[.int .i64 c, .int .i64 (-1)] 86)) := (Below.refl _ _).alloc (Nat.le_refl _) _
  have HB := Lib.hid hb
  clear hb
  go_enter Tryd.func48, Tryd.ntmps48
  go_wp2
  refine bodyPost_ret (bare_res (cb := w.heap.size) (x := .int .i64 c) (y := .int .i64 (-1)) rfl (by simp) (by simp)) rfl ?_
  exact ⟨rfl, HB.out⟩
set_option maxHeartbeats 4000000 in
theorem rtokens_big (w : World) (text : ByteArray) (hm : 3000 < text.size) :
    Calls Tryd.prog 45 #[.string text] w fun e w' => e = .returned (.tuple #[.slice none 0 0, .agg #[.int .i64 4, .int .i64 (-1)]]) ∧ Below w.heap.size w w' := by
  have hmI : (3000 : Int) < (text.size : Int) := by omega
  have hst : RMid w (w.alloc (.cells #[.int .i64 0, .int .i64 0] 86)) (.slice none 0 0) [] := ⟨(Go.MapKept.heap_alloc w _).1, (Below.refl _ _).alloc (Nat.le_refl _) _, World.ownsRow_nil _ _ _ _⟩
  have ST := Lib.hid hst
  have HB := Lib.hid (bare_any (w.alloc (.cells #[.int .i64 0, .int .i64 0] 86)) 4)
  clear hst hm
  go_enter Tryd.func45, Tryd.ntmps45
  go_wp2_with fail
  refine HB.out.mono ?_
  rintro e w1 ⟨rfl, hb⟩
  have HM := Lib.hid (ST.out.on hb)
  have z0 : w1.cell? ⟨w.heap.size, 0, none⟩ = some (.int .i64 0) := by simp [World.cell?, HM.out.blk]
  have z1 : w1.cell? ⟨w.heap.size, 1, none⟩ = some (.int .i64 0) := by simp [World.cell?, HM.out.blk]
  have y0 : w1.frozen? ⟨w.heap.size, 0, none⟩ = false := by simp [World.frozen?, HM.out.blk]
  have y1 : w1.frozen? ⟨w.heap.size, 1, none⟩ = false := by simp [World.frozen?, HM.out.blk]
  have EP := Lib.hid (HM.out.put (.int .i64 4) (.int .i64 (-1)))
  have EF := Lib.hid (HM.out.fin (.int .i64 4) (.int .i64 (-1)))
  clear hb HB
  go_wp2
  refine bodyPost_ret (rres (cb := w.heap.size) rfl rfl EP.out.1 EP.out.2) rfl ?_
  exact ⟨rfl, EF.out.2⟩

set_option maxHeartbeats 8000000 in
theorem ll_err (w : World) (text : ByteArray) (c p : Int) (hm : text.size ≤ 4000) (hc : c ≠ 0)
    (HR : Hid (Calls Tryd.prog 45 #[.string text] w fun e w' => e = .returned (.tuple #[.slice none 0 0, .agg #[.int .i64 c, .int .i64 p]]) ∧ Below w.heap.size w w'))
    (HL : Hid (∀ W, Below w.heap.size w W → Calls Tryd.prog 46 #[.string text] W fun e w' => ∃ x, e = .returned (.tuple #[.slice none 0 0, x]) ∧ Below W.heap.size W w' ∧ ∀ W2, Below w'.heap.size w' W2 → Calls Tryd.prog 47 #[x, .agg #[.int .i64 c, .int .i64 p]] W2 fun e w' => e = .returned (.bool true) ∧ Below W2.heap.size W2 w')) :
    Calls Tryd.prog 5 #[.string text] w fun e w' => e = .returned (.bool true) ∧ Below w.heap.size w w' := by
  have hmI : ¬ (4000 : Int) < (text.size : Int) := by omega
  have nc : (c != 0) = true := by simpa using hc
  clear hm hc
  go_enter Tryd.func5, Tryd.ntmps5
  go_wp2_with fail
  refine HR.out.mono ?_
  rintro e w1 ⟨rfl, hb⟩
  have hb1 : Below w1.heap.size w1 (w1.alloc (.cells #[.int .i64 c, .int .i64 p] 86)) := (Below.refl _ _).alloc (Nat.le_refl _) _
  have HB := Lib.hid (hb.trans (hb1.mono hb.size))
  clear hb hb1 HR
  go_wp2_with fail
  refine (HL.out _ HB.out).mono ?_
  rintro e w2 ⟨x, rfl, hb2, hat⟩
  have hsz : w1.heap.size < (w1.alloc (.cells #[.int .i64 c, .int .i64 p] 86)).heap.size := by simp
  have z0 : w2.cell? ⟨w1.heap.size, 0, none⟩ = some (.int .i64 c) := (World.cell?_of_block (hb2.block w1.heap.size hsz)).trans (by simp)
  have z1 : w2.cell? ⟨w1.heap.size, 1, none⟩ = some (.int .i64 p) := (World.cell?_of_block (hb2.block w1.heap.size hsz)).trans (by simp)
  have HB2 := Lib.hid (HB.out.trans (hb2.mono HB.out.size))
  have HA := Lib.hid (hat w2 (Below.refl _ _))
  clear hb2 hat hsz HL HB
  go_wp2_with fail
  refine HA.out.mono ?_
  rintro e w3 ⟨rfl, hb3⟩
  have HB3 := Lib.hid (HB2.out.trans (hb3.mono HB2.out.size))
  clear hb3 HA HB2
  go_wp2
  go_ret
  exact ⟨rfl, HB3.out⟩

theorem rtok_cell {w : World} {base : Nat} {v : Value} {l : List Tok} (h : w.ownsRow base 95 4 v l.length (l.flatMap Tok.cells)) {g : Nat} (hg : v.ownBlock = some g) {i j : Nat} {t : Tok} {x : Value} (hi : l[i]? = some t) (hj : t.cells[j]? = some x) :
    w.cell? ⟨g, i * 4 + j, none⟩ = some x := row_cell (f := Tok.cells) (fun _ => rfl) h hg hi hj
theorem ltok_cell {w : World} {base : Nat} {v : Value} {l : List Tok} (h : w.ownsRow base 94 4 v l.length (l.flatMap Tok.cells)) {g : Nat} (hg : v.ownBlock = some g) {i j : Nat} {t : Tok} {x : Value} (hi : l[i]? = some t) (hj : t.cells[j]? = some x) :
    w.cell? ⟨g, i * 4 + j, none⟩ = some x := row_cell (f := Tok.cells) (fun _ => rfl) h hg hi hj
set_option maxHeartbeats 16000000 in
theorem ll_ok (w : World) (text : ByteArray) (l : List Tok) (hm : text.size ≤ 4000)
    (HR : Hid (Calls Tryd.prog 45 #[.string text] w fun e w' => (∃ v, e = .returned (.tuple #[v, .agg #[.int .i64 0, .int .i64 (-1)]]) ∧ w'.ownsRow w.heap.size 95 4 v l.length (l.flatMap Tok.cells)) ∧ Below w.heap.size w w'))
    (HL : Hid (∀ W, Below w.heap.size w W → Calls Tryd.prog 46 #[.string text] W fun e w' => (∃ v, e = .returned (.tuple #[v, .nilIface]) ∧ w'.ownsRow W.heap.size 94 4 v l.length (l.flatMap Tok.cells)) ∧ Below W.heap.size W w')) :
    Calls Tryd.prog 5 #[.string text] w fun e w' => e = .returned (.bool true) ∧ Below w.heap.size w w' := by
  have hmI : ¬ (4000 : Int) < (text.size : Int) := by omega
  clear hm
  go_enter Tryd.func5, Tryd.ntmps5
  go_wp2_with fail
  refine HR.out.mono ?_
  rintro e w1 ⟨⟨v, rfl, hrow⟩, hb⟩
  have hb1 : Below w1.heap.size w1 (w1.alloc (.cells #[.int .i64 0, .int .i64 (-1)] 86)) := (Below.refl _ _).alloc (Nat.le_refl _) _
  have HB := Lib.hid (hb.trans (hb1.mono hb.size))
  have HROW := Lib.hid (ownsRow_block hrow fun k hk => hb1.block k (World.ownsRow.lt hrow k hk).2)
  obtain ⟨p, cp, rfl, hge, hmx⟩ : ∃ p cp, v = .slice p l.length cp ∧ l.length ≤ cp ∧ cp ≤ maxLen := by
    rcases ownsRow_cases hrow with ⟨h1, h2⟩ | ⟨g, cap, h1, h2, h3, _⟩
    · exact ⟨none, 0, by rw [h1, h2], by rw [h2]; exact Nat.le_refl _, by unfold maxLen; omega⟩
    · exact ⟨_, _, h1, h2, h3⟩
  clear hb hb1 HR hrow
  go_wp2_with fail
  refine (HL.out _ HB.out).mono ?_
  rintro e w2 ⟨⟨v2, rfl, hrow2⟩, hb2⟩
  have hsz : w1.heap.size < (w1.alloc (.cells #[.int .i64 0, .int .i64 (-1)] 86)).heap.size := by simp
  have z0 : w2.cell? ⟨w1.heap.size, 0, none⟩ = some (.int .i64 0) := (World.cell?_of_block (hb2.block w1.heap.size hsz)).trans (by simp)
  have HB2 := Lib.hid (HB.out.trans (hb2.mono HB.out.size))
  have HROW1 := Lib.hid (ownsRow_block HROW.out fun k hk => hb2.block k (World.ownsRow.lt HROW.out k hk).2)
  have HROW2 := Lib.hid hrow2
  obtain ⟨p2, cp2, rfl, hge2, hmx2⟩ : ∃ p cp, v2 = .slice p l.length cp ∧ l.length ≤ cp ∧ cp ≤ maxLen := by
    rcases ownsRow_cases hrow2 with ⟨h1, h2⟩ | ⟨g, cap, h1, h2, h3, _⟩
    · exact ⟨none, 0, by rw [h1, h2], by rw [h2]; exact Nat.le_refl _, by unfold maxLen; omega⟩
    · exact ⟨_, _, h1, h2, h3⟩
  obtain ⟨n, hn⟩ : ∃ n, n = l.length := ⟨_, rfl⟩
  rw [← hn] at hge hge2 HROW1 HROW2 ⊢
  have HN := Lib.hid hn
  unfold maxLen at hmx hmx2
  clear hb2 hsz HL HB hrow2 hn HROW
  go_wp2_with fail
  go_loopw [7] (fun i wr => ∃ k : Nat, k ≤ n ∧ i = .int .i64 k ∧ Hid (Below w2.heap.size w2 wr)) (fun i _ => n - (intOf i).toNat)
  case atStart => exact ⟨0, Nat.zero_le _, rfl, Lib.hid (Below.refl _ _)⟩
  case round =>
    obtain ⟨k, hk, rfl, HBR⟩ := hrel
    by_cases hkn : k < n
    · obtain ⟨t, ht⟩ : ∃ t, l[k]? = some t := ⟨_, List.getElem?_eq_getElem (by rw [← HN.out]; exact hkn)⟩
      obtain ⟨g, hp⟩ : ∃ g, p = some ⟨g, 0, none⟩ := by
        rcases ownsRow_cases HROW1.out with ⟨_, h2⟩ | ⟨g, cap, h1, _⟩
        · omega
        · simp only [Value.slice.injEq] at h1; exact ⟨g, h1.1⟩
      obtain ⟨g2, hp2⟩ : ∃ g, p2 = some ⟨g, 0, none⟩ := by
        rcases ownsRow_cases HROW2.out with ⟨_, h2⟩ | ⟨g, cap, h1, _⟩
        · omega
        · simp only [Value.slice.injEq] at h1; exact ⟨g, h1.1⟩
      subst hp
      subst hp2
      have hgl := (World.ownsRow.lt HROW1.out g rfl).2
      have hgl2 := (World.ownsRow.lt HROW2.out g2 rfl).2
      have hc1 : ∀ (j : Nat) x, t.cells[j]? = some x → wr.cell? ⟨g, k * 4 + j, none⟩ = some x := fun j x hx =>
        (World.cell?_of_block (HBR.out.block g hgl)).trans (rtok_cell (by rw [← HN.out]; exact HROW1.out) rfl ht hx)
      have hc2 : ∀ (j : Nat) x, t.cells[j]? = some x → wr.cell? ⟨g2, k * 4 + j, none⟩ = some x := fun j x hx =>
        (World.cell?_of_block (HBR.out.block g2 hgl2)).trans (ltok_cell (by rw [← HN.out]; exact HROW2.out) rfl ht hx)
      obtain ⟨kd, tx, tn, ta⟩ := t
      have a0 := hc1 0 _ rfl
      have a1 := hc1 1 _ rfl
      have a2 := hc1 2 _ rfl
      have a3 := hc1 3 _ rfl
      have c0 := hc2 0 _ rfl
      have c1 := hc2 1 _ rfl
      have c2 := hc2 2 _ rfl
      have c3 := hc2 3 _ rfl
      simp only [Nat.add_zero] at a0 a1 a2 a3 c0 c1 c2 c3
      clear hc1 hc2 ht
      go_wp2_with fail
      refine wp_region_plan [(true, 0), (true, 1), (true, 2), (true, 3), (true, 4), (true, 5), (true, 6), (true, 7), (true, 8), (true, 9), (true, 10), (true, 11), (true, 12), (true, 13), (true, 14), (true, 15), (true, 16), (true, 17), (true, 18), (true, 19), (true, 20), (true, 21), (true, 22), (true, 23), (true, 24), (true, 25), (true, 26), (true, 27), (true, 28), (true, 29), (true, 30), (true, 31), (true, 32), (true, 33), (true, 34), (true, 35), (true, 36), (true, 37), (true, 38), (true, 39), (true, 40), (true, 41), (true, 42), (true, 43), (true, 44), (true, 45), (true, 46), (true, 47)] [48, 49] (fun W => W.cell? ⟨g, k * 4, none⟩ = some (.int .i64 kd) ∧ W.cell? ⟨g, k * 4 + 1, none⟩ = some (.string tx) ∧ W.cell? ⟨g, k * 4 + 2, none⟩ = some (.int .i64 tn) ∧ W.cell? ⟨g, k * 4 + 3, none⟩ = some (.int .i64 ta) ∧ W.cell? ⟨g2, k * 4, none⟩ = some (.int .i64 kd) ∧ W.cell? ⟨g2, k * 4 + 1, none⟩ = some (.string tx) ∧ W.cell? ⟨g2, k * 4 + 2, none⟩ = some (.int .i64 tn) ∧ W.cell? ⟨g2, k * 4 + 3, none⟩ = some (.int .i64 ta)) (by kernel_rfl) (by kernel_rfl) (fun _ _ d _ _ h => by cases d <;> exact h) ⟨a0, a1, a2, a3, c0, c1, c2, c3⟩ (fun hS0 => ?_)
      simp only [planOps, List.filterMap_cons, List.filterMap_nil, List.getElem?_toArray, List.getElem?_cons_zero, List.getElem?_cons_succ, Option.map_some]
      iterate 48
        first
          | (refine wpPlan_take ?_ (by rfl) (fun w' hS' => ?_) ?_; rotate_left; (obtain ⟨s0, s1, s2, s3, s4, s5, s6, s7⟩ := hS'; go_simp; first | done | with_reducible rfl); simp only [Act.put, List.setIfInBounds_toArray, List.set_cons_zero, List.set_cons_succ])
          | (refine wpPlan_skip (by rfl) ?_; simp only [Act.put, List.setIfInBounds_toArray, List.set_cons_zero, List.set_cons_succ])
      refine wpPlan_end ?_
      go_wp2
      go_roundw
      case rel => exact ⟨k + 1, by omega, by go_num, Lib.hid HBR.out.drew⟩
      case measure => simp [intOf]; omega
    · have hk2 : k = n := by omega
      subst hk2
      go_wp2
      go_ret
      exact ⟨rfl, HB2.out.trans (HBR.out.mono HB2.out.size)⟩
end Go.Proofs.YtgifgiipojedbaaDoor
