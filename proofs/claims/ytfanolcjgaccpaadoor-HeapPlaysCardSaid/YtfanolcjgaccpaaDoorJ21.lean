/- HeapPlays, a piece: Put. HeapPlays, a piece: Cut. HeapPlays, a piece: Declare. HeapPlays, a piece: Write. HeapPlays, a piece: Start. HeapPlays, a piece: Drop. HeapPlays, a piece: Read. HeapPlays, a piece: Find. -/
import Derived.Test.YtfanolcjgaccpaaDoorJ17
namespace Go.Proofs.YtfanolcjgaccpaaDoor
open Go Go.RowKit
set_option maxRecDepth 1000000
set_option linter.unusedVariables false
section
variable {w0 w : World} {v0 : Value} {hb rb k db vb : Nat} {d : DoRec} {H : LHeap} {a : Act}
set_option maxHeartbeats 20000000 in
theorem hp2_any (h : PreD w0 v0 hb rb k db vb d H a w) : (hpAt [1, 1, 1, 1, 0, 1, 0, 0, 1, 0, 0, 1, 1, 1, 0, 1, 0, 1, 1, 1, 1, 1, 0]).wp Tryd.prog (MidQ w0 v0 hb rb k db d) a w := by
  obtain ⟨fr, duo, good, err, low, nm, k80⟩ := h
  obtain ⟨tm, df⟩ := a
  obtain ⟨x, ex, hx⟩ := lit470 tm fr.size
  have e0 := (hx 0).trans fr.t0
  have e3 := (hx 3).trans fr.t3
  have e4 := (hx 4).trans fr.t4
  have e5 := (hx 5).trans fr.t5
  have e6 := (hx 6).trans fr.t6
  have e7 := (hx 7).trans fr.t7
  have e44 := (hx 44).trans fr.t44
  have ed : df = [] := fr.defs
  clear fr hx
  subst ex
  subst ed
  rw [e0, e3, e4, e5, e6, e7, e44]
  clear e0 e3 e4 e5 e6 e7 e44
  obtain ⟨Q, hQ⟩ : ∃ Q, Q = MidQ w0 v0 hb rb k db d := ⟨_, rfl⟩
  rw [← hQ]
  have hN : ∀ a w, MidD w0 v0 hb rb k db d a w → Q .normal a w := fun a w h => by rw [hQ]; exact h
  have hX : ∀ a w, Next w0 v0 hb rb k a w → Q (.exit 1) a w := fun a w h => by rw [hQ]; exact h
  have HQP : Hid (∀ c a d v w, Q (.panic c) (Act.put a d v) w → Q (.panic c) a w) := Lib.hid fun c a d v w h => by rw [hQ] at h; exact h.elim
  have HN := Lib.hid hN
  have HX := Lib.hid hX
  have HG := Lib.hid good
  have HE := Lib.hid err
  have HLow := Lib.hid low
  obtain ⟨dw, da, dB, dn, dk, dv, dfx⟩ := d
  obtain ⟨q0, q1, q2, q3, q4, q5, q6⟩ := d_cells duo.dBlk
  obtain ⟨p0, p1, p2⟩ := v_cells duo.vBlk
  have HD := Lib.hid duo
  dsimp only at q0 q1 q2 q3 q4 q5 q6 p0 p1 p2 nm
  clear hQ hN hX duo good err low
  have HL := Lib.hid (good_lens HG.out (by omega))
  have HU := Lib.hid (good_uniqs HG.out (by omega))
  conv => arg 2; whnf
  go_wp2_with fail
  refine wp_region_plan [(true, 0), (true, 1), (true, 2), (true, 3), (true, 4), (true, 5), (true, 6), (true, 8), (true, 9), (true, 10), (true, 11), (true, 12), (true, 13), (true, 14), (true, 15), (true, 16), (false, 7)] [17, 18, 19] (fun W => W.cell? ⟨db, 1, none⟩ = some (.int .i64 da) ∧ W.cell? ⟨db, 3, none⟩ = some (.string dn) ∧ W.cell? ⟨db, 4, none⟩ = some (.int .i64 dk) ∧ W.cell? ⟨db, 5, none⟩ = some (.int .i64 dv) ∧ W.cell? ⟨db, 6, none⟩ = some (.bool dfx) ∧ W.cell? ⟨vb, 0, none⟩ = some (.int .i64 3) ∧ W.cell? ⟨vb, 1, none⟩ = some (.int .i64 dv) ∧ W.cell? ⟨vb, 2, none⟩ = some (.string ⟨#[]⟩)) (by kernel_rfl) (by kernel_rfl) (fun c a d v w h => HQP.out c a d v w h) ⟨q1, q3, q4, q5, q6, p0, p1, p2⟩ (fun hS0 => ?_)
  simp only [planOps, List.filterMap_cons, List.filterMap_nil, List.getElem?_toArray, List.getElem?_cons_zero, List.getElem?_cons_succ, Option.map_some]
  iterate 16
    first
      | (refine wpPlan_take ?_ (by rfl) (fun w' hS' => ?_) ?_; rotate_left; (obtain ⟨s0, s1, s2, s3, s4, s5, s6, s7⟩ := hS'; go_simp; first | done | with_reducible rfl); simp only [Act.put, List.setIfInBounds_toArray, List.set_cons_zero, List.set_cons_succ])
      | (refine wpPlan_skip (by rfl) ?_; simp only [Act.put, List.setIfInBounds_toArray, List.set_cons_zero, List.set_cons_succ])
  have HD1 := Lib.hid HD.out.drew
  refine wpPlan_go (fun K hK => ?_)
  go_simp
  refine (HD1.out.heap (fun ρ L hh => put_any hh da dn ⟨3, dv, ⟨#[]⟩⟩ dfx HL.out.1)).mono ?_
  rintro e w1 ⟨rfl, hD2⟩
  obtain ⟨q0', q1', q2', q3', q4', q5', q6'⟩ := d_cells (hD2.get (p := (db, (⟨dw, da, dB, dn, dk, dv, dfx⟩ : DoRec).obj)) (by simp))
  obtain ⟨p0', p1', p2'⟩ := v_cells (hD2.get (p := (vb, vObj dv)) (by simp))
  dsimp only at q0' q1' q2' q3' q4' q5' q6' p0' p1' p2'
  have HD2 := Lib.hid hD2
  clear hD2
  refine hK _ _ ⟨q1', q3', q4', q5', q6', p0', p1', p2'⟩ ?_
  clear hK K
  try simp only [Act.put, List.setIfInBounds_toArray, List.set_cons_zero, List.set_cons_succ]
  refine wpPlan_end ?_
  go_wp2_with fail
  refine (HD2.out.ref (fun V hh => rput_any hh da dn ⟨3, dv, ⟨#[]⟩⟩ dfx HL.out.1)).mono ?_
  rintro e w2 ⟨rfl, hD3⟩
  have HD3 := Lib.hid hD3
  clear hD3
  go_wp2_with fail
  refine (bare_ok w2 _ (HD3.out.err HE.out)).mono ?_
  rintro e w3 ⟨rfl, hB3⟩
  have HD4 := Lib.hid (HD3.out.below hB3)
  clear hB3
  go_wp2
  refine HN.out _ _ ⟨⟨⟨rfl, rfl, rfl, rfl, rfl, rfl⟩, rfl⟩, (H.put da dn ⟨3, dv, ⟨#[]⟩⟩ dfx).1, dk, ?_, HG.out.put da dfx ⟨rfl, rfl⟩ nm⟩
  exact HD4.out.weak (fun p hp => by simp at hp; subst hp; simp)
end
end Go.Proofs.YtfanolcjgaccpaaDoor

namespace Go.Proofs.YtfanolcjgaccpaaDoor
open Go Go.RowKit
set_option maxRecDepth 1000000
set_option linter.unusedVariables false
section
variable {w0 w : World} {v0 : Value} {hb rb k db vb : Nat} {d : DoRec} {H : LHeap} {a : Act}
set_option maxHeartbeats 20000000 in
theorem hp3_any (h : PreD w0 v0 hb rb k db vb d H a w) : (hpAt [1, 1, 1, 1, 0, 1, 0, 0, 1, 0, 0, 1, 1, 1, 0, 1, 0, 1, 1, 1, 1, 1, 1, 1, 0]).wp Tryd.prog (MidQ w0 v0 hb rb k db d) a w := by
  obtain ⟨fr, duo, good, err, low, nm, k80⟩ := h
  obtain ⟨tm, df⟩ := a
  obtain ⟨x, ex, hx⟩ := lit470 tm fr.size
  have e0 := (hx 0).trans fr.t0
  have e3 := (hx 3).trans fr.t3
  have e4 := (hx 4).trans fr.t4
  have e5 := (hx 5).trans fr.t5
  have e6 := (hx 6).trans fr.t6
  have e7 := (hx 7).trans fr.t7
  have e44 := (hx 44).trans fr.t44
  have ed : df = [] := fr.defs
  clear fr hx
  subst ex
  subst ed
  rw [e0, e3, e4, e5, e6, e7, e44]
  clear e0 e3 e4 e5 e6 e7 e44
  obtain ⟨Q, hQ⟩ : ∃ Q, Q = MidQ w0 v0 hb rb k db d := ⟨_, rfl⟩
  rw [← hQ]
  have hN : ∀ a w, MidD w0 v0 hb rb k db d a w → Q .normal a w := fun a w h => by rw [hQ]; exact h
  have hX : ∀ a w, Next w0 v0 hb rb k a w → Q (.exit 1) a w := fun a w h => by rw [hQ]; exact h
  have HQP : Hid (∀ c a d v w, Q (.panic c) (Act.put a d v) w → Q (.panic c) a w) := Lib.hid fun c a d v w h => by rw [hQ] at h; exact h.elim
  have HN := Lib.hid hN
  have HX := Lib.hid hX
  have HG := Lib.hid good
  have HE := Lib.hid err
  have HLow := Lib.hid low
  obtain ⟨dw, da, dB, dn, dk, dv, dfx⟩ := d
  obtain ⟨q0, q1, q2, q3, q4, q5, q6⟩ := d_cells duo.dBlk
  obtain ⟨p0, p1, p2⟩ := v_cells duo.vBlk
  have HD := Lib.hid duo
  dsimp only at q0 q1 q2 q3 q4 q5 q6 p0 p1 p2 nm
  clear hQ hN hX duo good err low
  have HL := Lib.hid (good_lens HG.out (by omega))
  have HU := Lib.hid (good_uniqs HG.out (by omega))
  conv => arg 2; whnf
  go_wp2_with fail
  refine wp_region_plan [(true, 0), (true, 1), (true, 2), (true, 3), (true, 5), (true, 6), (true, 7), (true, 8), (true, 9), (false, 4)] [10, 11] (fun W => W.cell? ⟨db, 1, none⟩ = some (.int .i64 da) ∧ W.cell? ⟨db, 3, none⟩ = some (.string dn) ∧ W.cell? ⟨db, 4, none⟩ = some (.int .i64 dk) ∧ W.cell? ⟨db, 5, none⟩ = some (.int .i64 dv) ∧ W.cell? ⟨db, 6, none⟩ = some (.bool dfx) ∧ W.cell? ⟨vb, 0, none⟩ = some (.int .i64 3) ∧ W.cell? ⟨vb, 1, none⟩ = some (.int .i64 dv) ∧ W.cell? ⟨vb, 2, none⟩ = some (.string ⟨#[]⟩)) (by kernel_rfl) (by kernel_rfl) (fun c a d v w h => HQP.out c a d v w h) ⟨q1, q3, q4, q5, q6, p0, p1, p2⟩ (fun hS0 => ?_)
  simp only [planOps, List.filterMap_cons, List.filterMap_nil, List.getElem?_toArray, List.getElem?_cons_zero, List.getElem?_cons_succ, Option.map_some]
  iterate 9
    first
      | (refine wpPlan_take ?_ (by rfl) (fun w' hS' => ?_) ?_; rotate_left; (obtain ⟨s0, s1, s2, s3, s4, s5, s6, s7⟩ := hS'; go_simp; first | done | with_reducible rfl); simp only [Act.put, List.setIfInBounds_toArray, List.set_cons_zero, List.set_cons_succ])
      | (refine wpPlan_skip (by rfl) ?_; simp only [Act.put, List.setIfInBounds_toArray, List.set_cons_zero, List.set_cons_succ])
  have HD1 := Lib.hid HD.out.drew
  refine wpPlan_go (fun K hK => ?_)
  go_simp
  refine (HD1.out.heap (fun ρ L hh => cut_any hh da dn)).mono ?_
  rintro e w1 ⟨rfl, hD2⟩
  obtain ⟨q0', q1', q2', q3', q4', q5', q6'⟩ := d_cells (hD2.get (p := (db, (⟨dw, da, dB, dn, dk, dv, dfx⟩ : DoRec).obj)) (by simp))
  obtain ⟨p0', p1', p2'⟩ := v_cells (hD2.get (p := (vb, vObj dv)) (by simp))
  dsimp only at q0' q1' q2' q3' q4' q5' q6' p0' p1' p2'
  have HD2 := Lib.hid hD2
  clear hD2
  refine hK _ _ ⟨q1', q3', q4', q5', q6', p0', p1', p2'⟩ ?_
  clear hK K
  try simp only [Act.put, List.setIfInBounds_toArray, List.set_cons_zero, List.set_cons_succ]
  refine wpPlan_end ?_
  go_wp2_with fail
  refine (HD2.out.ref (fun V hh => rcut_any hh da dn HU.out.1)).mono ?_
  rintro e w2 ⟨rfl, hD3⟩
  have HD3 := Lib.hid hD3
  clear hD3
  have HD4 := HD3
  go_wp2
  refine HN.out _ _ ⟨⟨⟨rfl, rfl, rfl, rfl, rfl, rfl⟩, rfl⟩, (H.cut da dn).1, dk, ?_, HG.out.cut da dn⟩
  exact HD4.out.weak (fun p hp => by simp at hp; subst hp; simp)
end
end Go.Proofs.YtfanolcjgaccpaaDoor

namespace Go.Proofs.YtfanolcjgaccpaaDoor
open Go Go.RowKit
set_option maxRecDepth 1000000
set_option linter.unusedVariables false
section
variable {w0 w : World} {v0 : Value} {hb rb k db vb : Nat} {d : DoRec} {H : LHeap} {a : Act}
set_option maxHeartbeats 20000000 in
theorem hp4_any (h : PreD w0 v0 hb rb k db vb d H a w) : (hpAt [1, 1, 1, 1, 0, 1, 0, 0, 1, 0, 0, 1, 1, 1, 0, 1, 0, 1, 1, 1, 1, 1, 1, 1, 1, 1, 0]).wp Tryd.prog (MidQ w0 v0 hb rb k db d) a w := by
  obtain ⟨fr, duo, good, err, low, nm, k80⟩ := h
  obtain ⟨tm, df⟩ := a
  obtain ⟨x, ex, hx⟩ := lit470 tm fr.size
  have e0 := (hx 0).trans fr.t0
  have e3 := (hx 3).trans fr.t3
  have e4 := (hx 4).trans fr.t4
  have e5 := (hx 5).trans fr.t5
  have e6 := (hx 6).trans fr.t6
  have e7 := (hx 7).trans fr.t7
  have e44 := (hx 44).trans fr.t44
  have ed : df = [] := fr.defs
  clear fr hx
  subst ex
  subst ed
  rw [e0, e3, e4, e5, e6, e7, e44]
  clear e0 e3 e4 e5 e6 e7 e44
  obtain ⟨Q, hQ⟩ : ∃ Q, Q = MidQ w0 v0 hb rb k db d := ⟨_, rfl⟩
  rw [← hQ]
  have hN : ∀ a w, MidD w0 v0 hb rb k db d a w → Q .normal a w := fun a w h => by rw [hQ]; exact h
  have hX : ∀ a w, Next w0 v0 hb rb k a w → Q (.exit 1) a w := fun a w h => by rw [hQ]; exact h
  have HQP : Hid (∀ c a d v w, Q (.panic c) (Act.put a d v) w → Q (.panic c) a w) := Lib.hid fun c a d v w h => by rw [hQ] at h; exact h.elim
  have HN := Lib.hid hN
  have HX := Lib.hid hX
  have HG := Lib.hid good
  have HE := Lib.hid err
  have HLow := Lib.hid low
  obtain ⟨dw, da, dB, dn, dk, dv, dfx⟩ := d
  obtain ⟨q0, q1, q2, q3, q4, q5, q6⟩ := d_cells duo.dBlk
  obtain ⟨p0, p1, p2⟩ := v_cells duo.vBlk
  have HD := Lib.hid duo
  dsimp only at q0 q1 q2 q3 q4 q5 q6 p0 p1 p2 nm
  clear hQ hN hX duo good err low
  have HL := Lib.hid (good_lens HG.out (by omega))
  conv => arg 2; whnf
  by_cases hk1 : dk < 0
  · go_wp2_with fail
    go_wp2
    exact HX.out _ _ ⟨⟨rfl, rfl, rfl, rfl, rfl, rfl⟩, H, HD.out.weak (fun p hp => by simp at hp), HG.out.next⟩
  by_cases hk2 : 4 < dk
  · go_wp2_with fail
    go_wp2
    exact HX.out _ _ ⟨⟨rfl, rfl, rfl, rfl, rfl, rfl⟩, H, HD.out.weak (fun p hp => by simp at hp), HG.out.next⟩
  go_wp2_with fail
  refine wp_region_plan [(true, 0), (true, 1), (true, 2), (true, 3), (true, 4), (true, 5), (true, 6), (true, 8), (true, 9), (true, 10), (true, 11), (true, 12), (true, 13), (true, 14), (true, 15), (true, 16), (false, 7)] [17, 18, 19] (fun W => W.cell? ⟨db, 1, none⟩ = some (.int .i64 da) ∧ W.cell? ⟨db, 3, none⟩ = some (.string dn) ∧ W.cell? ⟨db, 4, none⟩ = some (.int .i64 dk) ∧ W.cell? ⟨db, 5, none⟩ = some (.int .i64 dv) ∧ W.cell? ⟨vb, 0, none⟩ = some (.int .i64 3) ∧ W.cell? ⟨vb, 1, none⟩ = some (.int .i64 dv) ∧ W.cell? ⟨vb, 2, none⟩ = some (.string ⟨#[]⟩)) (by kernel_rfl) (by kernel_rfl) (fun c a d v w h => HQP.out c a d v w h) ⟨q1, q3, q4, q5, p0, p1, p2⟩ (fun hS0 => ?_)
  simp only [planOps, List.filterMap_cons, List.filterMap_nil, List.getElem?_toArray, List.getElem?_cons_zero, List.getElem?_cons_succ, Option.map_some]
  iterate 16
    first
      | (refine wpPlan_take ?_ (by rfl) (fun w' hS' => ?_) ?_; rotate_left; (obtain ⟨s0, s1, s2, s3, s4, s5, s6⟩ := hS'; go_simp; first | done | with_reducible rfl); simp only [Act.put, List.setIfInBounds_toArray, List.set_cons_zero, List.set_cons_succ])
      | (refine wpPlan_skip (by rfl) ?_; simp only [Act.put, List.setIfInBounds_toArray, List.set_cons_zero, List.set_cons_succ])
  have HD1 := Lib.hid HD.out.drew
  refine wpPlan_go (fun K hK => ?_)
  go_simp
  refine (HD1.out.heap (fun ρ L hh => declare_any hh da dn dk ⟨3, dv, ⟨#[]⟩⟩ HL.out.2)).mono ?_
  rintro e w1 ⟨rfl, hD2⟩
  obtain ⟨q0', q1', q2', q3', q4', q5', q6'⟩ := d_cells (hD2.get (p := (db, (⟨dw, da, dB, dn, dk, dv, dfx⟩ : DoRec).obj)) (by simp))
  obtain ⟨p0', p1', p2'⟩ := v_cells (hD2.get (p := (vb, vObj dv)) (by simp))
  dsimp only at q0' q1' q2' q3' q4' q5' q6' p0' p1' p2'
  have HD2 := Lib.hid hD2
  clear hD2
  refine hK _ _ ⟨q1', q3', q4', q5', p0', p1', p2'⟩ ?_
  clear hK K
  try simp only [Act.put, List.setIfInBounds_toArray, List.set_cons_zero, List.set_cons_succ]
  refine wpPlan_end ?_
  go_wp2_with fail
  refine (HD2.out.ref (fun V hh => rdeclare_any hh da dn dk ⟨3, dv, ⟨#[]⟩⟩ HL.out.2)).mono ?_
  rintro e w2 ⟨rfl, hD3⟩
  have HD3 := Lib.hid hD3
  clear hD3
  go_wp2_with fail
  refine (bare_ok w2 _ (HD3.out.err HE.out)).mono ?_
  rintro e w3 ⟨rfl, hB3⟩
  have HD4 := Lib.hid (HD3.out.below hB3)
  clear hB3
  go_wp2
  refine HN.out _ _ ⟨⟨⟨rfl, rfl, rfl, rfl, rfl, rfl⟩, rfl⟩, (H.declare da dn dk ⟨3, dv, ⟨#[]⟩⟩).1, dk, ?_, HG.out.declare da dn dk ⟨rfl, rfl⟩⟩
  exact HD4.out.weak (fun p hp => by simp at hp; subst hp; simp)
end
end Go.Proofs.YtfanolcjgaccpaaDoor

namespace Go.Proofs.YtfanolcjgaccpaaDoor
open Go Go.RowKit
set_option maxRecDepth 1000000
set_option linter.unusedVariables false
section
variable {w0 w : World} {v0 : Value} {hb rb k db vb : Nat} {d : DoRec} {H : LHeap} {a : Act}
set_option maxHeartbeats 20000000 in
theorem hp5_any (h : PreD w0 v0 hb rb k db vb d H a w) : (hpAt [1, 1, 1, 1, 0, 1, 0, 0, 1, 0, 0, 1, 1, 1, 0, 1, 0, 1, 1, 1, 1, 1, 1, 1, 1, 1, 1, 1, 0]).wp Tryd.prog (MidQ w0 v0 hb rb k db d) a w := by
  obtain ⟨fr, duo, good, err, low, nm, k80⟩ := h
  obtain ⟨tm, df⟩ := a
  obtain ⟨x, ex, hx⟩ := lit470 tm fr.size
  have e0 := (hx 0).trans fr.t0
  have e3 := (hx 3).trans fr.t3
  have e4 := (hx 4).trans fr.t4
  have e5 := (hx 5).trans fr.t5
  have e6 := (hx 6).trans fr.t6
  have e7 := (hx 7).trans fr.t7
  have e44 := (hx 44).trans fr.t44
  have ed : df = [] := fr.defs
  clear fr hx
  subst ex
  subst ed
  rw [e0, e3, e4, e5, e6, e7, e44]
  clear e0 e3 e4 e5 e6 e7 e44
  obtain ⟨Q, hQ⟩ : ∃ Q, Q = MidQ w0 v0 hb rb k db d := ⟨_, rfl⟩
  rw [← hQ]
  have hN : ∀ a w, MidD w0 v0 hb rb k db d a w → Q .normal a w := fun a w h => by rw [hQ]; exact h
  have hX : ∀ a w, Next w0 v0 hb rb k a w → Q (.exit 1) a w := fun a w h => by rw [hQ]; exact h
  have HQP : Hid (∀ c a d v w, Q (.panic c) (Act.put a d v) w → Q (.panic c) a w) := Lib.hid fun c a d v w h => by rw [hQ] at h; exact h.elim
  have HN := Lib.hid hN
  have HX := Lib.hid hX
  have HG := Lib.hid good
  have HE := Lib.hid err
  have HLow := Lib.hid low
  obtain ⟨dw, da, dB, dn, dk, dv, dfx⟩ := d
  obtain ⟨q0, q1, q2, q3, q4, q5, q6⟩ := d_cells duo.dBlk
  obtain ⟨p0, p1, p2⟩ := v_cells duo.vBlk
  have HD := Lib.hid duo
  dsimp only at q0 q1 q2 q3 q4 q5 q6 p0 p1 p2 nm
  clear hQ hN hX duo good err low
  have HL := Lib.hid (good_lens HG.out (by omega))
  have HU := Lib.hid (good_uniqs HG.out (by omega))
  conv => arg 2; whnf
  go_wp2_with fail
  refine wp_region_plan [(true, 0), (true, 1), (true, 2), (true, 3), (true, 4), (true, 6), (true, 7), (true, 8), (true, 9), (true, 10), (true, 11), (true, 12), (false, 5)] [13, 14, 15] (fun W => W.cell? ⟨db, 1, none⟩ = some (.int .i64 da) ∧ W.cell? ⟨db, 3, none⟩ = some (.string dn) ∧ W.cell? ⟨db, 4, none⟩ = some (.int .i64 dk) ∧ W.cell? ⟨db, 5, none⟩ = some (.int .i64 dv) ∧ W.cell? ⟨db, 6, none⟩ = some (.bool dfx) ∧ W.cell? ⟨vb, 0, none⟩ = some (.int .i64 3) ∧ W.cell? ⟨vb, 1, none⟩ = some (.int .i64 dv) ∧ W.cell? ⟨vb, 2, none⟩ = some (.string ⟨#[]⟩)) (by kernel_rfl) (by kernel_rfl) (fun c a d v w h => HQP.out c a d v w h) ⟨q1, q3, q4, q5, q6, p0, p1, p2⟩ (fun hS0 => ?_)
  simp only [planOps, List.filterMap_cons, List.filterMap_nil, List.getElem?_toArray, List.getElem?_cons_zero, List.getElem?_cons_succ, Option.map_some]
  iterate 12
    first
      | (refine wpPlan_take ?_ (by rfl) (fun w' hS' => ?_) ?_; rotate_left; (obtain ⟨s0, s1, s2, s3, s4, s5, s6, s7⟩ := hS'; go_simp; first | done | with_reducible rfl); simp only [Act.put, List.setIfInBounds_toArray, List.set_cons_zero, List.set_cons_succ])
      | (refine wpPlan_skip (by rfl) ?_; simp only [Act.put, List.setIfInBounds_toArray, List.set_cons_zero, List.set_cons_succ])
  have HD1 := Lib.hid HD.out.drew
  refine wpPlan_go (fun K hK => ?_)
  go_simp
  refine (HD1.out.heap (fun ρ L hh => write_any hh da dn ⟨3, dv, ⟨#[]⟩⟩ HL.out.1)).mono ?_
  rintro e w1 ⟨rfl, hD2⟩
  obtain ⟨q0', q1', q2', q3', q4', q5', q6'⟩ := d_cells (hD2.get (p := (db, (⟨dw, da, dB, dn, dk, dv, dfx⟩ : DoRec).obj)) (by simp))
  obtain ⟨p0', p1', p2'⟩ := v_cells (hD2.get (p := (vb, vObj dv)) (by simp))
  dsimp only at q0' q1' q2' q3' q4' q5' q6' p0' p1' p2'
  have HD2 := Lib.hid hD2
  clear hD2
  refine hK _ _ ⟨q1', q3', q4', q5', q6', p0', p1', p2'⟩ ?_
  clear hK K
  try simp only [Act.put, List.setIfInBounds_toArray, List.set_cons_zero, List.set_cons_succ]
  refine wpPlan_end ?_
  go_wp2_with fail
  refine (HD2.out.ref (fun V hh => rwrite_any hh da dn ⟨3, dv, ⟨#[]⟩⟩ HL.out.1)).mono ?_
  rintro e w2 ⟨rfl, hD3⟩
  have HD3 := Lib.hid hD3
  clear hD3
  go_wp2_with fail
  refine (bare_ok w2 _ (HD3.out.err HE.out)).mono ?_
  rintro e w3 ⟨rfl, hB3⟩
  have HD4 := Lib.hid (HD3.out.below hB3)
  clear hB3
  go_wp2
  refine HN.out _ _ ⟨⟨⟨rfl, rfl, rfl, rfl, rfl, rfl⟩, rfl⟩, (H.write da dn ⟨3, dv, ⟨#[]⟩⟩).1, dk, ?_, HG.out.write da ⟨rfl, rfl⟩ nm⟩
  exact HD4.out.weak (fun p hp => by simp at hp; subst hp; simp)
end
end Go.Proofs.YtfanolcjgaccpaaDoor

namespace Go.Proofs.YtfanolcjgaccpaaDoor
open Go Go.RowKit
set_option maxRecDepth 1000000
set_option linter.unusedVariables false
section
variable {w0 w : World} {v0 : Value} {hb rb k db vb : Nat} {d : DoRec} {H : LHeap} {a : Act}
set_option maxHeartbeats 20000000 in
theorem hp6_any (h : PreD w0 v0 hb rb k db vb d H a w) : (hpAt [1, 1, 1, 1, 0, 1, 0, 0, 1, 0, 0, 1, 1, 1, 0, 1, 0, 1, 1, 1, 1, 1, 1, 1, 1, 1, 1, 1, 1, 1, 0]).wp Tryd.prog (MidQ w0 v0 hb rb k db d) a w := by
  obtain ⟨fr, duo, good, err, low, nm, k80⟩ := h
  obtain ⟨tm, df⟩ := a
  obtain ⟨x, ex, hx⟩ := lit470 tm fr.size
  have e0 := (hx 0).trans fr.t0
  have e3 := (hx 3).trans fr.t3
  have e4 := (hx 4).trans fr.t4
  have e5 := (hx 5).trans fr.t5
  have e6 := (hx 6).trans fr.t6
  have e7 := (hx 7).trans fr.t7
  have e44 := (hx 44).trans fr.t44
  have ed : df = [] := fr.defs
  clear fr hx
  subst ex
  subst ed
  rw [e0, e3, e4, e5, e6, e7, e44]
  clear e0 e3 e4 e5 e6 e7 e44
  obtain ⟨Q, hQ⟩ : ∃ Q, Q = MidQ w0 v0 hb rb k db d := ⟨_, rfl⟩
  rw [← hQ]
  have hN : ∀ a w, MidD w0 v0 hb rb k db d a w → Q .normal a w := fun a w h => by rw [hQ]; exact h
  have hX : ∀ a w, Next w0 v0 hb rb k a w → Q (.exit 1) a w := fun a w h => by rw [hQ]; exact h
  have HQP : Hid (∀ c a d v w, Q (.panic c) (Act.put a d v) w → Q (.panic c) a w) := Lib.hid fun c a d v w h => by rw [hQ] at h; exact h.elim
  have HN := Lib.hid hN
  have HX := Lib.hid hX
  have HG := Lib.hid good
  have HE := Lib.hid err
  have HLow := Lib.hid low
  obtain ⟨dw, da, dB, dn, dk, dv, dfx⟩ := d
  obtain ⟨q0, q1, q2, q3, q4, q5, q6⟩ := d_cells duo.dBlk
  obtain ⟨p0, p1, p2⟩ := v_cells duo.vBlk
  have HD := Lib.hid duo
  dsimp only at q0 q1 q2 q3 q4 q5 q6 p0 p1 p2 nm
  clear hQ hN hX duo good err low
  have HL := Lib.hid (good_lens HG.out (by omega))
  have HU := Lib.hid (good_uniqs HG.out (by omega))
  conv => arg 2; whnf
  go_wp2_with fail
  refine wp_region_plan [(true, 0), (true, 1), (true, 2), (true, 3), (true, 4), (true, 6), (true, 7), (true, 8), (true, 9), (true, 10), (true, 11), (true, 12), (false, 5)] [13, 14, 15] (fun W => W.cell? ⟨db, 1, none⟩ = some (.int .i64 da) ∧ W.cell? ⟨db, 3, none⟩ = some (.string dn) ∧ W.cell? ⟨db, 4, none⟩ = some (.int .i64 dk) ∧ W.cell? ⟨db, 5, none⟩ = some (.int .i64 dv) ∧ W.cell? ⟨db, 6, none⟩ = some (.bool dfx) ∧ W.cell? ⟨vb, 0, none⟩ = some (.int .i64 3) ∧ W.cell? ⟨vb, 1, none⟩ = some (.int .i64 dv) ∧ W.cell? ⟨vb, 2, none⟩ = some (.string ⟨#[]⟩)) (by kernel_rfl) (by kernel_rfl) (fun c a d v w h => HQP.out c a d v w h) ⟨q1, q3, q4, q5, q6, p0, p1, p2⟩ (fun hS0 => ?_)
  simp only [planOps, List.filterMap_cons, List.filterMap_nil, List.getElem?_toArray, List.getElem?_cons_zero, List.getElem?_cons_succ, Option.map_some]
  iterate 12
    first
      | (refine wpPlan_take ?_ (by rfl) (fun w' hS' => ?_) ?_; rotate_left; (obtain ⟨s0, s1, s2, s3, s4, s5, s6, s7⟩ := hS'; go_simp; first | done | with_reducible rfl); simp only [Act.put, List.setIfInBounds_toArray, List.set_cons_zero, List.set_cons_succ])
      | (refine wpPlan_skip (by rfl) ?_; simp only [Act.put, List.setIfInBounds_toArray, List.set_cons_zero, List.set_cons_succ])
  have HD1 := Lib.hid HD.out.drew
  refine wpPlan_go (fun K hK => ?_)
  go_simp
  refine (HD1.out.heap (fun ρ L hh => start_any hh da dn ⟨3, dv, ⟨#[]⟩⟩)).mono ?_
  rintro e w1 ⟨rfl, hD2⟩
  obtain ⟨q0', q1', q2', q3', q4', q5', q6'⟩ := d_cells (hD2.get (p := (db, (⟨dw, da, dB, dn, dk, dv, dfx⟩ : DoRec).obj)) (by simp))
  obtain ⟨p0', p1', p2'⟩ := v_cells (hD2.get (p := (vb, vObj dv)) (by simp))
  dsimp only at q0' q1' q2' q3' q4' q5' q6' p0' p1' p2'
  have HD2 := Lib.hid hD2
  clear hD2
  refine hK _ _ ⟨q1', q3', q4', q5', q6', p0', p1', p2'⟩ ?_
  clear hK K
  try simp only [Act.put, List.setIfInBounds_toArray, List.set_cons_zero, List.set_cons_succ]
  refine wpPlan_end ?_
  go_wp2_with fail
  refine (HD2.out.ref (fun V hh => rstart_any hh da dn ⟨3, dv, ⟨#[]⟩⟩)).mono ?_
  rintro e w2 ⟨rfl, hD3⟩
  have HD3 := Lib.hid hD3
  clear hD3
  go_wp2_with fail
  refine (bare_ok w2 _ (HD3.out.err HE.out)).mono ?_
  rintro e w3 ⟨rfl, hB3⟩
  have HD4 := Lib.hid (HD3.out.below hB3)
  clear hB3
  go_wp2
  refine HN.out _ _ ⟨⟨⟨rfl, rfl, rfl, rfl, rfl, rfl⟩, rfl⟩, (H.start da dn ⟨3, dv, ⟨#[]⟩⟩).1, dk, ?_, HG.out.start da dn ⟨rfl, rfl⟩⟩
  exact HD4.out.weak (fun p hp => by simp at hp; subst hp; simp)
end
end Go.Proofs.YtfanolcjgaccpaaDoor

namespace Go.Proofs.YtfanolcjgaccpaaDoor
open Go Go.RowKit
set_option maxRecDepth 1000000
set_option linter.unusedVariables false
section
variable {w0 w : World} {v0 : Value} {hb rb k db vb : Nat} {d : DoRec} {H : LHeap} {a : Act}
set_option maxHeartbeats 20000000 in
theorem hp7_any (h : PreD w0 v0 hb rb k db vb d H a w) : (hpAt [1, 1, 1, 1, 0, 1, 0, 0, 1, 0, 0, 1, 1, 1, 0, 1, 0, 1, 1, 1, 1, 1, 1, 1, 1, 1, 1, 1, 1, 1, 1, 1, 0]).wp Tryd.prog (MidQ w0 v0 hb rb k db d) a w := by
  obtain ⟨fr, duo, good, err, low, nm, k80⟩ := h
  obtain ⟨tm, df⟩ := a
  obtain ⟨x, ex, hx⟩ := lit470 tm fr.size
  have e0 := (hx 0).trans fr.t0
  have e3 := (hx 3).trans fr.t3
  have e4 := (hx 4).trans fr.t4
  have e5 := (hx 5).trans fr.t5
  have e6 := (hx 6).trans fr.t6
  have e7 := (hx 7).trans fr.t7
  have e44 := (hx 44).trans fr.t44
  have ed : df = [] := fr.defs
  clear fr hx
  subst ex
  subst ed
  rw [e0, e3, e4, e5, e6, e7, e44]
  clear e0 e3 e4 e5 e6 e7 e44
  obtain ⟨Q, hQ⟩ : ∃ Q, Q = MidQ w0 v0 hb rb k db d := ⟨_, rfl⟩
  rw [← hQ]
  have hN : ∀ a w, MidD w0 v0 hb rb k db d a w → Q .normal a w := fun a w h => by rw [hQ]; exact h
  have hX : ∀ a w, Next w0 v0 hb rb k a w → Q (.exit 1) a w := fun a w h => by rw [hQ]; exact h
  have HQP : Hid (∀ c a d v w, Q (.panic c) (Act.put a d v) w → Q (.panic c) a w) := Lib.hid fun c a d v w h => by rw [hQ] at h; exact h.elim
  have HN := Lib.hid hN
  have HX := Lib.hid hX
  have HG := Lib.hid good
  have HE := Lib.hid err
  have HLow := Lib.hid low
  obtain ⟨dw, da, dB, dn, dk, dv, dfx⟩ := d
  obtain ⟨q0, q1, q2, q3, q4, q5, q6⟩ := d_cells duo.dBlk
  obtain ⟨p0, p1, p2⟩ := v_cells duo.vBlk
  have HD := Lib.hid duo
  dsimp only at q0 q1 q2 q3 q4 q5 q6 p0 p1 p2 nm
  clear hQ hN hX duo good err low
  have HL := Lib.hid (good_lens HG.out (by omega))
  have HU := Lib.hid (good_uniqs HG.out (by omega))
  conv => arg 2; whnf
  go_wp2_with fail
  refine wp_region_plan [(true, 0), (true, 1), (true, 2), (true, 3), (true, 5), (true, 6), (true, 7), (true, 8), (true, 9), (false, 4)] [10, 11] (fun W => W.cell? ⟨db, 1, none⟩ = some (.int .i64 da) ∧ W.cell? ⟨db, 3, none⟩ = some (.string dn) ∧ W.cell? ⟨db, 4, none⟩ = some (.int .i64 dk) ∧ W.cell? ⟨db, 5, none⟩ = some (.int .i64 dv) ∧ W.cell? ⟨db, 6, none⟩ = some (.bool dfx) ∧ W.cell? ⟨vb, 0, none⟩ = some (.int .i64 3) ∧ W.cell? ⟨vb, 1, none⟩ = some (.int .i64 dv) ∧ W.cell? ⟨vb, 2, none⟩ = some (.string ⟨#[]⟩)) (by kernel_rfl) (by kernel_rfl) (fun c a d v w h => HQP.out c a d v w h) ⟨q1, q3, q4, q5, q6, p0, p1, p2⟩ (fun hS0 => ?_)
  simp only [planOps, List.filterMap_cons, List.filterMap_nil, List.getElem?_toArray, List.getElem?_cons_zero, List.getElem?_cons_succ, Option.map_some]
  iterate 9
    first
      | (refine wpPlan_take ?_ (by rfl) (fun w' hS' => ?_) ?_; rotate_left; (obtain ⟨s0, s1, s2, s3, s4, s5, s6, s7⟩ := hS'; go_simp; first | done | with_reducible rfl); simp only [Act.put, List.setIfInBounds_toArray, List.set_cons_zero, List.set_cons_succ])
      | (refine wpPlan_skip (by rfl) ?_; simp only [Act.put, List.setIfInBounds_toArray, List.set_cons_zero, List.set_cons_succ])
  have HD1 := Lib.hid HD.out.drew
  refine wpPlan_go (fun K hK => ?_)
  go_simp
  refine (HD1.out.heap (fun ρ L hh => drop_any hh da dn)).mono ?_
  rintro e w1 ⟨rfl, hD2⟩
  obtain ⟨q0', q1', q2', q3', q4', q5', q6'⟩ := d_cells (hD2.get (p := (db, (⟨dw, da, dB, dn, dk, dv, dfx⟩ : DoRec).obj)) (by simp))
  obtain ⟨p0', p1', p2'⟩ := v_cells (hD2.get (p := (vb, vObj dv)) (by simp))
  dsimp only at q0' q1' q2' q3' q4' q5' q6' p0' p1' p2'
  have HD2 := Lib.hid hD2
  clear hD2
  refine hK _ _ ⟨q1', q3', q4', q5', q6', p0', p1', p2'⟩ ?_
  clear hK K
  try simp only [Act.put, List.setIfInBounds_toArray, List.set_cons_zero, List.set_cons_succ]
  refine wpPlan_end ?_
  go_wp2_with fail
  refine (HD2.out.ref (fun V hh => rdrop_any hh da dn HU.out.1 HU.out.2)).mono ?_
  rintro e w2 ⟨rfl, hD3⟩
  have HD3 := Lib.hid hD3
  clear hD3
  have HD4 := HD3
  go_wp2
  refine HN.out _ _ ⟨⟨⟨rfl, rfl, rfl, rfl, rfl, rfl⟩, rfl⟩, (H.drop da dn).1, dk, ?_, HG.out.drop da dn⟩
  exact HD4.out.weak (fun p hp => by simp at hp; subst hp; simp)
end
end Go.Proofs.YtfanolcjgaccpaaDoor

namespace Go.Proofs.YtfanolcjgaccpaaDoor
open Go Go.RowKit
set_option maxRecDepth 1000000
set_option linter.unusedVariables false
section
variable {w0 w : World} {v0 : Value} {hb rb k db vb : Nat} {d : DoRec} {H : LHeap} {a : Act}
set_option maxHeartbeats 20000000 in
theorem hp8_any (h : PreD w0 v0 hb rb k db vb d H a w) : (hpAt [1, 1, 1, 1, 0, 1, 0, 0, 1, 0, 0, 1, 1, 1, 0, 1, 0, 1, 1, 1, 1, 1, 1, 1, 1, 1, 1, 1, 1, 1, 1, 1, 1, 1, 0]).wp Tryd.prog (MidQ w0 v0 hb rb k db d) a w := by
  obtain ⟨fr, duo, good, err, low, nm, k80⟩ := h
  obtain ⟨tm, df⟩ := a
  obtain ⟨x, ex, hx⟩ := lit470 tm fr.size
  have e0 := (hx 0).trans fr.t0
  have e3 := (hx 3).trans fr.t3
  have e4 := (hx 4).trans fr.t4
  have e5 := (hx 5).trans fr.t5
  have e6 := (hx 6).trans fr.t6
  have e7 := (hx 7).trans fr.t7
  have e44 := (hx 44).trans fr.t44
  have ed : df = [] := fr.defs
  clear fr hx
  subst ex
  subst ed
  rw [e0, e3, e4, e5, e6, e7, e44]
  clear e0 e3 e4 e5 e6 e7 e44
  obtain ⟨Q, hQ⟩ : ∃ Q, Q = MidQ w0 v0 hb rb k db d := ⟨_, rfl⟩
  rw [← hQ]
  have hN : ∀ a w, MidD w0 v0 hb rb k db d a w → Q .normal a w := fun a w h => by rw [hQ]; exact h
  have hX : ∀ a w, Next w0 v0 hb rb k a w → Q (.exit 1) a w := fun a w h => by rw [hQ]; exact h
  have HQP : Hid (∀ c a d v w, Q (.panic c) (Act.put a d v) w → Q (.panic c) a w) := Lib.hid fun c a d v w h => by rw [hQ] at h; exact h.elim
  have HN := Lib.hid hN
  have HX := Lib.hid hX
  have HG := Lib.hid good
  have HE := Lib.hid err
  have HLow := Lib.hid low
  obtain ⟨dw, da, dB, dn, dk, dv, dfx⟩ := d
  obtain ⟨q0, q1, q2, q3, q4, q5, q6⟩ := d_cells duo.dBlk
  obtain ⟨p0, p1, p2⟩ := v_cells duo.vBlk
  have HD := Lib.hid duo
  dsimp only at q0 q1 q2 q3 q4 q5 q6 p0 p1 p2 nm
  clear hQ hN hX duo good err low
  have hok := HG.out.read_ok da dn
  have hr1 := fun ρ L (hh : HeapAt ρ w hb 0 L H) => read_any hh da dn
  have hr2 := fun w1 V (hh : RAt w1 rb V H) => rread_any hh da dn
  generalize H.read da dn = r at *
  obtain ⟨⟨rk, rn, rs⟩, rc⟩ := r
  dsimp only [LVal.agg] at hok hr1 hr2
  have hbr := fun w1 (hg : ErrType w1) => bare_ok w1 rc hg
  obtain ⟨ev, hev⟩ : ∃ ev, ev = errV rc := ⟨_, rfl⟩
  rw [← hev] at hr1 hbr
  have HR1 := Lib.hid hr1
  have HR2 := Lib.hid hr2
  have HBR := Lib.hid hbr
  clear hr1 hr2 hbr hev
  conv => arg 2; whnf
  by_cases hc : rc = 0
  · have h3 := hok.1 hc
    subst h3
    subst hc
    clear hok
    go_wp2_with fail
    refine (HD.out.readH (P := fun e _ => e = .returned (.tuple #[.agg #[.int .i64 3, .int .i64 rn, .string rs], ev])) (fun ρ L hh => HR1.out ρ L hh)).mono ?_
    rintro e w1 ⟨rfl, _, hD2⟩
    obtain ⟨q0', q1', q2', q3', q4', q5', q6'⟩ := d_cells (hD2.get (p := (db, (⟨dw, da, dB, dn, dk, dv, dfx⟩ : DoRec).obj)) (by simp))
    dsimp only at q0' q1' q2' q3' q4' q5' q6'
    have hD3 := hD2.alloc (.cells #[.int .i64 3, .int .i64 rn, .string rs] 36)
    obtain ⟨q0', q1', q2', q3', q4', q5', q6'⟩ := d_cells (hD3.get (p := (db, (⟨dw, da, dB, dn, dk, dv, dfx⟩ : DoRec).obj)) (by simp))
    dsimp only at q0' q1' q2' q3' q4' q5' q6'
    have hx0 := hD3.get (p := (w1.heap.size, .cells #[.int .i64 3, .int .i64 rn, .string rs] 36)) (by simp)
    have HD3 := Lib.hid hD3
    clear hD2 hD3 hx0
    go_wp2_with fail
    refine (HD3.out.readR (P := fun e _ => e = .returned (.tuple #[.int .i64 rn, .int .i64 0])) (fun V hh => HR2.out _ V hh)).mono ?_
    rintro e w2 ⟨rfl, hB, hD4⟩
    have hx := hD4.get (p := (w1.heap.size, .cells #[.int .i64 3, .int .i64 rn, .string rs] 36)) (by simp)
    dsimp only at hx
    have x0 : w2.cell? ⟨w1.heap.size, 0, none⟩ = some (.int .i64 3) := by simp [World.cell?, hx]
    have x1 : w2.cell? ⟨w1.heap.size, 1, none⟩ = some (.int .i64 rn) := by simp [World.cell?, hx]
    have x2 : w2.cell? ⟨w1.heap.size, 2, none⟩ = some (.string rs) := by simp [World.cell?, hx]
    have HD4 := Lib.hid hD4
    have HB2 := Lib.hid (HBR.out w2 (HD4.out.err HE.out))
    clear hD4 hB hx
    go_wp2_with fail
    refine HB2.out.mono ?_
    rintro e w3 ⟨rfl, hB3⟩
    have hD5 := HD4.out.below hB3
    have hx := hD5.get (p := (w1.heap.size, .cells #[.int .i64 3, .int .i64 rn, .string rs] 36)) (by simp)
    dsimp only at hx
    have y0 : w3.cell? ⟨w1.heap.size, 0, none⟩ = some (.int .i64 3) := by simp [World.cell?, hx]
    have y1 : w3.cell? ⟨w1.heap.size, 1, none⟩ = some (.int .i64 rn) := by simp [World.cell?, hx]
    have y2 : w3.cell? ⟨w1.heap.size, 2, none⟩ = some (.string rs) := by simp [World.cell?, hx]
    have HD5 := Lib.hid hD5
    clear hB3 hD5 hx
    go_wp2
    refine HN.out _ _ ⟨⟨⟨rfl, rfl, rfl, rfl, rfl, rfl⟩, rfl⟩, H, dk, ?_, HG.out.next⟩
    exact HD5.out.weak (fun p hp => by simp at hp; subst hp; simp)
  · have h3 := hok.2 hc
    simp only [LVal.zero, LVal.mk.injEq] at h3
    obtain ⟨rfl, rfl, rfl⟩ := h3
    have hc1 : (rc == 0) = false := by simpa using hc
    have hc2 : (rc != 0) = true := by simpa using hc
    clear hok
    go_wp2_with fail
    refine (HD.out.readH (P := fun e _ => e = .returned (.tuple #[.agg #[.int .i64 0, .int .i64 0, .string ⟨#[]⟩], ev])) (fun ρ L hh => HR1.out ρ L hh)).mono ?_
    rintro e w1 ⟨rfl, _, hD2⟩
    obtain ⟨q0', q1', q2', q3', q4', q5', q6'⟩ := d_cells (hD2.get (p := (db, (⟨dw, da, dB, dn, dk, dv, dfx⟩ : DoRec).obj)) (by simp))
    dsimp only at q0' q1' q2' q3' q4' q5' q6'
    have hD3 := hD2.alloc (.cells #[.int .i64 0, .int .i64 0, .string ⟨#[]⟩] 36)
    obtain ⟨q0', q1', q2', q3', q4', q5', q6'⟩ := d_cells (hD3.get (p := (db, (⟨dw, da, dB, dn, dk, dv, dfx⟩ : DoRec).obj)) (by simp))
    dsimp only at q0' q1' q2' q3' q4' q5' q6'
    have hx0 := hD3.get (p := (w1.heap.size, .cells #[.int .i64 0, .int .i64 0, .string ⟨#[]⟩] 36)) (by simp)
    have HD3 := Lib.hid hD3
    clear hD2 hD3 hx0
    go_wp2_with fail
    refine (HD3.out.readR (P := fun e _ => e = .returned (.tuple #[.int .i64 0, .int .i64 rc])) (fun V hh => HR2.out _ V hh)).mono ?_
    rintro e w2 ⟨rfl, hB, hD4⟩
    have hx := hD4.get (p := (w1.heap.size, .cells #[.int .i64 0, .int .i64 0, .string ⟨#[]⟩] 36)) (by simp)
    dsimp only at hx
    have x0 : w2.cell? ⟨w1.heap.size, 0, none⟩ = some (.int .i64 0) := by simp [World.cell?, hx]
    have x1 : w2.cell? ⟨w1.heap.size, 1, none⟩ = some (.int .i64 0) := by simp [World.cell?, hx]
    have x2 : w2.cell? ⟨w1.heap.size, 2, none⟩ = some (.string ⟨#[]⟩) := by simp [World.cell?, hx]
    have HD4 := Lib.hid hD4
    have HB2 := Lib.hid (HBR.out w2 (HD4.out.err HE.out))
    clear hD4 hB hx
    go_wp2_with fail
    refine HB2.out.mono ?_
    rintro e w3 ⟨rfl, hB3⟩
    have hD5 := HD4.out.below hB3
    have hx := hD5.get (p := (w1.heap.size, .cells #[.int .i64 0, .int .i64 0, .string ⟨#[]⟩] 36)) (by simp)
    dsimp only at hx
    have y0 : w3.cell? ⟨w1.heap.size, 0, none⟩ = some (.int .i64 0) := by simp [World.cell?, hx]
    have y1 : w3.cell? ⟨w1.heap.size, 1, none⟩ = some (.int .i64 0) := by simp [World.cell?, hx]
    have y2 : w3.cell? ⟨w1.heap.size, 2, none⟩ = some (.string ⟨#[]⟩) := by simp [World.cell?, hx]
    have HD5 := Lib.hid hD5
    clear hB3 hD5 hx
    go_wp2
    refine HN.out _ _ ⟨⟨⟨rfl, rfl, rfl, rfl, rfl, rfl⟩, rfl⟩, H, dk, ?_, HG.out.next⟩
    exact HD5.out.weak (fun p hp => by simp at hp; subst hp; simp)
end
end Go.Proofs.YtfanolcjgaccpaaDoor

namespace Go.Proofs.YtfanolcjgaccpaaDoor
open Go Go.RowKit
set_option maxRecDepth 1000000
set_option linter.unusedVariables false
section
variable {w0 w : World} {v0 : Value} {hb rb k db vb : Nat} {d : DoRec} {H : LHeap} {a : Act}
set_option maxHeartbeats 20000000 in
theorem hp9_any (h : PreD w0 v0 hb rb k db vb d H a w) : (hpAt [1, 1, 1, 1, 0, 1, 0, 0, 1, 0, 0, 1, 1, 1, 0, 1, 0, 1, 1, 1, 1, 1, 1, 1, 1, 1, 1, 1, 1, 1, 1, 1, 1, 1, 1]).wp Tryd.prog (MidQ w0 v0 hb rb k db d) a w := by
  obtain ⟨fr, duo, good, err, low, nm, k80⟩ := h
  obtain ⟨tm, df⟩ := a
  obtain ⟨x, ex, hx⟩ := lit470 tm fr.size
  have e0 := (hx 0).trans fr.t0
  have e3 := (hx 3).trans fr.t3
  have e4 := (hx 4).trans fr.t4
  have e5 := (hx 5).trans fr.t5
  have e6 := (hx 6).trans fr.t6
  have e7 := (hx 7).trans fr.t7
  have e44 := (hx 44).trans fr.t44
  have ed : df = [] := fr.defs
  clear fr hx
  subst ex
  subst ed
  rw [e0, e3, e4, e5, e6, e7, e44]
  clear e0 e3 e4 e5 e6 e7 e44
  obtain ⟨Q, hQ⟩ : ∃ Q, Q = MidQ w0 v0 hb rb k db d := ⟨_, rfl⟩
  rw [← hQ]
  have hN : ∀ a w, MidD w0 v0 hb rb k db d a w → Q .normal a w := fun a w h => by rw [hQ]; exact h
  have hX : ∀ a w, Next w0 v0 hb rb k a w → Q (.exit 1) a w := fun a w h => by rw [hQ]; exact h
  have HQP : Hid (∀ c a d v w, Q (.panic c) (Act.put a d v) w → Q (.panic c) a w) := Lib.hid fun c a d v w h => by rw [hQ] at h; exact h.elim
  have HN := Lib.hid hN
  have HX := Lib.hid hX
  have HG := Lib.hid good
  have HE := Lib.hid err
  have HLow := Lib.hid low
  obtain ⟨dw, da, dB, dn, dk, dv, dfx⟩ := d
  obtain ⟨q0, q1, q2, q3, q4, q5, q6⟩ := d_cells duo.dBlk
  obtain ⟨p0, p1, p2⟩ := v_cells duo.vBlk
  have HD := Lib.hid duo
  dsimp only at q0 q1 q2 q3 q4 q5 q6 p0 p1 p2 nm
  clear hQ hN hX duo good err low
  have HW := Lib.hid HG.out.wf
  conv => arg 2; whnf
  go_wp2_with fail
  refine wp_region_plan [(true, 0), (true, 1), (true, 2), (true, 3), (true, 5), (true, 6), (true, 7), (true, 8), (true, 9), (false, 4)] [10, 11] (fun W => W.cell? ⟨db, 1, none⟩ = some (.int .i64 da) ∧ W.cell? ⟨db, 3, none⟩ = some (.string dn)) (by kernel_rfl) (by kernel_rfl) (fun c a d v w h => HQP.out c a d v w h) ⟨q1, q3⟩ (fun hS0 => ?_)
  simp only [planOps, List.filterMap_cons, List.filterMap_nil, List.getElem?_toArray, List.getElem?_cons_zero, List.getElem?_cons_succ, Option.map_some]
  iterate 9
    first
      | (refine wpPlan_take ?_ (by rfl) (fun w' hS' => ?_) ?_; rotate_left; (obtain ⟨s0, s1⟩ := hS'; go_simp; first | done | with_reducible rfl); simp only [Act.put, List.setIfInBounds_toArray, List.set_cons_zero, List.set_cons_succ])
      | (refine wpPlan_skip (by rfl) ?_; simp only [Act.put, List.setIfInBounds_toArray, List.set_cons_zero, List.set_cons_succ])
  have HD1 := Lib.hid HD.out.drew
  refine wpPlan_go (fun K hK => ?_)
  go_simp
  refine (HD1.out.readH (P := fun e _ => e = .returned (.int .i64 (H.find da dn))) (fun ρ L hh => find_at hh HW.out da dn)).mono ?_
  rintro e w1 ⟨rfl, _, hD2⟩
  obtain ⟨q0', q1', q2', q3', q4', q5', q6'⟩ := d_cells (hD2.get (p := (db, (⟨dw, da, dB, dn, dk, dv, dfx⟩ : DoRec).obj)) (by simp))
  obtain ⟨p0', p1', p2'⟩ := v_cells (hD2.get (p := (vb, vObj dv)) (by simp))
  dsimp only at q0' q1' q2' q3' q4' q5' q6' p0' p1' p2'
  have HD2 := Lib.hid hD2
  clear hD2
  refine hK _ _ ⟨q1', q3'⟩ ?_
  clear hK K
  try simp only [Act.put, List.setIfInBounds_toArray, List.set_cons_zero, List.set_cons_succ]
  refine wpPlan_end ?_
  go_wp2_with fail
  refine (HD2.out.readR (P := fun e _ => e = .returned (.int .i64 (H.find da dn))) (fun V hh => rfind_any hh HW.out da dn)).mono ?_
  rintro e w2 ⟨rfl, _, hD3⟩
  have HD4 := Lib.hid hD3
  clear hD3
  go_wp2
  refine HN.out _ _ ⟨⟨⟨rfl, rfl, rfl, rfl, rfl, rfl⟩, rfl⟩, H, dk, ?_, HG.out.next⟩
  exact HD4.out.weak (fun p hp => by simp at hp; subst hp; simp)
end
end Go.Proofs.YtfanolcjgaccpaaDoor
