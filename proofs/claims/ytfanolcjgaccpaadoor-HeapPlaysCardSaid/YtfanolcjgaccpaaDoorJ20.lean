/- HeapPlays, a piece: Scope. -/
import Derived.Test.YtfanolcjgaccpaaDoorJ17
namespace Go.Proofs.YtfanolcjgaccpaaDoor
open Go Go.RowKit
set_option maxRecDepth 1000000
set_option linter.unusedVariables false
section
variable {w0 w : World} {v0 : Value} {hb rb k db vb : Nat} {d : DoRec} {H : LHeap} {a : Act}
set_option maxHeartbeats 20000000 in
theorem hp1_any (h : PreD w0 v0 hb rb k db vb d H a w) : (hpAt [1, 1, 1, 1, 0, 1, 0, 0, 1, 0, 0, 1, 1, 1, 0, 1, 0, 1, 1, 1, 0]).wp Tryd.prog (MidQ w0 v0 hb rb k db d) a w := by
  obtain ⟨fr, duo, good, err, low, nm, k80⟩ := h
  obtain ⟨tm, df⟩ := a
  obtain ⟨x, ex, hx⟩ := lit470 tm fr.size
  have e0 := (hx 0).trans fr.t0
  have e3 := (hx 3).trans fr.t3
  have e4 := (hx 4).trans fr.t4
  have e5 := (hx 5).trans fr.t5
  have e6 := (hx 6).trans fr.t6
  have e7 := (hx 7).trans fr.t7
  have e44 := (hx 44).trans fr.t44
  have ed : df = [] := fr.defs
  clear fr hx
  subst ex
  subst ed
  rw [e0, e3, e4, e5, e6, e7, e44]
  clear e0 e3 e4 e5 e6 e7 e44
  obtain ⟨Q, hQ⟩ : ∃ Q, Q = MidQ w0 v0 hb rb k db d := ⟨_, rfl⟩
  rw [← hQ]
  have hN : ∀ a w, MidD w0 v0 hb rb k db d a w → Q .normal a w := fun a w h => by rw [hQ]; exact h
  have hX : ∀ a w, Next w0 v0 hb rb k a w → Q (.exit 1) a w := fun a w h => by rw [hQ]; exact h
  have HQP : Hid (∀ c a d v w, Q (.panic c) (Act.put a d v) w → Q (.panic c) a w) := Lib.hid fun c a d v w h => by rw [hQ] at h; exact h.elim
  have HN := Lib.hid hN
  have HX := Lib.hid hX
  have HG := Lib.hid good
  have HE := Lib.hid err
  have HLow := Lib.hid low
  obtain ⟨dw, dA, dB, dn, dk, dv, dfx⟩ := d
  obtain ⟨q0, q1, q2, q3, q4, q5, q6⟩ := d_cells duo.dBlk
  obtain ⟨p0, p1, p2⟩ := v_cells duo.vBlk
  obtain ⟨V, duo⟩ := duo.toV
  have HD := Lib.hid duo
  dsimp only at q0 q1 q2 q3 q4 q5 q6 p0 p1 p2 nm
  clear hQ hN hX duo good err low
  have hr := HD.out.r
  obtain ⟨a0, c0, e0⟩ := ownsRow_slice hr.rowC
  obtain ⟨a2, c2, e2, hx2⟩ := ownsRow_any hr.rowR
  have r0 := hr.cellC
  have r2 := hr.cellR
  rw [e0] at r0
  rw [e2] at r2
  obtain ⟨nC, hnC⟩ : ∃ n, n = H.objects.length := ⟨_, rfl⟩
  obtain ⟨nR, hnR⟩ : ∃ n, n = H.scopes.length := ⟨_, rfl⟩
  have hnR80 : nR ≤ k := by rw [hnR]; exact HG.out.ns
  rw [← hnC] at r0
  rw [← hnR] at r2 e2
  have HNC := Lib.hid hnC
  have HNR := Lib.hid hnR
  have HE2 := Lib.hid e2
  clear hr e0 e2 hx2 hnC hnR
  conv => arg 2; whnf
  by_cases b1 : dA < -1
  · have z1 : decide (dA < -1) = true := by simpa using b1
    go_wp2_with fail
    refine wp_region_plan [(true, 0), (true, 1), (true, 2), (true, 3), (true, 4), (true, 5), (true, 6), (true, 7), (true, 8), (true, 9), (true, 10), (true, 11), (true, 12), (true, 13), (true, 14), (true, 15), (true, 16), (true, 17), (true, 18), (true, 19), (true, 20), (true, 21), (true, 22), (true, 23), (true, 24), (true, 25)] [26, 27] (fun W => W.cell? ⟨db, 1, none⟩ = some (.int .i64 dA) ∧ W.cell? ⟨db, 2, none⟩ = some (.int .i64 dB) ∧ W.cell? ⟨rb, 0, none⟩ = some (.slice a0 nC c0) ∧ W.cell? ⟨rb, 2, none⟩ = some (.slice a2 nR c2)) (by kernel_rfl) (by kernel_rfl) (fun c a d v w h => HQP.out c a d v w h) ⟨q1, q2, r0, r2⟩ (fun hS0 => ?_)
    simp only [planOps, List.filterMap_cons, List.filterMap_nil, List.getElem?_toArray, List.getElem?_cons_zero, List.getElem?_cons_succ, Option.map_some]
    iterate 26
      first
        | (refine wpPlan_take ?_ (by rfl) (fun w' hS' => ?_) ?_; rotate_left; (obtain ⟨s0, s1, s2, s3⟩ := hS'; go_simp; first | done | with_reducible rfl); simp only [Act.put, List.setIfInBounds_toArray, List.set_cons_zero, List.set_cons_succ])
        | (refine wpPlan_skip (by rfl) ?_; simp only [Act.put, List.setIfInBounds_toArray, List.set_cons_zero, List.set_cons_succ])
    refine wpPlan_end ?_
    go_wp2
    exact HX.out _ _ ⟨⟨rfl, rfl, rfl, rfl, rfl, rfl⟩, H, HD.out.duo.drew.weak (fun p hp => by simp at hp), HG.out.next⟩
  have z1 : decide (dA < -1) = false := by simpa using b1
  by_cases b2 : (nR : Int) ≤ dA
  · have z2 : decide ((nR : Int) ≤ dA) = true := by simpa using b2
    go_wp2_with fail
    refine wp_region_plan [(true, 0), (true, 1), (true, 2), (true, 3), (true, 4), (true, 5), (true, 6), (true, 7), (true, 8), (true, 9), (true, 10), (true, 11), (true, 12), (true, 13), (true, 14), (true, 15), (true, 16), (true, 17), (true, 18), (true, 19), (true, 20), (true, 21), (true, 22), (true, 23), (true, 24), (true, 25)] [26, 27] (fun W => W.cell? ⟨db, 1, none⟩ = some (.int .i64 dA) ∧ W.cell? ⟨db, 2, none⟩ = some (.int .i64 dB) ∧ W.cell? ⟨rb, 0, none⟩ = some (.slice a0 nC c0) ∧ W.cell? ⟨rb, 2, none⟩ = some (.slice a2 nR c2)) (by kernel_rfl) (by kernel_rfl) (fun c a d v w h => HQP.out c a d v w h) ⟨q1, q2, r0, r2⟩ (fun hS0 => ?_)
    simp only [planOps, List.filterMap_cons, List.filterMap_nil, List.getElem?_toArray, List.getElem?_cons_zero, List.getElem?_cons_succ, Option.map_some]
    iterate 26
      first
        | (refine wpPlan_take ?_ (by rfl) (fun w' hS' => ?_) ?_; rotate_left; (obtain ⟨s0, s1, s2, s3⟩ := hS'; go_simp; first | done | with_reducible rfl); simp only [Act.put, List.setIfInBounds_toArray, List.set_cons_zero, List.set_cons_succ])
        | (refine wpPlan_skip (by rfl) ?_; simp only [Act.put, List.setIfInBounds_toArray, List.set_cons_zero, List.set_cons_succ])
    refine wpPlan_end ?_
    go_wp2
    exact HX.out _ _ ⟨⟨rfl, rfl, rfl, rfl, rfl, rfl⟩, H, HD.out.duo.drew.weak (fun p hp => by simp at hp), HG.out.next⟩
  have z2 : decide ((nR : Int) ≤ dA) = false := by simpa using b2
  by_cases b3 : dB < -1
  · have z3 : decide (dB < -1) = true := by simpa using b3
    go_wp2_with fail
    refine wp_region_plan [(true, 0), (true, 1), (true, 2), (true, 3), (true, 4), (true, 5), (true, 6), (true, 7), (true, 8), (true, 9), (true, 10), (true, 11), (true, 12), (true, 13), (true, 14), (true, 15), (true, 16), (true, 17), (true, 18), (true, 19), (true, 20), (true, 21), (true, 22), (true, 23), (true, 24), (true, 25)] [26, 27] (fun W => W.cell? ⟨db, 1, none⟩ = some (.int .i64 dA) ∧ W.cell? ⟨db, 2, none⟩ = some (.int .i64 dB) ∧ W.cell? ⟨rb, 0, none⟩ = some (.slice a0 nC c0) ∧ W.cell? ⟨rb, 2, none⟩ = some (.slice a2 nR c2)) (by kernel_rfl) (by kernel_rfl) (fun c a d v w h => HQP.out c a d v w h) ⟨q1, q2, r0, r2⟩ (fun hS0 => ?_)
    simp only [planOps, List.filterMap_cons, List.filterMap_nil, List.getElem?_toArray, List.getElem?_cons_zero, List.getElem?_cons_succ, Option.map_some]
    iterate 26
      first
        | (refine wpPlan_take ?_ (by rfl) (fun w' hS' => ?_) ?_; rotate_left; (obtain ⟨s0, s1, s2, s3⟩ := hS'; go_simp; first | done | with_reducible rfl); simp only [Act.put, List.setIfInBounds_toArray, List.set_cons_zero, List.set_cons_succ])
        | (refine wpPlan_skip (by rfl) ?_; simp only [Act.put, List.setIfInBounds_toArray, List.set_cons_zero, List.set_cons_succ])
    refine wpPlan_end ?_
    go_wp2
    exact HX.out _ _ ⟨⟨rfl, rfl, rfl, rfl, rfl, rfl⟩, H, HD.out.duo.drew.weak (fun p hp => by simp at hp), HG.out.next⟩
  have z3 : decide (dB < -1) = false := by simpa using b3
  by_cases b4 : (nC : Int) ≤ dB
  · have z4 : decide ((nC : Int) ≤ dB) = true := by simpa using b4
    go_wp2_with fail
    refine wp_region_plan [(true, 0), (true, 1), (true, 2), (true, 3), (true, 4), (true, 5), (true, 6), (true, 7), (true, 8), (true, 9), (true, 10), (true, 11), (true, 12), (true, 13), (true, 14), (true, 15), (true, 16), (true, 17), (true, 18), (true, 19), (true, 20), (true, 21), (true, 22), (true, 23), (true, 24), (true, 25)] [26, 27] (fun W => W.cell? ⟨db, 1, none⟩ = some (.int .i64 dA) ∧ W.cell? ⟨db, 2, none⟩ = some (.int .i64 dB) ∧ W.cell? ⟨rb, 0, none⟩ = some (.slice a0 nC c0) ∧ W.cell? ⟨rb, 2, none⟩ = some (.slice a2 nR c2)) (by kernel_rfl) (by kernel_rfl) (fun c a d v w h => HQP.out c a d v w h) ⟨q1, q2, r0, r2⟩ (fun hS0 => ?_)
    simp only [planOps, List.filterMap_cons, List.filterMap_nil, List.getElem?_toArray, List.getElem?_cons_zero, List.getElem?_cons_succ, Option.map_some]
    iterate 26
      first
        | (refine wpPlan_take ?_ (by rfl) (fun w' hS' => ?_) ?_; rotate_left; (obtain ⟨s0, s1, s2, s3⟩ := hS'; go_simp; first | done | with_reducible rfl); simp only [Act.put, List.setIfInBounds_toArray, List.set_cons_zero, List.set_cons_succ])
        | (refine wpPlan_skip (by rfl) ?_; simp only [Act.put, List.setIfInBounds_toArray, List.set_cons_zero, List.set_cons_succ])
    refine wpPlan_end ?_
    go_wp2
    exact HX.out _ _ ⟨⟨rfl, rfl, rfl, rfl, rfl, rfl⟩, H, HD.out.duo.drew.weak (fun p hp => by simp at hp), HG.out.next⟩
  have z4 : decide ((nC : Int) ≤ dB) = false := by simpa using b4
  go_wp2_with fail
  refine wp_region_plan [(true, 0), (true, 1), (true, 2), (true, 3), (true, 4), (true, 5), (true, 6), (true, 7), (true, 8), (true, 9), (true, 10), (true, 11), (true, 12), (true, 13), (true, 14), (true, 15), (true, 16), (true, 17), (true, 18), (true, 19), (true, 20), (true, 21), (true, 22), (true, 23), (true, 24), (true, 25)] [26, 27] (fun W => W.cell? ⟨db, 1, none⟩ = some (.int .i64 dA) ∧ W.cell? ⟨db, 2, none⟩ = some (.int .i64 dB) ∧ W.cell? ⟨rb, 0, none⟩ = some (.slice a0 nC c0) ∧ W.cell? ⟨rb, 2, none⟩ = some (.slice a2 nR c2)) (by kernel_rfl) (by kernel_rfl) (fun c a d v w h => HQP.out c a d v w h) ⟨q1, q2, r0, r2⟩ (fun hS0 => ?_)
  simp only [planOps, List.filterMap_cons, List.filterMap_nil, List.getElem?_toArray, List.getElem?_cons_zero, List.getElem?_cons_succ, Option.map_some]
  iterate 26
    first
      | (refine wpPlan_take ?_ (by rfl) (fun w' hS' => ?_) ?_; rotate_left; (obtain ⟨s0, s1, s2, s3⟩ := hS'; go_simp; first | done | with_reducible rfl); simp only [Act.put, List.setIfInBounds_toArray, List.set_cons_zero, List.set_cons_succ])
      | (refine wpPlan_skip (by rfl) ?_; simp only [Act.put, List.setIfInBounds_toArray, List.set_cons_zero, List.set_cons_succ])
  refine wpPlan_end ?_
  go_wp2_with fail
  have HD0 := Lib.hid HD.out.drew
  refine wp_region_plan [(true, 0), (true, 1), (true, 2), (true, 3), (true, 5), (true, 6), (true, 7), (true, 8), (true, 9), (false, 4)] [10] (fun W => W.cell? ⟨db, 1, none⟩ = some (.int .i64 dA) ∧ W.cell? ⟨db, 2, none⟩ = some (.int .i64 dB) ∧ W.cell? ⟨rb, 2, none⟩ = some (.slice a2 nR c2)) (by kernel_rfl) (by kernel_rfl) (fun c a d v w h => HQP.out c a d v w h) ⟨q1, q2, r2⟩ (fun hS0 => ?_)
  simp only [planOps, List.filterMap_cons, List.filterMap_nil, List.getElem?_toArray, List.getElem?_cons_zero, List.getElem?_cons_succ, Option.map_some]
  iterate 9
    first
      | (refine wpPlan_take ?_ (by rfl) (fun w' hS' => ?_) ?_; rotate_left; (obtain ⟨s0, s1, s2⟩ := hS'; go_simp; first | done | with_reducible rfl); simp only [Act.put, List.setIfInBounds_toArray, List.set_cons_zero, List.set_cons_succ])
      | (refine wpPlan_skip (by rfl) ?_; simp only [Act.put, List.setIfInBounds_toArray, List.set_cons_zero, List.set_cons_succ])
  have HD1 := Lib.hid HD0.out.drew
  refine wpPlan_go (fun K hK => ?_)
  go_simp
  have hcon : ∀ ρ L (w' : World), HeapAt ρ w' hb 0 L H → Calls Tryd.prog 6 #[.pointer (some ⟨hb, 0, none⟩), .int .i64 dA, .int .i64 dB] w' fun e w'' => e = .returned (.int .i64 nR) ∧ ∃ ρ' L', HeapAt ρ' w'' hb 0 L' { H with scopes := H.scopes ++ [⟨dA, dB, []⟩] } ∧ Fr ρ ρ' hb 0 w' w'' := fun ρ L w' hh => by
    rw [HNR.out]; exact newScope_any hh dA dB (by rw [← HNR.out]; omega)
  refine (HD1.out.heap (fun ρ L hh => hcon ρ L _ hh)).mono ?_
  rintro e w1 ⟨rfl, hD2⟩
  obtain ⟨q0', q1', q2', q3', q4', q5', q6'⟩ := d_cells (hD2.get (p := (db, (⟨dw, dA, dB, dn, dk, dv, dfx⟩ : DoRec).obj)) (by simp))
  dsimp only at q0' q1' q2' q3' q4' q5' q6'
  have hr := hD2.r
  have t2 := hr.cellR
  rw [HE2.out] at t2
  have hrb := hr.rbLt
  have hfz : w1.frozen? ⟨rb, 2, none⟩ = false := by simp [World.frozen?, hr.head]
  have hnr := hr.off .roms
  have hown := hr.rowR
  obtain ⟨rv, hrv⟩ : ∃ v, v = V.vr := ⟨_, rfl⟩
  have HRV : Hid (rv = .slice a2 nR c2) := Lib.hid (hrv.trans HE2.out)
  have hnr' : rv.ownBlock ≠ some rb := by rw [hrv]; exact hnr
  have hdb : rv.ownBlock ≠ some db := by
    rw [hrv]
    exact fun e => hD2.notOwn (p := (db, (⟨dw, dA, dB, dn, dk, dv, dfx⟩ : DoRec).obj)) (by simp) (.inr ⟨.roms, e⟩)
  have hdl : db < w1.heap.size := (Array.getElem?_eq_some_iff.1 (hD2.get (p := (db, (⟨dw, dA, dB, dn, dk, dv, dfx⟩ : DoRec).obj)) (by simp))).1
  rw [← hrv, ← HNR.out] at hown
  have HRV2 := Lib.hid hrv
  have HD2 := Lib.hid hD2
  have HO := Lib.hid hown
  have HNr := Lib.hid hnr'
  have HNd := Lib.hid hdb
  clear hcon hD2 hr hown hrv hnr hnr' hdb
  refine hK _ _ ⟨q1', q2', t2⟩ ?_
  clear hK K
  try simp only [Act.put, List.setIfInBounds_toArray, List.set_cons_zero, List.set_cons_succ]
  refine wpPlan_end ?_
  obtain ⟨i0, hi, hz0, hz1, hz2⟩ := info_parts Tryd.infoRRoom
  go_wp2_with fail
  refine wp_region_plan [(true, 0), (true, 1), (true, 2), (true, 3), (true, 4), (true, 5), (true, 6), (true, 7), (true, 8), (true, 9), (false, 10), (false, 11)] [12, 13, 14] (fun W => W.cell? ⟨db, 1, none⟩ = some (.int .i64 dA) ∧ W.cell? ⟨db, 2, none⟩ = some (.int .i64 dB) ∧ W.cell? ⟨rb, 2, none⟩ = some (.slice a2 nR c2)) (by kernel_rfl) (by kernel_rfl) (fun c a d v w h => HQP.out c a d v w h) ⟨q1', q2', t2⟩ (fun hS0 => ?_)
  simp only [planOps, List.filterMap_cons, List.filterMap_nil, List.getElem?_toArray, List.getElem?_cons_zero, List.getElem?_cons_succ, Option.map_some]
  iterate 10
    first
      | (refine wpPlan_take ?_ (by rfl) (fun w' hS' => ?_) ?_; rotate_left; (obtain ⟨s0, s1, s2⟩ := hS'; go_simp; first | done | with_reducible rfl); simp only [Act.put, List.setIfInBounds_toArray, List.set_cons_zero, List.set_cons_succ])
      | (refine wpPlan_skip (by rfl) ?_; simp only [Act.put, List.setIfInBounds_toArray, List.set_cons_zero, List.set_cons_succ])
  refine wpPlan_go (fun K hK => ?_)
  go_simp
  refine hK _ _ ⟨(cell_old (p := ⟨db, 1, none⟩) hdl).trans q1', (cell_old (p := ⟨db, 2, none⟩) hdl).trans q2', (cell_old (p := ⟨rb, 2, none⟩) hrb).trans t2⟩ ?_
  clear hK K
  refine wpPlan_go (fun K hK => ?_)
  refine step_append_lies _ (by rfl) (.tmp 137) (.tmp 143) 30 (by rfl) 0 42 i0 _ 3 40 Tryd.underlying30 hi hz0 hz1 hz2 rfl (by decide) rv nR ((H.scopes.zip V.cv).flatMap roomCells) (by rw [HRV.out]; rfl) ((HO.out.alloc _).drew) ⟨w1.heap.size, 0, none⟩ 1 1 [.int .i64 dA, .int .i64 dB, nilRow] (by rfl) rfl (World.news_of_block (cs := #[.int .i64 dA, .int .i64 dB, nilRow]) (t := 42) (fr := (0, 0)) (heap_alloc_new w1 _)) (by simp [nilRow, Value.oneCell']) (by decide) (by unfold maxLen; omega) (by omega) (by omega) (w1.heap.size + 1) (by simp) ?_
  intro gg cap w2 hown2 hgrow2 hat2 hlt2
  have far2 : ∀ b o, b < w1.heap.size → rv.ownBlock ≠ some b → w2.cell? ⟨b, o, none⟩ = w1.cell? ⟨b, o, none⟩ := fun b o hb1 hb2 => (hgrow2.cell_far ⟨b, o, none⟩ (by simp; omega) (fun e => hb2 e.symm)).trans (cell_old hb1)
  have fz2 : w2.frozen? ⟨rb, 2, none⟩ = false := (hgrow2.frozen_far ⟨rb, 2, none⟩ (by simp; omega) (fun e => HNr.out e.symm)).trans ((frozen_old hrb).trans hfz)
  have u2 := (far2 _ 2 hrb HNr.out).trans t2
  refine hK _ _ ⟨(far2 _ 1 hdl HNd.out).trans q1', (far2 _ 2 hdl HNd.out).trans q2', u2⟩ ?_
  clear hK K
  try simp only [Act.put, List.setIfInBounds_toArray, List.set_cons_zero, List.set_cons_succ]
  have HG2 := Lib.hid hgrow2
  have HW2 := Lib.hid hown2
  have HT2 := Lib.hid hat2
  clear hgrow2 hown2 hat2 hlt2 far2
  refine wpPlan_end ?_
  go_wp2
  have hnr := HNR.out
  subst hnr
  have hrv := HRV2.out
  subst hrv
  obtain ⟨V', hA, hF⟩ := HD2.out.r.pushRoom (outer := dA) (object := dB) (((Below.refl _ _).alloc (Nat.le_refl _) _).drew) HG2.out HW2.out (HT2.out.imp id (fun e => by omega))
  refine HN.out _ _ ⟨⟨⟨rfl, rfl, rfl, rfl, rfl, rfl⟩, rfl⟩, _, dk, ?_, HG.out.scope (outer := dA) dB (by omega) (by omega)⟩
  exact (HD2.out.to hA hF).weak (fun p hp => by simp at hp; subst hp; simp)
end
end Go.Proofs.YtfanolcjgaccpaaDoor
