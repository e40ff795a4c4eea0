/- HeapPlays, the tail of a round: all that is compared. -/
import Derived.Test.YtfanolcjgaccpaaDoorJ23
namespace Go.Proofs.YtfanolcjgaccpaaDoor
open Go Go.RowKit
set_option maxRecDepth 1000000
set_option linter.unusedVariables false
set_option linter.unusedSimpArgs false
section
variable {w0 w : World} {v0 : Value} {hb rb k db xb : Nat} {d : DoRec} {H : LHeap} {a : Act} {ok : Bool} {gk gn : Int} {gs : ByteArray} {cd ob ou : Int}
set_option maxHeartbeats 20000000 in
theorem htd_any (fr : Ft a v0 hb rb k db xb ok gn H.objects.length H.scopes.length (H.code d.a) (objOf H d.a) (outOf H d.a)) (duo : Duo w0 [(xb, xObj gk gn gs), (db, d.obj)] hb rb H H w) (good : H.Good (k + 1)) (k80 : k < 80) :
    (hpAt [1, 1, 1, 1, 0, 1, 0, 0, 1, 0, 0, 1, 1, 1, 1, 1, 1, 1, 1, 1, 1]).wp Tryd.prog (TailQ w0 v0 hb rb k) a w := by
  obtain ⟨tm, df⟩ := a
  obtain ⟨x, ex, hx⟩ := lit470 tm fr.size
  have e0 := (hx 0).trans fr.t0
  have e3 := (hx 3).trans fr.t3
  have e4 := (hx 4).trans fr.t4
  have e5 := (hx 5).trans fr.t5
  have e6 := (hx 6).trans fr.t6
  have e12 := (hx 12).trans fr.t12
  have e13 := (hx 13).trans fr.t13
  have e14 := (hx 14).trans fr.t14
  have e15 := (hx 15).trans fr.t15
  have e16 := (hx 16).trans fr.t16
  have e17 := (hx 17).trans fr.t17
  have e18 := (hx 18).trans fr.t18
  have e19 := (hx 19).trans fr.t19
  have e20 := (hx 20).trans fr.t20
  have ed : df = [] := fr.defs
  clear fr hx
  subst ex
  subst ed
  rw [e0, e3, e4, e5, e6, e12, e13, e14, e15, e16, e17, e18, e19, e20]
  clear e0 e3 e4 e5 e6 e12 e13 e14 e15 e16 e17 e18 e19 e20
  obtain ⟨Q, hQ⟩ : ∃ Q, Q = TailQ w0 v0 hb rb k := ⟨_, rfl⟩
  rw [← hQ]
  have hN : ∀ a w, Next w0 v0 hb rb k a w → Q .normal a w := fun a w h => by rw [hQ]; exact h
  have HQP : Hid (∀ c a d v w, Q (.panic c) (Act.put a d v) w → Q (.panic c) a w) := Lib.hid fun c a d v w h => by rw [hQ] at h; exact h.elim
  have HN := Lib.hid hN
  clear hQ hN
  obtain ⟨dw, da, dB, dn, dk, dv, dfx⟩ := d
  have HG := Lib.hid good
  obtain ⟨V, duo⟩ := duo.toV
  have hks := keys_small good (by omega) da
  obtain ⟨a0, c0, e0⟩ := ownsRow_slice duo.r.rowC
  obtain ⟨a2, c2, e2⟩ := ownsRow_slice duo.r.rowR
  obtain ⟨nO, hnO⟩ : ∃ n, n = H.objects.length := ⟨_, rfl⟩
  obtain ⟨nS, hnS⟩ : ∃ n, n = H.scopes.length := ⟨_, rfl⟩
  rw [← hnO] at e0 ⊢
  rw [← hnS] at e2 ⊢
  have HE0 := Lib.hid e0
  have HE2 := Lib.hid e2
  have HKS := Lib.hid hks
  dsimp only
  obtain ⟨cd, hcd⟩ : ∃ c, c = H.code da := ⟨_, rfl⟩
  obtain ⟨ob, hob⟩ : ∃ c, c = objOf H da := ⟨_, rfl⟩
  obtain ⟨ou, hou⟩ : ∃ c, c = outOf H da := ⟨_, rfl⟩
  rw [← hcd, ← hob, ← hou]
  have HCD := Lib.hid hcd
  have HOB := Lib.hid hob
  have HOU := Lib.hid hou
  obtain ⟨hs, hhs⟩ : ∃ c, c = H.has da dn := ⟨_, rfl⟩
  obtain ⟨kd, hkd⟩ : ∃ c, c = H.kindOf da dn := ⟨_, rfl⟩
  obtain ⟨ks, hks'⟩ : ∃ c, c = joinS (H.keys da) ⟨#[32]⟩ := ⟨_, rfl⟩
  have HHS := Lib.hid hhs
  have HKD := Lib.hid hkd
  have HJS := Lib.hid hks'
  have hD := duo.drew
  clear good duo hks e0 e2 hcd hob hou hhs hkd hks' hnO hnS
  obtain ⟨w1, hw1⟩ : ∃ w1, w1 = w.drew := ⟨_, rfl⟩
  have HW1 := Lib.hid hw1
  rw [← hw1] at hD
  clear hw1
  have q1 := hD.get (p := (db, (⟨dw, da, dB, dn, dk, dv, dfx⟩ : DoRec).obj)) (by simp)
  have p1 := hD.get (p := (xb, xObj gk gn gs)) (by simp)
  dsimp only at q1 p1
  have s1_1 := (d_cells q1).2.1
  have s2_1 := (d_cells q1).2.2.2.1
  have s3_1 : w1.cell? ⟨xb, 1, none⟩ = some (.int .i64 gn) := by simp [World.cell?, p1, xObj]
  have s4_1 := hD.r.cellC
  have s5_1 := hD.r.cellR
  rw [HE0.out] at s4_1
  rw [HE2.out] at s5_1
  dsimp only at s1_1 s2_1
  have HD1 := Lib.hid hD
  clear hD q1 p1
  conv => arg 2; whnf
  go_wp2_with fail
  refine wp_region_plan [(true, 0), (true, 1), (true, 2), (true, 3), (true, 4), (true, 5), (true, 6), (true, 7), (true, 8), (true, 9), (true, 10), (true, 11), (true, 12), (true, 13), (true, 14), (true, 15), (true, 16), (true, 17), (true, 18), (true, 19), (true, 20), (true, 21), (true, 22), (true, 23), (true, 24), (true, 25), (true, 26), (true, 27), (true, 28), (true, 29), (true, 30), (true, 31), (true, 33), (true, 34), (true, 35), (true, 36), (true, 37), (false, 32), (false, 38), (true, 39), (true, 40), (true, 41), (true, 42), (true, 43), (true, 44), (true, 45), (true, 47), (true, 48), (true, 49), (true, 50), (true, 51), (false, 46), (false, 52), (true, 53), (true, 54), (true, 55), (true, 56), (true, 57), (true, 60), (true, 61), (true, 62), (false, 58), (false, 59), (false, 63), (true, 64), (true, 65), (true, 66), (true, 67), (true, 68), (true, 70), (false, 69), (true, 71), (true, 72), (true, 73), (true, 74), (true, 75), (true, 77), (false, 76), (true, 78), (true, 79), (true, 80), (true, 81), (true, 82), (true, 84), (false, 83)] [85, 86] (fun W => W.cell? ⟨db, 1, none⟩ = some (.int .i64 da) ∧ W.cell? ⟨db, 3, none⟩ = some (.string dn) ∧ W.cell? ⟨xb, 1, none⟩ = some (.int .i64 gn) ∧ W.cell? ⟨rb, 0, none⟩ = some (.slice a0 nO c0) ∧ W.cell? ⟨rb, 2, none⟩ = some (.slice a2 nS c2)) (by kernel_rfl) ok58 (fun c a d v w h => HQP.out c a d v w h) (by rw [← HW1.out]; exact ⟨s1_1, s2_1, s3_1, s4_1, s5_1⟩) (fun hS0 => ?_)
  simp only [planOps, List.append_eq, List.cons_append, List.nil_append, List.filterMap_cons, List.filterMap_nil, List.getElem?_toArray, List.getElem?_cons_zero, List.getElem?_cons_succ, Option.map_some]
  rw [← HW1.out]
  iterate 37
    first
      | (refine wpPlan_take ?_ (by rfl) (fun w' hS' => ?_) ?_; rotate_left; (obtain ⟨s0, s1, s2, s3, s4⟩ := hS'; go_simp; first | done | with_reducible rfl); simp only [Act.put, List.setIfInBounds_toArray, List.set_cons_zero, List.set_cons_succ])
      | (refine wpPlan_skip (by rfl) ?_; simp only [Act.put, List.setIfInBounds_toArray, List.set_cons_zero, List.set_cons_succ])
  refine wpPlan_go (fun K hK => ?_)
  go_simp
  refine (HD1.out.readH (P := fun e _ => e = .returned (.bool hs)) (fun ρ L hh => by rw [HHS.out]; exact has_any hh da dn)).mono ?_
  rintro e w2 ⟨rfl, hD⟩
  have q2 := hD.get (p := (db, (⟨dw, da, dB, dn, dk, dv, dfx⟩ : DoRec).obj)) (by simp)
  have p2 := hD.get (p := (xb, xObj gk gn gs)) (by simp)
  dsimp only at q2 p2
  have s1_2 := (d_cells q2).2.1
  have s2_2 := (d_cells q2).2.2.2.1
  have s3_2 : w2.cell? ⟨xb, 1, none⟩ = some (.int .i64 gn) := by simp [World.cell?, p2, xObj]
  have s4_2 := hD.r.cellC
  have s5_2 := hD.r.cellR
  rw [HE0.out] at s4_2
  rw [HE2.out] at s5_2
  dsimp only at s1_2 s2_2
  have HD2 := Lib.hid hD
  clear hD q2 p2
  refine hK _ _ ⟨s1_2, s2_2, s3_2, s4_2, s5_2⟩ ?_
  clear hK K
  try simp only [Act.put, List.setIfInBounds_toArray, List.set_cons_zero, List.set_cons_succ]
  refine wpPlan_go (fun K hK => ?_)
  go_simp
  refine (HD2.out.readR (P := fun e _ => e = .returned (.bool hs)) (fun hh => by rw [HHS.out]; exact rhas_any hh da dn)).mono ?_
  rintro e w3 ⟨rfl, hD⟩
  have q3 := hD.get (p := (db, (⟨dw, da, dB, dn, dk, dv, dfx⟩ : DoRec).obj)) (by simp)
  have p3 := hD.get (p := (xb, xObj gk gn gs)) (by simp)
  dsimp only at q3 p3
  have s1_3 := (d_cells q3).2.1
  have s2_3 := (d_cells q3).2.2.2.1
  have s3_3 : w3.cell? ⟨xb, 1, none⟩ = some (.int .i64 gn) := by simp [World.cell?, p3, xObj]
  have s4_3 := hD.r.cellC
  have s5_3 := hD.r.cellR
  rw [HE0.out] at s4_3
  rw [HE2.out] at s5_3
  dsimp only at s1_3 s2_3
  have HD3 := Lib.hid hD
  clear hD q3 p3
  refine hK _ _ ⟨s1_3, s2_3, s3_3, s4_3, s5_3⟩ ?_
  clear hK K
  try simp only [Act.put, List.setIfInBounds_toArray, List.set_cons_zero, List.set_cons_succ]
  as_aux_lemma =>
    iterate 12
      first
        | (refine wpPlan_take ?_ (by rfl) (fun w' hS' => ?_) ?_; rotate_left; (obtain ⟨s0, s1, s2, s3, s4⟩ := hS'; go_simp; first | done | with_reducible rfl); simp only [Act.put, List.setIfInBounds_toArray, List.set_cons_zero, List.set_cons_succ])
        | (refine wpPlan_skip (by rfl) ?_; simp only [Act.put, List.setIfInBounds_toArray, List.set_cons_zero, List.set_cons_succ])
    refine wpPlan_go (fun K hK => ?_)
    go_simp
    refine (HD3.out.readH (P := fun e _ => e = .returned (.int .i64 kd)) (fun ρ L hh => by rw [HKD.out]; exact kindOf_any hh da dn)).mono ?_
    rintro e w4 ⟨rfl, hD⟩
    have q4 := hD.get (p := (db, (⟨dw, da, dB, dn, dk, dv, dfx⟩ : DoRec).obj)) (by simp)
    have p4 := hD.get (p := (xb, xObj gk gn gs)) (by simp)
    dsimp only at q4 p4
    have s1_4 := (d_cells q4).2.1
    have s2_4 := (d_cells q4).2.2.2.1
    have s3_4 : w4.cell? ⟨xb, 1, none⟩ = some (.int .i64 gn) := by simp [World.cell?, p4, xObj]
    have s4_4 := hD.r.cellC
    have s5_4 := hD.r.cellR
    rw [HE0.out] at s4_4
    rw [HE2.out] at s5_4
    dsimp only at s1_4 s2_4
    have HD4 := Lib.hid hD
    clear hD q4 p4
    refine hK _ _ ⟨s1_4, s2_4, s3_4, s4_4, s5_4⟩ ?_
    clear hK K
    try simp only [Act.put, List.setIfInBounds_toArray, List.set_cons_zero, List.set_cons_succ]
    refine wpPlan_go (fun K hK => ?_)
    go_simp
    refine (HD4.out.readR (P := fun e _ => e = .returned (.int .i64 kd)) (fun hh => by rw [HKD.out]; exact rkind_any hh da dn)).mono ?_
    rintro e w5 ⟨rfl, hD⟩
    have q5 := hD.get (p := (db, (⟨dw, da, dB, dn, dk, dv, dfx⟩ : DoRec).obj)) (by simp)
    have p5 := hD.get (p := (xb, xObj gk gn gs)) (by simp)
    dsimp only at q5 p5
    have s1_5 := (d_cells q5).2.1
    have s2_5 := (d_cells q5).2.2.2.1
    have s3_5 : w5.cell? ⟨xb, 1, none⟩ = some (.int .i64 gn) := by simp [World.cell?, p5, xObj]
    have s4_5 := hD.r.cellC
    have s5_5 := hD.r.cellR
    rw [HE0.out] at s4_5
    rw [HE2.out] at s5_5
    dsimp only at s1_5 s2_5
    have HD5 := Lib.hid hD
    clear hD q5 p5
    refine hK _ _ ⟨s1_5, s2_5, s3_5, s4_5, s5_5⟩ ?_
    clear hK K
    try simp only [Act.put, List.setIfInBounds_toArray, List.set_cons_zero, List.set_cons_succ]
    as_aux_lemma =>
      iterate 8
        first
          | (refine wpPlan_take ?_ (by rfl) (fun w' hS' => ?_) ?_; rotate_left; (obtain ⟨s0, s1, s2, s3, s4⟩ := hS'; go_simp; first | done | with_reducible rfl); simp only [Act.put, List.setIfInBounds_toArray, List.set_cons_zero, List.set_cons_succ])
          | (refine wpPlan_skip (by rfl) ?_; simp only [Act.put, List.setIfInBounds_toArray, List.set_cons_zero, List.set_cons_succ])
      refine wpPlan_go (fun K hK => ?_)
      go_simp
      refine (HD5.out.readH (P := fun e w' => ∃ v, e = .returned v ∧ TextsK w' w5.heap.size v (H.keys da)) (fun ρ L hh => (keys_any hh da HKS.out.1).mono fun e w' ⟨v, h1, h2, h3⟩ => ⟨⟨v, h1, h2⟩, h3⟩)).mono ?_
      rintro e w6 ⟨⟨vk, rfl, hTk⟩, hD⟩
      have HTk := Lib.hid hTk
      clear hTk
      have q6 := hD.get (p := (db, (⟨dw, da, dB, dn, dk, dv, dfx⟩ : DoRec).obj)) (by simp)
      have p6 := hD.get (p := (xb, xObj gk gn gs)) (by simp)
      dsimp only at q6 p6
      have s1_6 := (d_cells q6).2.1
      have s2_6 := (d_cells q6).2.2.2.1
      have s3_6 : w6.cell? ⟨xb, 1, none⟩ = some (.int .i64 gn) := by simp [World.cell?, p6, xObj]
      have s4_6 := hD.r.cellC
      have s5_6 := hD.r.cellR
      rw [HE0.out] at s4_6
      rw [HE2.out] at s5_6
      dsimp only at s1_6 s2_6
      have HD6 := Lib.hid hD
      clear hD q6 p6
      refine hK _ _ ⟨s1_6, s2_6, s3_6, s4_6, s5_6⟩ ?_
      clear hK K
      try simp only [Act.put, List.setIfInBounds_toArray, List.set_cons_zero, List.set_cons_succ]
      refine wpPlan_go (fun K hK => ?_)
      go_simp
      have hjn : Calls Tryd.prog 31 #[vk, .string ⟨#[32]⟩] w6 fun e w' => e = .returned (.string ks) ∧ Below w6.heap.size w6 w' := by
        rw [HJS.out]; exact join_row HTk.out ⟨#[32]⟩ HKS.out.1 HKS.out.2
      refine hjn.mono ?_
      rintro e w7 ⟨rfl, hB⟩
      have hD := HD6.out.below hB
      clear hjn hB
      have q7 := hD.get (p := (db, (⟨dw, da, dB, dn, dk, dv, dfx⟩ : DoRec).obj)) (by simp)
      have p7 := hD.get (p := (xb, xObj gk gn gs)) (by simp)
      dsimp only at q7 p7
      have s1_7 := (d_cells q7).2.1
      have s2_7 := (d_cells q7).2.2.2.1
      have s3_7 : w7.cell? ⟨xb, 1, none⟩ = some (.int .i64 gn) := by simp [World.cell?, p7, xObj]
      have s4_7 := hD.r.cellC
      have s5_7 := hD.r.cellR
      rw [HE0.out] at s4_7
      rw [HE2.out] at s5_7
      dsimp only at s1_7 s2_7
      have HD7 := Lib.hid hD
      clear hD q7 p7
      refine hK _ _ ⟨s1_7, s2_7, s3_7, s4_7, s5_7⟩ ?_
      clear hK K
      try simp only [Act.put, List.setIfInBounds_toArray, List.set_cons_zero, List.set_cons_succ]
      refine wpPlan_go (fun K hK => ?_)
      go_simp
      refine (HD7.out.readR (P := fun e _ => e = .returned (.string ks)) (fun hh => by rw [HJS.out]; exact rkeys_any hh da HKS.out.1 HKS.out.2)).mono ?_
      rintro e w8 ⟨rfl, hD⟩
      have q8 := hD.get (p := (db, (⟨dw, da, dB, dn, dk, dv, dfx⟩ : DoRec).obj)) (by simp)
      have p8 := hD.get (p := (xb, xObj gk gn gs)) (by simp)
      dsimp only at q8 p8
      have s1_8 := (d_cells q8).2.1
      have s2_8 := (d_cells q8).2.2.2.1
      have s3_8 : w8.cell? ⟨xb, 1, none⟩ = some (.int .i64 gn) := by simp [World.cell?, p8, xObj]
      have s4_8 := hD.r.cellC
      have s5_8 := hD.r.cellR
      rw [HE0.out] at s4_8
      rw [HE2.out] at s5_8
      dsimp only at s1_8 s2_8
      have HD8 := Lib.hid hD
      clear hD q8 p8
      refine hK _ _ ⟨s1_8, s2_8, s3_8, s4_8, s5_8⟩ ?_
      clear hK K
      try simp only [Act.put, List.setIfInBounds_toArray, List.set_cons_zero, List.set_cons_succ]
      as_aux_lemma =>
        iterate 6
          first
            | (refine wpPlan_take ?_ (by rfl) (fun w' hS' => ?_) ?_; rotate_left; (obtain ⟨s0, s1, s2, s3, s4⟩ := hS'; go_simp; first | done | with_reducible rfl); simp only [Act.put, List.setIfInBounds_toArray, List.set_cons_zero, List.set_cons_succ])
            | (refine wpPlan_skip (by rfl) ?_; simp only [Act.put, List.setIfInBounds_toArray, List.set_cons_zero, List.set_cons_succ])
        refine wpPlan_go (fun K hK => ?_)
        go_simp
        refine (HD8.out.readH (P := fun e _ => e = .returned (.int .i64 cd)) (fun ρ L hh => (code_any hh da).mono fun e w' ⟨h1, h2⟩ => by subst h2; exact ⟨by rw [HCD.out]; exact h1, Below.refl _ _⟩)).mono ?_
        rintro e w9 ⟨rfl, hD⟩
        have q9 := hD.get (p := (db, (⟨dw, da, dB, dn, dk, dv, dfx⟩ : DoRec).obj)) (by simp)
        have p9 := hD.get (p := (xb, xObj gk gn gs)) (by simp)
        dsimp only at q9 p9
        have s1_9 := (d_cells q9).2.1
        have s2_9 := (d_cells q9).2.2.2.1
        have s3_9 : w9.cell? ⟨xb, 1, none⟩ = some (.int .i64 gn) := by simp [World.cell?, p9, xObj]
        have s4_9 := hD.r.cellC
        have s5_9 := hD.r.cellR
        rw [HE0.out] at s4_9
        rw [HE2.out] at s5_9
        dsimp only at s1_9 s2_9
        have HD9 := Lib.hid hD
        clear hD q9 p9
        refine hK _ _ ⟨s1_9, s2_9, s3_9, s4_9, s5_9⟩ ?_
        clear hK K
        try simp only [Act.put, List.setIfInBounds_toArray, List.set_cons_zero, List.set_cons_succ]
        iterate 6
          first
            | (refine wpPlan_take ?_ (by rfl) (fun w' hS' => ?_) ?_; rotate_left; (obtain ⟨s0, s1, s2, s3, s4⟩ := hS'; go_simp; first | done | with_reducible rfl); simp only [Act.put, List.setIfInBounds_toArray, List.set_cons_zero, List.set_cons_succ])
            | (refine wpPlan_skip (by rfl) ?_; simp only [Act.put, List.setIfInBounds_toArray, List.set_cons_zero, List.set_cons_succ])
        refine wpPlan_go (fun K hK => ?_)
        go_simp
        refine (HD9.out.readH (P := fun e _ => e = .returned (.int .i64 ob)) (fun ρ L hh => (objectOf_any hh da).mono fun e w' ⟨h1, h2⟩ => by subst h2; exact ⟨by rw [HOB.out]; exact h1, Below.refl _ _⟩)).mono ?_
        rintro e w10 ⟨rfl, hD⟩
        have q10 := hD.get (p := (db, (⟨dw, da, dB, dn, dk, dv, dfx⟩ : DoRec).obj)) (by simp)
        have p10 := hD.get (p := (xb, xObj gk gn gs)) (by simp)
        dsimp only at q10 p10
        have s1_10 := (d_cells q10).2.1
        have s2_10 := (d_cells q10).2.2.2.1
        have s3_10 : w10.cell? ⟨xb, 1, none⟩ = some (.int .i64 gn) := by simp [World.cell?, p10, xObj]
        have s4_10 := hD.r.cellC
        have s5_10 := hD.r.cellR
        rw [HE0.out] at s4_10
        rw [HE2.out] at s5_10
        dsimp only at s1_10 s2_10
        have HD10 := Lib.hid hD
        clear hD q10 p10
        refine hK _ _ ⟨s1_10, s2_10, s3_10, s4_10, s5_10⟩ ?_
        clear hK K
        try simp only [Act.put, List.setIfInBounds_toArray, List.set_cons_zero, List.set_cons_succ]
        as_aux_lemma =>
          iterate 6
            first
              | (refine wpPlan_take ?_ (by rfl) (fun w' hS' => ?_) ?_; rotate_left; (obtain ⟨s0, s1, s2, s3, s4⟩ := hS'; go_simp; first | done | with_reducible rfl); simp only [Act.put, List.setIfInBounds_toArray, List.set_cons_zero, List.set_cons_succ])
              | (refine wpPlan_skip (by rfl) ?_; simp only [Act.put, List.setIfInBounds_toArray, List.set_cons_zero, List.set_cons_succ])
          refine wpPlan_go (fun K hK => ?_)
          go_simp
          refine (HD10.out.readH (P := fun e _ => e = .returned (.int .i64 ou)) (fun ρ L hh => (outerOf_any hh da).mono fun e w' ⟨h1, h2⟩ => by subst h2; exact ⟨by rw [HOU.out]; exact h1, Below.refl _ _⟩)).mono ?_
          rintro e w11 ⟨rfl, hD⟩
          have q11 := hD.get (p := (db, (⟨dw, da, dB, dn, dk, dv, dfx⟩ : DoRec).obj)) (by simp)
          have p11 := hD.get (p := (xb, xObj gk gn gs)) (by simp)
          dsimp only at q11 p11
          have s1_11 := (d_cells q11).2.1
          have s2_11 := (d_cells q11).2.2.2.1
          have s3_11 : w11.cell? ⟨xb, 1, none⟩ = some (.int .i64 gn) := by simp [World.cell?, p11, xObj]
          have s4_11 := hD.r.cellC
          have s5_11 := hD.r.cellR
          rw [HE0.out] at s4_11
          rw [HE2.out] at s5_11
          dsimp only at s1_11 s2_11
          have HD11 := Lib.hid hD
          clear hD q11 p11
          refine hK _ _ ⟨s1_11, s2_11, s3_11, s4_11, s5_11⟩ ?_
          clear hK K
          try simp only [Act.put, List.setIfInBounds_toArray, List.set_cons_zero, List.set_cons_succ]
          refine wpPlan_end ?_
          go_wp2
          exact HN.out _ _ ⟨⟨rfl, rfl, rfl, rfl, rfl, rfl⟩, H, HD11.out.duo.weak (fun p hp => by simp at hp), HG.out⟩
end
end Go.Proofs.YtfanolcjgaccpaaDoor
