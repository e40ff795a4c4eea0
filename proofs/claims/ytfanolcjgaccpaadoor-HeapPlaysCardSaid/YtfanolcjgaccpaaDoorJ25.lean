/- HeapPlays, the tail of a round: the object, the outer one. -/
import Derived.Test.YtfanolcjgaccpaaDoorJ24
namespace Go.Proofs.YtfanolcjgaccpaaDoor
open Go Go.RowKit
set_option maxRecDepth 1000000
set_option linter.unusedVariables false
set_option linter.unusedSimpArgs false
section
variable {w0 w : World} {v0 : Value} {hb rb k db xb : Nat} {d : DoRec} {H : LHeap} {a : Act} {ok : Bool} {gk gn : Int} {gs : ByteArray} {cd ob ou : Int}
set_option maxHeartbeats 20000000 in
theorem htc_any (fr : Ft a v0 hb rb k db xb ok gn H.objects.length H.scopes.length (H.code d.a) (-1) (-1)) (duo : Duo w0 [(xb, xObj gk gn gs), (db, d.obj)] hb rb H H w) (good : H.Good (k + 1)) (k80 : k < 80) :
    (hpAt [1, 1, 1, 1, 0, 1, 0, 0, 1, 0, 0, 1, 1, 1, 1, 1, 1, 1, 1, 1]).wp Tryd.prog (TailQ w0 v0 hb rb k) a w := by
  have E : hpAt [1, 1, 1, 1, 0, 1, 0, 0, 1, 0, 0, 1, 1, 1, 1, 1, 1, 1, 1, 1] = Code.seq (hpAt [1, 1, 1, 1, 0, 1, 0, 0, 1, 0, 0, 1, 1, 1, 1, 1, 1, 1, 1, 1, 0]) (hpAt [1, 1, 1, 1, 0, 1, 0, 0, 1, 0, 0, 1, 1, 1, 1, 1, 1, 1, 1, 1, 1]) := by kernel_rfl
  rw [E]
  refine wp_seq_k (fun K hK => ?_)
  have hK' : ∀ (a' : Act) (w' : World), Ft a' v0 hb rb k db xb ok gn H.objects.length H.scopes.length (H.code d.a) (objOf H d.a) (outOf H d.a) → Duo w0 [(xb, xObj gk gn gs), (db, d.obj)] hb rb H H w' → K a' w' := fun a' w' hf hd => hK _ _ (htd_any hf hd good k80)
  have HK := Lib.hid hK'
  clear hK hK' E
  obtain ⟨tm, df⟩ := a
  obtain ⟨x, ex, hx⟩ := lit470 tm fr.size
  have e0 := (hx 0).trans fr.t0
  have e3 := (hx 3).trans fr.t3
  have e4 := (hx 4).trans fr.t4
  have e5 := (hx 5).trans fr.t5
  have e6 := (hx 6).trans fr.t6
  have e12 := (hx 12).trans fr.t12
  have e13 := (hx 13).trans fr.t13
  have e14 := (hx 14).trans fr.t14
  have e15 := (hx 15).trans fr.t15
  have e16 := (hx 16).trans fr.t16
  have e17 := (hx 17).trans fr.t17
  have e18 := (hx 18).trans fr.t18
  have e19 := (hx 19).trans fr.t19
  have e20 := (hx 20).trans fr.t20
  have ed : df = [] := fr.defs
  clear fr hx
  subst ex
  subst ed
  rw [e0, e3, e4, e5, e6, e12, e13, e14, e15, e16, e17, e18, e19, e20]
  clear e0 e3 e4 e5 e6 e12 e13 e14 e15 e16 e17 e18 e19 e20
  obtain ⟨Q, hQ⟩ : ∃ Q, Q = TailQ w0 v0 hb rb k := ⟨_, rfl⟩
  rw [← hQ]
  have hN : ∀ a w, Next w0 v0 hb rb k a w → Q .normal a w := fun a w h => by rw [hQ]; exact h
  have HQP : Hid (∀ c a d v w, Q (.panic c) (Act.put a d v) w → Q (.panic c) a w) := Lib.hid fun c a d v w h => by rw [hQ] at h; exact h.elim
  have HN := Lib.hid hN
  clear hQ hN
  obtain ⟨dw, da, dB, dn, dk, dv, dfx⟩ := d
  have HG := Lib.hid good
  obtain ⟨V, duo⟩ := duo.toV
  have HD := Lib.hid duo
  have q1 := (d_cells (duo.get (p := (db, (⟨dw, da, dB, dn, dk, dv, dfx⟩ : DoRec).obj)) (by simp))).2.1
  dsimp only at q1
  obtain ⟨a0, c0, e0, ha⟩ := ownsRow_any duo.r.rowR
  have r0 := duo.r.cellR
  rw [e0] at r0
  have hcell := fun (m : Nat) (s : LScope) (hm : H.scopes[m]? = some s) g (e : a0 = some ⟨g, 0, none⟩) j x => row_cell (f := roomCells) (m := 3) (fun _ => rfl) duo.r.rowR (g := g) (by rw [e0, e]; rfl) (i := m) (j := j) (x := x) (duo.r.rooms hm)
  obtain ⟨nS, hnS⟩ : ∃ n, n = H.scopes.length := ⟨_, rfl⟩
  rw [← hnS] at r0 ha
  have HNS := Lib.hid hnS
  have HCE := Lib.hid hcell
  have HA := Lib.hid ha
  rw [← hnS]
  obtain ⟨cd, hcd⟩ : ∃ c, c = H.code da := ⟨_, rfl⟩
  dsimp only at HK ⊢
  rw [← hcd] at HK ⊢
  clear e0 duo good hnS hcell ha hcd
  conv => arg 2; whnf
  by_cases h0 : 0 ≤ da
  · obtain ⟨m, rfl⟩ := Int.eq_ofNat_of_zero_le h0
    by_cases h1 : m < nS
    · have z2 : decide (m < nS) = true := by simpa using h1
      obtain ⟨g, ha0, _, _, _⟩ := HA.out m h1
      subst ha0
      have hml : m < H.scopes.length := by rw [← HNS.out]; exact h1
      have hmo : H.scopes[m]? = some H.scopes[m] := List.getElem?_eq_getElem hml
      have hc0 := HCE.out m _ hmo g rfl 0 _ rfl
      have hc1 := HCE.out m _ hmo g rfl 1 _ rfl
      have hsc : H.scope? (m : Int) = some H.scopes[m] := by simp only [LHeap.scope?, if_neg (show ¬ (m : Int) < 0 by omega), Int.toNat_natCast, hmo]
      have hob : objOf H (m : Int) = H.scopes[m].object := by simp only [objOf, hsc]
      have hou : outOf H (m : Int) = H.scopes[m].outer := by simp only [outOf, hsc]
      obtain ⟨ob, hob2⟩ : ∃ c, c = H.scopes[m].object := ⟨_, rfl⟩
      obtain ⟨ou, hou2⟩ : ∃ c, c = H.scopes[m].outer := ⟨_, rfl⟩
      dsimp only at hc0 hc1
      rw [← hou2] at hc0 hou
      rw [← hob2] at hc1 hob
      rw [Nat.add_zero] at hc0
      have HOB := Lib.hid hob
      have HOU := Lib.hid hou
      clear hob hou hob2 hou2 hmo hml hsc
      go_wp2_with fail
      refine wp_region_plan [(true, 0), (true, 1), (true, 2), (true, 3), (true, 4), (true, 5), (true, 6), (true, 7), (true, 8), (true, 9), (true, 10)] [11, 12] (fun W => W.cell? ⟨db, 1, none⟩ = some (.int .i64 m) ∧ W.cell? ⟨rb, 2, none⟩ = some (.slice (some ⟨g, 0, none⟩) nS c0)) (by kernel_rfl) (by kernel_rfl) (fun c a d v w h => HQP.out c a d v w h) ⟨q1, r0⟩ (fun hS0 => ?_)
      simp only [planOps, List.filterMap_cons, List.filterMap_nil, List.getElem?_toArray, List.getElem?_cons_zero, List.getElem?_cons_succ, Option.map_some]
      iterate 11
        first
          | (refine wpPlan_take ?_ (by rfl) (fun w' hS' => ?_) ?_; rotate_left; (obtain ⟨s0, s1⟩ := hS'; go_simp; first | done | with_reducible rfl); simp only [Act.put, List.setIfInBounds_toArray, List.set_cons_zero, List.set_cons_succ])
          | (refine wpPlan_skip (by rfl) ?_; simp only [Act.put, List.setIfInBounds_toArray, List.set_cons_zero, List.set_cons_succ])
      refine wpPlan_end ?_
      go_wp2_with fail
      refine wp_region_plan [(true, 0), (true, 1), (true, 2), (true, 3), (true, 4), (true, 5), (true, 6), (true, 7), (true, 8), (true, 9), (true, 10), (true, 11), (true, 12), (true, 13), (true, 14), (true, 15), (true, 16), (true, 17), (true, 18)] [19] (fun W => W.cell? ⟨db, 1, none⟩ = some (.int .i64 m) ∧ W.cell? ⟨rb, 2, none⟩ = some (.slice (some ⟨g, 0, none⟩) nS c0) ∧ W.cell? ⟨g, m * 3, none⟩ = some (.int .i64 ou) ∧ W.cell? ⟨g, m * 3 + 1, none⟩ = some (.int .i64 ob)) (by kernel_rfl) (by kernel_rfl) (fun c a d v w h => HQP.out c a d v w h) ⟨q1, r0, hc0, hc1⟩ (fun hS0 => ?_)
      simp only [planOps, List.filterMap_cons, List.filterMap_nil, List.getElem?_toArray, List.getElem?_cons_zero, List.getElem?_cons_succ, Option.map_some]
      iterate 19
        first
          | (refine wpPlan_take ?_ (by rfl) (fun w' hS' => ?_) ?_; rotate_left; (obtain ⟨s0, s1, s2, s3⟩ := hS'; go_simp; first | done | with_reducible rfl); simp only [Act.put, List.setIfInBounds_toArray, List.set_cons_zero, List.set_cons_succ])
          | (refine wpPlan_skip (by rfl) ?_; simp only [Act.put, List.setIfInBounds_toArray, List.set_cons_zero, List.set_cons_succ])
      refine wpPlan_end ?_
      go_wp2
      refine HK.out _ _ ?_ HD.out.duo.drew.drew
      rw [HOB.out, HOU.out, ← HNS.out]
      exact ⟨⟨⟨rfl, rfl, rfl, rfl, rfl, rfl⟩, rfl⟩, rfl, rfl, rfl, rfl, rfl, rfl, rfl, rfl, rfl⟩
    · have z2 : decide (m < nS) = false := by simpa using h1
      go_wp2_with fail
      refine wp_region_plan [(true, 0), (true, 1), (true, 2), (true, 3), (true, 4), (true, 5), (true, 6), (true, 7), (true, 8), (true, 9), (true, 10)] [11, 12] (fun W => W.cell? ⟨db, 1, none⟩ = some (.int .i64 m) ∧ W.cell? ⟨rb, 2, none⟩ = some (.slice a0 nS c0)) (by kernel_rfl) (by kernel_rfl) (fun c a d v w h => HQP.out c a d v w h) ⟨q1, r0⟩ (fun hS0 => ?_)
      simp only [planOps, List.filterMap_cons, List.filterMap_nil, List.getElem?_toArray, List.getElem?_cons_zero, List.getElem?_cons_succ, Option.map_some]
      iterate 11
        first
          | (refine wpPlan_take ?_ (by rfl) (fun w' hS' => ?_) ?_; rotate_left; (obtain ⟨s0, s1⟩ := hS'; go_simp; first | done | with_reducible rfl); simp only [Act.put, List.setIfInBounds_toArray, List.set_cons_zero, List.set_cons_succ])
          | (refine wpPlan_skip (by rfl) ?_; simp only [Act.put, List.setIfInBounds_toArray, List.set_cons_zero, List.set_cons_succ])
      refine wpPlan_end ?_
      go_wp2
      refine HK.out _ _ ?_ HD.out.duo.drew
      have hsc : H.scope? (m : Int) = none := by
        simp only [LHeap.scope?, if_neg (show ¬ (m : Int) < 0 by omega), Int.toNat_natCast]
        exact List.getElem?_eq_none (by rw [← HNS.out]; omega)
      have hob : objOf H (m : Int) = -1 := by simp only [objOf, hsc]
      have hou : outOf H (m : Int) = -1 := by simp only [outOf, hsc]
      rw [hob, hou, ← HNS.out]
      exact ⟨⟨⟨rfl, rfl, rfl, rfl, rfl, rfl⟩, rfl⟩, rfl, rfl, rfl, rfl, rfl, rfl, rfl, rfl, rfl⟩
  · have z1 : decide (0 ≤ da) = false := by simpa using h0
    go_wp2_with fail
    refine wp_region_plan [(true, 0), (true, 1), (true, 2), (true, 3), (true, 4), (true, 5), (true, 6), (true, 7), (true, 8), (true, 9), (true, 10)] [11, 12] (fun W => W.cell? ⟨db, 1, none⟩ = some (.int .i64 da) ∧ W.cell? ⟨rb, 2, none⟩ = some (.slice a0 nS c0)) (by kernel_rfl) (by kernel_rfl) (fun c a d v w h => HQP.out c a d v w h) ⟨q1, r0⟩ (fun hS0 => ?_)
    simp only [planOps, List.filterMap_cons, List.filterMap_nil, List.getElem?_toArray, List.getElem?_cons_zero, List.getElem?_cons_succ, Option.map_some]
    iterate 11
      first
        | (refine wpPlan_take ?_ (by rfl) (fun w' hS' => ?_) ?_; rotate_left; (obtain ⟨s0, s1⟩ := hS'; go_simp; first | done | with_reducible rfl); simp only [Act.put, List.setIfInBounds_toArray, List.set_cons_zero, List.set_cons_succ])
        | (refine wpPlan_skip (by rfl) ?_; simp only [Act.put, List.setIfInBounds_toArray, List.set_cons_zero, List.set_cons_succ])
    refine wpPlan_end ?_
    go_wp2
    refine HK.out _ _ ?_ HD.out.duo.drew
    have hsc : H.scope? da = none := by simp only [LHeap.scope?, if_pos (show da < 0 by omega)]
    have hob : objOf H da = -1 := by simp only [objOf, hsc]
    have hou : outOf H da = -1 := by simp only [outOf, hsc]
    rw [hob, hou, ← HNS.out]
    exact ⟨⟨⟨rfl, rfl, rfl, rfl, rfl, rfl⟩, rfl⟩, rfl, rfl, rfl, rfl, rfl, rfl, rfl, rfl, rfl⟩
end
end Go.Proofs.YtfanolcjgaccpaaDoor
