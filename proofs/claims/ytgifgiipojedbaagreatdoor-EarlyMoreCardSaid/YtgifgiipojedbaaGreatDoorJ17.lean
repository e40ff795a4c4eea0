/- Package early: function. -/
import Derived.Test.YtgifgiipojedbaaGreatDoorJ16
namespace Go.Proofs.YtgifgiipojedbaaGreatDoor
open Go Go.RowKit
set_option maxRecDepth 100000
set_option linter.unusedVariables false

theorem params_step {st : Bool} {T : List ByteArray} {k : Nat} {s : ByteArray} (h : T[k]? = some s) : paramsE st (T.take k) (T.drop k) = if bannedF st s then 5 else if st && Lib.containsS (T.take k) s then 9 else paramsE st (T.take (k + 1)) (T.drop (k + 1)) := by
  obtain ⟨hk, he⟩ := List.getElem?_eq_some_iff.1 h
  rw [List.drop_eq_getElem_cons hk, List.take_succ_eq_append_getElem hk, he]
  rfl
theorem func_code (st : Bool) (t : ByteArray) (ps : List ByteArray) (bd : ATree) (K : Int) : (if funcE st t ps bd ≠ 0 then funcE st t ps bd else K) =
    if bannedF st t then 5 else if paramsE st [] ps ≠ 0 then paramsE st [] ps else if (letsT bd).any (fun s => Lib.containsS ps s) then 9 else if scopeF bd true then 9 else K := by
  unfold funcE
  by_cases h1 : bannedF st t = true
  · simp only [if_pos h1]; rfl
  simp only [if_neg h1]
  by_cases h2 : paramsE st [] ps ≠ 0
  · simp only [if_pos h2]
  simp only [if_neg h2]
  by_cases h3 : (letsT bd).any (fun s => Lib.containsS ps s) = true
  · simp only [if_pos h3]; rfl
  simp only [if_neg h3]
  by_cases h4 : scopeF bd true = true
  · simp only [if_pos h4]; rfl
  simp only [if_neg h4]
  rfl

set_option maxHeartbeats 16000000 in
theorem efunc_true {B m : Nat} (hK : EKids B m) (a : ATree) (w : World) (ins : Bool) (hm : a.many ≤ m + 1) (hbig : a.many < 274877906944) (hT : TreeAt w B a) (ps bd : ATree) (hk : a.kids = [ps, bd]) (hok : ∀ k ∈ bd.kids, WA k) :
    Calls Tryz.prog 124 #[.agg #[.bool true, .bool ins], a.ptr] w fun e w' => e = .returned (.int .i64 (if funcE true a.text (ps.kids.map ATree.text) bd ≠ 0 then funcE true a.text (ps.kids.map ATree.text) bd else kidsE bd.kids true true)) ∧ Below w.heap.size w w' := by
  rw [func_code]
  obtain ⟨i0, hi, hz0, hz1, hz2⟩ := info_parts Tryz.infoStr
  have hmem : ps ∈ a.kids ∧ bd ∈ a.kids := by rw [hk]; simp
  have hmany : a.many = ps.many + bd.many + 1 := by
    obtain ⟨b, v, k, t, n, ks⟩ := a
    simp only [ATree.kids] at hk
    subst hk
    simp only [ATree.many, manyLA]
    omega
  obtain ⟨p, cp, hv, hge, hmx⟩ := hT.vOf
  have hrow := hT.rowOf
  obtain ⟨g, hp⟩ : ∃ g, p = some ⟨g, 0, none⟩ := by
    rcases ownsRow_cases hrow with ⟨_, h2⟩ | ⟨g, cap, h1, _⟩
    · rw [hk] at h2; simp at h2
    · rw [hv] at h1; simp only [Value.slice.injEq] at h1; exact ⟨g, h1.1⟩
  subst hp
  have c3 : w.cell? ⟨a.b, 3, none⟩ = some (.slice (some ⟨g, 0, none⟩) 2 cp) := by rw [show (2 : Nat) = a.kids.length by rw [hk]; rfl, ← hv]; exact hT.c3
  have cx := ownsRow_cell1 hrow (g := g) (by rw [hv]; rfl) (i := 0) (x := ps.ptr) (by rw [hk]; rfl)
  have cy := ownsRow_cell1 hrow (g := g) (by rw [hv]; rfl) (i := 1) (x := bd.ptr) (by rw [hk]; rfl)
  have hge2 : 2 ≤ cp := by rw [hk] at hge; exact hge
  unfold maxLen at hmx
  have hlg := (World.ownsRow.lt hrow g (by rw [hv]; rfl)).2
  have hTp := hT.kid hmem.1
  have hTb := hT.kid hmem.2
  obtain ⟨p2, cp2, hv2, hge3, hmx2⟩ := hTp.vOf
  have p3 : w.cell? ⟨ps.b, 3, none⟩ = some (.slice p2 ps.kids.length cp2) := by rw [← hv2]; exact hTp.c3
  have c1 := hT.c1
  have hkl := kids_le ps
  have hkl2 := kids_le bd
  have hlen2 : ps.kids.length ≤ 9223372036854775807 := by unfold maxLen at hmx2; omega
  have hql : ps.kids.length < 274877906944 := by omega
  have hqb : bd.kids.length < 274877906944 := by omega
  have HV2 := Lib.hid hv2
  obtain ⟨tx, htx⟩ : ∃ tx, tx = a.text := ⟨_, rfl⟩
  rw [← htx] at c1 ⊢
  obtain ⟨T, hTT⟩ : ∃ T, T = ps.kids.map ATree.text := ⟨_, rfl⟩
  rw [← hTT]
  obtain ⟨P, hP⟩ : ∃ P, P = bd.kids.filter isLet := ⟨_, rfl⟩
  have hlT : letsT bd = P.map ATree.text := by rw [hP]; rfl
  rw [hlT]
  have hPk : ∀ x, x ∈ P → x ∈ bd.kids := fun x hx => by rw [hP] at hx; exact (List.mem_filter.1 hx).1
  have hPl : P.length ≤ bd.kids.length := by rw [hP]; exact List.length_filter_le _ _
  have hL := fun W (h : TreeAt W B bd) => lets_any W B bd h (by omega)
  simp only [← hP] at hL
  have HL := Lib.hid hL
  have HPK := Lib.hid hPk
  have HBN := Lib.hid (fun W s => banned_any W true true s)
  have HSC := Lib.hid (fun W (h : TreeAt W B bd) => scope_any W B bd true true true h (by omega))
  have HKI := Lib.hid (fun W (h : TreeAt W B bd) => hK bd W true true (by omega) hok (by omega) h)
  obtain ⟨bf, hbf⟩ : ∃ b, b = bannedF true tx := ⟨_, rfl⟩
  obtain ⟨RP, hRP⟩ : ∃ r, r = paramsE true [] T := ⟨_, rfl⟩
  obtain ⟨LB, hLB⟩ : ∃ r, r = (P.map ATree.text).any (fun s => Lib.containsS T s) := ⟨_, rfl⟩
  obtain ⟨SB, hSB⟩ : ∃ r, r = scopeF bd true := ⟨_, rfl⟩
  obtain ⟨RK, hRK⟩ : ∃ r, r = kidsE bd.kids true true := ⟨_, rfl⟩
  rw [← hbf, ← hRP, ← hLB, ← hSB, ← hRK]
  rw [← hSB] at HSC
  rw [← hRK] at HKI
  obtain ⟨code, hcode⟩ : ∃ c : Int, c = if bf then 5 else if RP ≠ 0 then RP else if LB then 9 else if SB then 9 else RK := ⟨_, rfl⟩
  rw [← hcode]
  have HCODE := Lib.hid hcode
  have HBF := Lib.hid hbf
  have HRP := Lib.hid hRP
  have HLB := Lib.hid hLB
  have HTT := Lib.hid hTT
  have hall : ∀ W, Below w.heap.size w W → W.cell? ⟨a.b, 3, none⟩ = some (.slice (some ⟨g, 0, none⟩) 2 cp) ∧ W.cell? ⟨g, 0, none⟩ = some ps.ptr ∧ W.cell? ⟨g, 1, none⟩ = some bd.ptr ∧ W.cell? ⟨ps.b, 3, none⟩ = some (.slice p2 ps.kids.length cp2) ∧ W.cell? ⟨a.b, 1, none⟩ = some (.string tx) ∧ TreeAt W B ps ∧ TreeAt W B bd := fun W h =>
    ⟨(World.cell?_of_block (h.block a.b hT.lt)).trans c3, (World.cell?_of_block (h.block g hlg)).trans cx, (World.cell?_of_block (h.block g hlg)).trans cy, (World.cell?_of_block (h.block ps.b hTp.lt)).trans p3, (World.cell?_of_block (h.block a.b hT.lt)).trans c1, hTp.bel h, hTb.bel h⟩
  have hba : Below w.heap.size w (w.alloc (.cells #[.bool true, .bool ins] 69)) := (Below.refl _ _).alloc (Nat.le_refl _) _
  have hbx : Below w.heap.size w (w.alloc (.cells #[.bool true, .bool true] 69)) := (Below.refl _ _).alloc (Nat.le_refl _) _
  obtain ⟨k3, _, ky, _⟩ := hall _ hba
  have HALL := Lib.hid hall
  have HBA := Lib.hid hba
  unfold ATree.ptr at HKI HSC HL HALL ky ⊢
  obtain ⟨q, hq⟩ : ∃ q, q = ps.kids.length := ⟨_, rfl⟩
  rw [← hq] at HALL hlen2 hge3 hql
  have HQ := Lib.hid hq
  clear hK hT hm hbig hk hok hmem hmany hv hge hrow c3 cx cy hTp hTb hv2 p3 c1 hkl hkl2 htx hTT hP hlT hPk hL hbf hRP hLB hSB hRK hcode hall hba hq
  go_enter Tryz.func124, Tryz.ntmps124
  go_wp2_with fail
  have d0 : (w.alloc (.cells #[.bool true, .bool true] 69)).cell? ⟨w.heap.size, 0, none⟩ = some (.bool true) := by simp
  have d1 : (w.alloc (.cells #[.bool true, .bool true] 69)).cell? ⟨w.heap.size, 1, none⟩ = some (.bool true) := by simp
  have hsz : (w.alloc (.cells #[.bool true, .bool true] 69)).heap.size = w.heap.size + 1 := by simp
  obtain ⟨w1, hw1⟩ : ∃ w1, w1 = w.alloc (.cells #[.bool true, .bool true] 69) := ⟨_, rfl⟩
  rw [← hw1] at d0 d1 hsz hbx ⊢
  obtain ⟨_, _, _, _, c1, _, _⟩ := HALL.out _ hbx
  have hall1 : ∀ W, Below w1.heap.size w1 W → W.cell? ⟨w.heap.size, 0, none⟩ = some (.bool true) ∧ W.cell? ⟨w.heap.size, 1, none⟩ = some (.bool true) ∧ Below w.heap.size w W ∧ w1.heap.size ≤ W.heap.size := fun W h =>
    ⟨(World.cell?_of_block (h.block w.heap.size (by omega))).trans d0, (World.cell?_of_block (h.block w.heap.size (by omega))).trans d1, hbx.trans (h.mono hbx.size), h.size⟩
  have H1 := Lib.hid hall1
  have HBX := Lib.hid hbx
  have HW1 := Lib.hid hw1
  clear hall1 hbx hw1 k3 ky
  refine wp_region_plan [(true, 0), (true, 1), (true, 2), (true, 3), (true, 4)] [5] (fun W => W.cell? ⟨w.heap.size, 0, none⟩ = some (.bool true) ∧ W.cell? ⟨w.heap.size, 1, none⟩ = some (.bool true) ∧ W.cell? ⟨a.b, 1, none⟩ = some (.string tx)) (by kernel_rfl) (by kernel_rfl) (fun _ _ d _ _ h => by cases d <;> exact h) ⟨d0, d1, c1⟩ (fun hS0 => ?_)
  simp only [planOps, List.filterMap_cons, List.filterMap_nil, List.getElem?_toArray, List.getElem?_cons_zero, List.getElem?_cons_succ, Option.map_some]
  iterate 5
    first
      | (refine wpPlan_take ?_ (by rfl) (fun w' hS' => ?_) ?_; rotate_left; (obtain ⟨s0, s1, s2⟩ := hS'; go_simp; first | done | with_reducible rfl); simp only [Act.put, List.setIfInBounds_toArray, List.set_cons_zero, List.set_cons_succ])
      | (refine wpPlan_skip (by rfl) ?_; simp only [Act.put, List.setIfInBounds_toArray, List.set_cons_zero, List.set_cons_succ])
  refine wpPlan_end ?_
  go_wp2_with fail
  refine (HBN.out w1.drew tx).mono ?_
  rintro e w2 ⟨rfl, hb2⟩
  rw [← HBF.out]
  have HB2 : Hid (Below w1.heap.size w1 w2) := Lib.hid ((Below.refl w1.heap.size w1).drew.trans hb2)
  clear hb2 HBF d0 d1 c1
  obtain ⟨x0, x1, hbw2, hs2⟩ := H1.out _ HB2.out
  obtain ⟨k3, kx, ky, k4, _, _, _⟩ := HALL.out _ hbw2
  have HBW2 := Lib.hid hbw2
  clear hbw2
  cases bf
  rotate_left
  · go_wp2
    go_ret
    exact ⟨by rw [HCODE.out]; rfl, HBW2.out⟩
  go_wp2_with fail
  go_loopw [5, 40] (fun v i wr => ∃ (k : Nat) (v' : Value), v' = v ∧ k ≤ q ∧ i = .int .i64 k ∧ Hid (Texts wr w1.heap.size v' (T.take k)) ∧ Hid (Below w1.heap.size w1 wr) ∧ Hid (paramsE true (T.take k) (T.drop k) = RP)) (fun _ i _ => q - (intOf i).toNat)
  case atStart => exact ⟨0, _, rfl, Nat.zero_le _, rfl, Lib.hid (Texts.nil _ _), HB2, Lib.hid HRP.out.symm⟩
  case round =>
    obtain ⟨k, v, rfl, hk, rfl, TX, HB, HR⟩ := hrel
    clear HB2 HBW2
    obtain ⟨y0, y1, hbw, hsw⟩ := H1.out _ HB.out
    obtain ⟨k3, kx, ky, k4, _, hTps, hTbd⟩ := HALL.out _ hbw
    have HBW := Lib.hid hbw
    by_cases hkn : k < q
    · obtain ⟨x, hx⟩ : ∃ x, ps.kids[k]? = some x := ⟨_, List.getElem?_eq_getElem (by rw [← HQ.out]; exact hkn)⟩
      have hrow := hTps.rowOf
      rcases ownsRow_cases hrow with ⟨_, h2⟩ | ⟨g0, cap0, hv0, _⟩
      · rw [← HQ.out] at h2; omega
      have hp : p2 = some ⟨g0, 0, none⟩ := by
        have := HV2.out.symm.trans hv0
        simp only [Value.slice.injEq] at this
        exact this.1
      subst hp
      have cx := ownsRow_cell1 hrow (g := g0) (by rw [hv0]; rfl) (i := k) (x := x.ptr) (by rw [List.getElem?_map, hx]; rfl)
      unfold ATree.ptr at cx
      have hTx := hTps.kid (List.mem_of_getElem? hx)
      have c1 := hTx.c1
      have hxl := hTx.lt
      have hTk : T[k]? = some x.text := by rw [HTT.out, List.getElem?_map, hx]; rfl
      have hstep := params_step (st := true) hTk
      rw [HR.out] at hstep
      have htl : (T.take k).length = k := by rw [List.length_take, HTT.out, List.length_map, ← HQ.out]; omega
      have htk : T.take k ++ [x.text] = T.take (k + 1) := by
        obtain ⟨hkl, hke⟩ := List.getElem?_eq_some_iff.1 hTk
        rw [List.take_succ_eq_append_getElem hkl, hke]
      obtain ⟨ty, hty⟩ : ∃ t, t = x.text := ⟨_, rfl⟩
      rw [← hty] at c1 hstep htk
      obtain ⟨l, hl⟩ : ∃ l, l = T.take k := ⟨_, rfl⟩
      rw [← hl] at hstep htl htk TX
      obtain ⟨bp, hbp⟩ : ∃ b, b = bannedF true ty := ⟨_, rfl⟩
      rw [← hbp] at hstep
      obtain ⟨cb, hcb⟩ : ∃ b, b = Lib.containsS l ty := ⟨_, rfl⟩
      rw [← hcb] at hstep
      obtain ⟨pv, nv, cv, rfl⟩ := TX.out.slice
      have HCB := Lib.hid hcb
      have HBP := Lib.hid hbp
      have STEP := Lib.hid hstep
      have HTK := Lib.hid htk
      clear hrow hv0 hx hTx hTk hstep htk hty hl hbp hcb hTps hTbd hbw k3 kx ky k4
      go_wp2_with fail
      refine wp_region_plan [(true, 0), (true, 1), (true, 2), (true, 3), (true, 4)] [5, 6] (fun W => W.cell? ⟨w.heap.size, 0, none⟩ = some (.bool true) ∧ W.cell? ⟨w.heap.size, 1, none⟩ = some (.bool true) ∧ W.cell? ⟨x.b, 1, none⟩ = some (.string ty)) (by kernel_rfl) (by kernel_rfl) (fun _ _ d _ _ h => by cases d <;> exact h) ⟨y0, y1, c1⟩ (fun hS0 => ?_)
      simp only [planOps, List.filterMap_cons, List.filterMap_nil, List.getElem?_toArray, List.getElem?_cons_zero, List.getElem?_cons_succ, Option.map_some]
      iterate 5
        first
          | (refine wpPlan_take ?_ (by rfl) (fun w' hS' => ?_) ?_; rotate_left; (obtain ⟨s0, s1, s2⟩ := hS'; go_simp; first | done | with_reducible rfl); simp only [Act.put, List.setIfInBounds_toArray, List.set_cons_zero, List.set_cons_succ])
          | (refine wpPlan_skip (by rfl) ?_; simp only [Act.put, List.setIfInBounds_toArray, List.set_cons_zero, List.set_cons_succ])
      refine wpPlan_end ?_
      go_wp2_with fail
      refine (HBN.out wr.drew ty).mono ?_
      rintro e w3 ⟨rfl, hb3⟩
      rw [← HBP.out]
      have hb4 : Below wr.heap.size wr w3 := (Below.refl wr.heap.size wr).drew.trans hb3
      have HB3 := Lib.hid (HB.out.trans (hb4.mono hsw))
      have TX3 := Lib.hid (TX.out.bel hb4)
      have c13 : w3.cell? ⟨x.b, 1, none⟩ = some (.string ty) := (World.cell?_of_block (hb4.block x.b hxl)).trans c1
      obtain ⟨z0, z1, hbw3, hsw3⟩ := H1.out _ HB3.out
      have HBW3 := Lib.hid hbw3
      have hxl3 : x.b < w3.heap.size := Nat.lt_of_lt_of_le hxl hb4.size
      clear hb3 hb4 HBP y0 y1 c1 TX HB HR HBW hbw3
      cases bp
      rotate_left
      · go_wp2
        go_ret
        refine ⟨?_, HBW3.out⟩
        have h1 := STEP.out
        simp only [if_true] at h1
        rw [HCODE.out, h1]
        rfl
      have HCN := Lib.hid (contains_texts TX3.out ty)
      rw [← HCB.out] at HCN
      clear HCB
      have TX4 := TX3
      unfold Texts at TX4
      go_wp2_with fail
      refine HCN.out.mono ?_
      rintro e w' ⟨rfl, hww⟩
      rw [hww]
      clear hww w' HCN
      cases cb
      rotate_left
      · go_wp2
        go_ret
        refine ⟨?_, HBW3.out⟩
        have h1 := STEP.out
        simp only [Bool.false_eq_true, if_false, Bool.and_self, if_true] at h1
        rw [HCODE.out, h1]
        rfl
      go_wp2_with (at_builtin; go_must (refine wpList_append_lies _ rfl (.tmp 62) (.tmp 67) 45 rfl w1.heap.size 9 i0 (.string ByteArray.empty) 1 16 Tryz.underlying45 hi hz0 hz1 hz2 rfl (by decide) (.slice pv nv cv) l.length (l.map Value.string) rfl (TX4.out.alloc _) ⟨w3.heap.size, 0, none⟩ 1 1 [.string ty] rfl rfl (fun j u hu => cell_one_new w3 _ _ j u hu) (by intro u hu; simp at hu; subst hu; rfl) (by first | omega | (simp; omega)) (by unfold maxLen; omega) (by first | omega | (simp; omega)) (by first | omega | (simp; omega)) (w3.heap.size + 1) (by simp) ?_); intro g cap w4 hown2 hgrow2 hat2 hgl2; have HG := Lib.hid hgrow2; have HW := Lib.hid hown2; clear hgrow2 hown2 hat2 hgl2)
      go_roundw
      case rel =>
        refine ⟨k + 1, _, rfl, by omega, by go_num, Lib.hid ?_, Lib.hid ?_, Lib.hid ?_⟩
        · rw [← HTK.out]
          have h2 := texts_push HW.out
          rw [htl] at h2
          exact h2
        · exact (HB3.out.alloc hsw3 _).grown HG.out (by simp; omega) fun j hj => (World.ownsRow.lt TX4.out j hj).1
        · have h1 := STEP.out
          simp only [Bool.false_eq_true, if_false, Bool.and_false] at h1
          exact h1.symm
      case measure => simp [intOf]; omega
    · have hk2 : k = q := by omega
      subst hk2
      have htl : T.length = k := by rw [HTT.out, List.length_map, ← HQ.out]
      have htx := TX.out
      rw [List.take_of_length_le (by omega)] at htx
      have hrp : RP = 0 := by
        have := HR.out
        rw [List.take_of_length_le (by omega), List.drop_of_length_le (by omega)] at this
        rw [← this]
        rfl
      subst hrp
      have TX5 := Lib.hid htx
      obtain ⟨pv, nv, cv, rfl⟩ := htx.slice
      have HTB := Lib.hid hTbd
      clear htx hbw hTps hTbd TX HR htl k4 kx HRP
      go_wp2_with fail
      refine (HL.out wr HTB.out).mono ?_
      rintro e w5 ⟨v5, rfl, hn5, hb5⟩
      obtain ⟨p5, cp5, rfl, hge5, hmx5, hpp5⟩ := hn5.slice
      have HB5 := Lib.hid (HB.out.trans (hb5.mono hsw))
      have TX6 := Lib.hid (TX5.out.bel hb5)
      have N5 := Lib.hid hn5
      have HPP5 := Lib.hid hpp5
      obtain ⟨zf, hzf⟩ : ∃ z, z = wr.heap.size := ⟨_, rfl⟩
      rw [← hzf] at N5
      obtain ⟨m2, hm1⟩ : ∃ m, m = P.length := ⟨_, rfl⟩
      have hmq : m2 ≤ 9223372036854775807 := by unfold maxLen at hmx5; omega
      rw [← hm1] at hge5 N5 hPl ⊢
      have HM1 := Lib.hid hm1
      clear hn5 hb5 hpp5 hzf hm1 TX5 HB HBW
      go_wp2_with fail
      go_loopw [78] (fun i wr => ∃ (k : Nat), k ≤ m2 ∧ i = .int .i64 k ∧ Hid (Texts wr w1.heap.size (.slice pv nv cv) T) ∧ Hid (Nodes wr zf (.slice p5 m2 cp5) P) ∧ Hid (Below w1.heap.size w1 wr) ∧ Hid (∀ x ∈ P.take k, Lib.containsS T x.text = false)) (fun i _ => m2 - (intOf i).toNat)
      case atStart => exact ⟨0, Nat.zero_le _, rfl, TX6, N5, HB5, Lib.hid (by simp)⟩
      case round =>
        obtain ⟨k, hk, rfl, TX, NO, HB, HF⟩ := hrel
        clear TX6 N5 HB5
        obtain ⟨y0, y1, hbw, hsw⟩ := H1.out _ HB.out
        obtain ⟨k3, kx, ky, k4, _, hTps, hTbd⟩ := HALL.out _ hbw
        have HBW := Lib.hid hbw
        by_cases hkn : k < m2
        · obtain ⟨x, hx⟩ : ∃ x, P[k]? = some x := ⟨_, List.getElem?_eq_getElem (by rw [← HM1.out]; exact hkn)⟩
          obtain ⟨g0, hp⟩ := HPP5.out k x hx
          subst hp
          have cx := NO.out.cell rfl hx
          have hTx := hTbd.kid (HPK.out x (List.mem_of_getElem? hx))
          have c1 := hTx.c1
          have HCN := Lib.hid (contains_texts TX.out x.text)
          obtain ⟨cb, hcb⟩ : ∃ b, b = Lib.containsS T x.text := ⟨_, rfl⟩
          rw [← hcb] at HCN
          have HCB := Lib.hid hcb
          have HX := Lib.hid hx
          obtain ⟨ty, hty⟩ : ∃ t, t = x.text := ⟨_, rfl⟩
          rw [← hty] at c1 HCN
          clear hTx hx hcb hty hTps hTbd hbw k3 kx ky k4 y0 y1
          go_wp2_with fail
          refine HCN.out.mono ?_
          rintro e w' ⟨rfl, hww⟩
          rw [hww]
          clear hww w' HCN
          cases cb
          · go_wp2
            go_roundw
            case rel =>
              refine ⟨k + 1, by omega, by go_num, TX, NO, HB, Lib.hid ?_⟩
              intro y hy
              obtain ⟨hkl, hke⟩ := List.getElem?_eq_some_iff.1 HX.out
              rw [List.take_succ_eq_append_getElem hkl, List.mem_append] at hy
              rcases hy with hy | hy
              · exact HF.out y hy
              · simp only [List.mem_singleton] at hy
                rw [hy, hke]
                exact HCB.out.symm
            case measure => simp [intOf]; omega
          · go_wp2
            go_ret
            refine ⟨?_, HBW.out⟩
            have h1 : LB = true := by
              rw [HLB.out, List.any_eq_true]
              exact ⟨x.text, List.mem_map.2 ⟨x, List.mem_of_getElem? HX.out, rfl⟩, HCB.out.symm⟩
            rw [HCODE.out, h1]
            rfl
        · have hk2 : k = m2 := by omega
          subst hk2
          have h1 : LB = false := by
            rw [HLB.out, List.any_eq_false]
            intro s hs
            obtain ⟨y, hy, rfl⟩ := List.mem_map.1 hs
            have := HF.out y (by rw [List.take_of_length_le (by rw [← HM1.out]; exact Nat.le_refl _)]; exact hy)
            simp [this]
          subst h1
          have HTB := Lib.hid hTbd
          clear hTps hTbd hbw k4 kx HF TX NO HLB
          go_wp2_with fail
          refine wp_region_plan [(true, 0), (true, 1), (true, 2), (true, 3), (true, 4), (true, 5), (true, 6)] [7, 8] (fun W => W.cell? ⟨w.heap.size, 0, none⟩ = some (.bool true) ∧ W.cell? ⟨w.heap.size, 1, none⟩ = some (.bool true) ∧ W.cell? ⟨a.b, 3, none⟩ = some (.slice (some ⟨g, 0, none⟩) 2 cp) ∧ W.cell? ⟨g, 1, none⟩ = some (.pointer (some ⟨bd.b, 0, none⟩))) (by kernel_rfl) (by kernel_rfl) (fun _ _ d _ _ h => by cases d <;> exact h) ⟨y0, y1, k3, ky⟩ (fun hS0 => ?_)
          simp only [planOps, List.filterMap_cons, List.filterMap_nil, List.getElem?_toArray, List.getElem?_cons_zero, List.getElem?_cons_succ, Option.map_some]
          iterate 7
            first
              | (refine wpPlan_take ?_ (by rfl) (fun w' hS' => ?_) ?_; rotate_left; (obtain ⟨s0, s1, s2, s3⟩ := hS'; go_simp; first | done | with_reducible rfl); simp only [Act.put, List.setIfInBounds_toArray, List.set_cons_zero, List.set_cons_succ])
              | (refine wpPlan_skip (by rfl) ?_; simp only [Act.put, List.setIfInBounds_toArray, List.set_cons_zero, List.set_cons_succ])
          refine wpPlan_end ?_
          go_wp2_with fail
          refine (HSC.out wr.drew (HTB.out.keep fun k _ _ => rfl)).mono ?_
          rintro e w7 ⟨rfl, hb7⟩
          have hb8 : Below wr.heap.size wr w7 := (Below.refl wr.heap.size wr).drew.trans hb7
          have HB7 := Lib.hid (HB.out.trans (hb8.mono hsw))
          obtain ⟨z0, z1, hbw7, hsw7⟩ := H1.out _ HB7.out
          obtain ⟨l3, _, ly, _, _, _, hTb7⟩ := HALL.out _ hbw7
          have HBW7 := Lib.hid hbw7
          have HTB7 := Lib.hid hTb7
          clear hb7 hb8 hbw7 hTb7 y0 y1 k3 ky HTB HB HBW
          cases SB
          rotate_left
          · simp only [if_true]
            go_wp2
            go_ret
            exact ⟨by rw [HCODE.out]; rfl, HBW7.out⟩
          simp only [Bool.false_eq_true, if_false]
          go_wp2_with fail
          refine wp_region_plan [(true, 0), (true, 1), (true, 2), (true, 3), (true, 4), (true, 5), (true, 6)] [7, 8] (fun W => W.cell? ⟨w.heap.size, 0, none⟩ = some (.bool true) ∧ W.cell? ⟨w.heap.size, 1, none⟩ = some (.bool true) ∧ W.cell? ⟨a.b, 3, none⟩ = some (.slice (some ⟨g, 0, none⟩) 2 cp) ∧ W.cell? ⟨g, 1, none⟩ = some (.pointer (some ⟨bd.b, 0, none⟩))) (by kernel_rfl) (by kernel_rfl) (fun _ _ d _ _ h => by cases d <;> exact h) ⟨z0, z1, l3, ly⟩ (fun hS0 => ?_)
          simp only [planOps, List.filterMap_cons, List.filterMap_nil, List.getElem?_toArray, List.getElem?_cons_zero, List.getElem?_cons_succ, Option.map_some]
          iterate 7
            first
              | (refine wpPlan_take ?_ (by rfl) (fun w' hS' => ?_) ?_; rotate_left; (obtain ⟨s0, s1, s2, s3⟩ := hS'; go_simp; first | done | with_reducible rfl); simp only [Act.put, List.setIfInBounds_toArray, List.set_cons_zero, List.set_cons_succ])
              | (refine wpPlan_skip (by rfl) ?_; simp only [Act.put, List.setIfInBounds_toArray, List.set_cons_zero, List.set_cons_succ])
          refine wpPlan_end ?_
          go_wp2_with fail
          refine (HKI.out w7.drew (HTB7.out.keep fun k _ _ => rfl)).mono ?_
          rintro e w8 ⟨rfl, hb8⟩
          have HB8 : Hid (Below w.heap.size w w8) := Lib.hid (HBW7.out.drew.trans (hb8.mono HBW7.out.size))
          clear hb8
          go_wp2
          go_ret
          exact ⟨by rw [HCODE.out]; rfl, HB8.out⟩

set_option maxHeartbeats 16000000 in
theorem efunc_false {B m : Nat} (hK : EKids B m) (a : ATree) (w : World) (ins : Bool) (hm : a.many ≤ m + 1) (hbig : a.many < 274877906944) (hT : TreeAt w B a) (ps bd : ATree) (hk : a.kids = [ps, bd]) (hok : ∀ k ∈ bd.kids, WA k) :
    Calls Tryz.prog 124 #[.agg #[.bool false, .bool ins], a.ptr] w fun e w' => e = .returned (.int .i64 (if funcE (isStrict bd) a.text (ps.kids.map ATree.text) bd ≠ 0 then funcE (isStrict bd) a.text (ps.kids.map ATree.text) bd else kidsE bd.kids (isStrict bd) true)) ∧ Below w.heap.size w w' := by
  rw [func_code]
  obtain ⟨i0, hi, hz0, hz1, hz2⟩ := info_parts Tryz.infoStr
  have hmem : ps ∈ a.kids ∧ bd ∈ a.kids := by rw [hk]; simp
  have hmany : a.many = ps.many + bd.many + 1 := by
    obtain ⟨b, v, k, t, n, ks⟩ := a
    simp only [ATree.kids] at hk
    subst hk
    simp only [ATree.many, manyLA]
    omega
  obtain ⟨p, cp, hv, hge, hmx⟩ := hT.vOf
  have hrow := hT.rowOf
  obtain ⟨g, hp⟩ : ∃ g, p = some ⟨g, 0, none⟩ := by
    rcases ownsRow_cases hrow with ⟨_, h2⟩ | ⟨g, cap, h1, _⟩
    · rw [hk] at h2; simp at h2
    · rw [hv] at h1; simp only [Value.slice.injEq] at h1; exact ⟨g, h1.1⟩
  subst hp
  have c3 : w.cell? ⟨a.b, 3, none⟩ = some (.slice (some ⟨g, 0, none⟩) 2 cp) := by rw [show (2 : Nat) = a.kids.length by rw [hk]; rfl, ← hv]; exact hT.c3
  have cx := ownsRow_cell1 hrow (g := g) (by rw [hv]; rfl) (i := 0) (x := ps.ptr) (by rw [hk]; rfl)
  have cy := ownsRow_cell1 hrow (g := g) (by rw [hv]; rfl) (i := 1) (x := bd.ptr) (by rw [hk]; rfl)
  have hge2 : 2 ≤ cp := by rw [hk] at hge; exact hge
  unfold maxLen at hmx
  have hlg := (World.ownsRow.lt hrow g (by rw [hv]; rfl)).2
  have hTp := hT.kid hmem.1
  have hTb := hT.kid hmem.2
  obtain ⟨p2, cp2, hv2, hge3, hmx2⟩ := hTp.vOf
  have p3 : w.cell? ⟨ps.b, 3, none⟩ = some (.slice p2 ps.kids.length cp2) := by rw [← hv2]; exact hTp.c3
  have c1 := hT.c1
  have hkl := kids_le ps
  have hkl2 := kids_le bd
  have hlen2 : ps.kids.length ≤ 9223372036854775807 := by unfold maxLen at hmx2; omega
  have hql : ps.kids.length < 274877906944 := by omega
  have hqb : bd.kids.length < 274877906944 := by omega
  have HV2 := Lib.hid hv2
  obtain ⟨tx, htx⟩ : ∃ tx, tx = a.text := ⟨_, rfl⟩
  rw [← htx] at c1 ⊢
  have HST := Lib.hid (fun wr (h : TreeAt wr B bd) => strict_any wr B bd h)
  obtain ⟨sb, hsb⟩ : ∃ sb, sb = isStrict bd := ⟨_, rfl⟩
  rw [← hsb] at HST ⊢
  clear hsb
  obtain ⟨T, hTT⟩ : ∃ T, T = ps.kids.map ATree.text := ⟨_, rfl⟩
  rw [← hTT]
  obtain ⟨P, hP⟩ : ∃ P, P = bd.kids.filter isLet := ⟨_, rfl⟩
  have hlT : letsT bd = P.map ATree.text := by rw [hP]; rfl
  rw [hlT]
  have hPk : ∀ x, x ∈ P → x ∈ bd.kids := fun x hx => by rw [hP] at hx; exact (List.mem_filter.1 hx).1
  have hPl : P.length ≤ bd.kids.length := by rw [hP]; exact List.length_filter_le _ _
  have hL := fun W (h : TreeAt W B bd) => lets_any W B bd h (by omega)
  simp only [← hP] at hL
  have HL := Lib.hid hL
  have HPK := Lib.hid hPk
  have HBN := Lib.hid (fun W s => banned_any W sb true s)
  have HSC := Lib.hid (fun W (h : TreeAt W B bd) => scope_any W B bd sb true true h (by omega))
  have HKI := Lib.hid (fun W (h : TreeAt W B bd) => hK bd W sb true (by omega) hok (by omega) h)
  obtain ⟨bf, hbf⟩ : ∃ b, b = bannedF sb tx := ⟨_, rfl⟩
  obtain ⟨RP, hRP⟩ : ∃ r, r = paramsE sb [] T := ⟨_, rfl⟩
  obtain ⟨LB, hLB⟩ : ∃ r, r = (P.map ATree.text).any (fun s => Lib.containsS T s) := ⟨_, rfl⟩
  obtain ⟨SB, hSB⟩ : ∃ r, r = scopeF bd true := ⟨_, rfl⟩
  obtain ⟨RK, hRK⟩ : ∃ r, r = kidsE bd.kids sb true := ⟨_, rfl⟩
  rw [← hbf, ← hRP, ← hLB, ← hSB, ← hRK]
  rw [← hSB] at HSC
  rw [← hRK] at HKI
  obtain ⟨code, hcode⟩ : ∃ c : Int, c = if bf then 5 else if RP ≠ 0 then RP else if LB then 9 else if SB then 9 else RK := ⟨_, rfl⟩
  rw [← hcode]
  have HCODE := Lib.hid hcode
  have HBF := Lib.hid hbf
  have HRP := Lib.hid hRP
  have HLB := Lib.hid hLB
  have HTT := Lib.hid hTT
  have hall : ∀ W, Below w.heap.size w W → W.cell? ⟨a.b, 3, none⟩ = some (.slice (some ⟨g, 0, none⟩) 2 cp) ∧ W.cell? ⟨g, 0, none⟩ = some ps.ptr ∧ W.cell? ⟨g, 1, none⟩ = some bd.ptr ∧ W.cell? ⟨ps.b, 3, none⟩ = some (.slice p2 ps.kids.length cp2) ∧ W.cell? ⟨a.b, 1, none⟩ = some (.string tx) ∧ TreeAt W B ps ∧ TreeAt W B bd := fun W h =>
    ⟨(World.cell?_of_block (h.block a.b hT.lt)).trans c3, (World.cell?_of_block (h.block g hlg)).trans cx, (World.cell?_of_block (h.block g hlg)).trans cy, (World.cell?_of_block (h.block ps.b hTp.lt)).trans p3, (World.cell?_of_block (h.block a.b hT.lt)).trans c1, hTp.bel h, hTb.bel h⟩
  have hba : Below w.heap.size w (w.alloc (.cells #[.bool false, .bool ins] 69)) := (Below.refl _ _).alloc (Nat.le_refl _) _
  have hbx : Below w.heap.size w (w.alloc (.cells #[.bool sb, .bool true] 69)) := (Below.refl _ _).alloc (Nat.le_refl _) _
  obtain ⟨k3, _, ky, _⟩ := hall _ hba
  have HALL := Lib.hid hall
  have HBA := Lib.hid hba
  unfold ATree.ptr at HKI HSC HL HALL ky HST ⊢
  obtain ⟨q, hq⟩ : ∃ q, q = ps.kids.length := ⟨_, rfl⟩
  rw [← hq] at HALL hlen2 hge3 hql
  have HQ := Lib.hid hq
  clear hK hT hm hbig hk hok hmem hmany hv hge hrow c3 cx cy hTp hTb hv2 p3 c1 hkl hkl2 htx hTT hP hlT hPk hL hbf hRP hLB hSB hRK hcode hall hba hq
  go_enter Tryz.func124, Tryz.ntmps124
  go_wp2_with fail
  refine (HST.out _ (HALL.out _ HBA.out).2.2.2.2.2.2).mono ?_
  rintro e w' ⟨rfl, hww⟩
  rw [hww]
  clear hww w' HST
  go_wp2_with fail
  have d0 : (w.alloc (.cells #[.bool sb, .bool true] 69)).cell? ⟨w.heap.size, 0, none⟩ = some (.bool sb) := by simp
  have d1 : (w.alloc (.cells #[.bool sb, .bool true] 69)).cell? ⟨w.heap.size, 1, none⟩ = some (.bool true) := by simp
  have hsz : (w.alloc (.cells #[.bool sb, .bool true] 69)).heap.size = w.heap.size + 1 := by simp
  obtain ⟨w1, hw1⟩ : ∃ w1, w1 = w.alloc (.cells #[.bool sb, .bool true] 69) := ⟨_, rfl⟩
  rw [← hw1] at d0 d1 hsz hbx ⊢
  obtain ⟨_, _, _, _, c1, _, _⟩ := HALL.out _ hbx
  have hall1 : ∀ W, Below w1.heap.size w1 W → W.cell? ⟨w.heap.size, 0, none⟩ = some (.bool sb) ∧ W.cell? ⟨w.heap.size, 1, none⟩ = some (.bool true) ∧ Below w.heap.size w W ∧ w1.heap.size ≤ W.heap.size := fun W h =>
    ⟨(World.cell?_of_block (h.block w.heap.size (by omega))).trans d0, (World.cell?_of_block (h.block w.heap.size (by omega))).trans d1, hbx.trans (h.mono hbx.size), h.size⟩
  have H1 := Lib.hid hall1
  have HBX := Lib.hid hbx
  have HW1 := Lib.hid hw1
  clear hall1 hbx hw1 k3 ky
  refine wp_region_plan [(true, 0), (true, 1), (true, 2), (true, 3), (true, 4)] [5] (fun W => W.cell? ⟨w.heap.size, 0, none⟩ = some (.bool sb) ∧ W.cell? ⟨w.heap.size, 1, none⟩ = some (.bool true) ∧ W.cell? ⟨a.b, 1, none⟩ = some (.string tx)) (by kernel_rfl) (by kernel_rfl) (fun _ _ d _ _ h => by cases d <;> exact h) ⟨d0, d1, c1⟩ (fun hS0 => ?_)
  simp only [planOps, List.filterMap_cons, List.filterMap_nil, List.getElem?_toArray, List.getElem?_cons_zero, List.getElem?_cons_succ, Option.map_some]
  iterate 5
    first
      | (refine wpPlan_take ?_ (by rfl) (fun w' hS' => ?_) ?_; rotate_left; (obtain ⟨s0, s1, s2⟩ := hS'; go_simp; first | done | with_reducible rfl); simp only [Act.put, List.setIfInBounds_toArray, List.set_cons_zero, List.set_cons_succ])
      | (refine wpPlan_skip (by rfl) ?_; simp only [Act.put, List.setIfInBounds_toArray, List.set_cons_zero, List.set_cons_succ])
  refine wpPlan_end ?_
  go_wp2_with fail
  refine (HBN.out w1.drew tx).mono ?_
  rintro e w2 ⟨rfl, hb2⟩
  rw [← HBF.out]
  have HB2 : Hid (Below w1.heap.size w1 w2) := Lib.hid ((Below.refl w1.heap.size w1).drew.trans hb2)
  clear hb2 HBF d0 d1 c1
  obtain ⟨x0, x1, hbw2, hs2⟩ := H1.out _ HB2.out
  obtain ⟨k3, kx, ky, k4, _, _, _⟩ := HALL.out _ hbw2
  have HBW2 := Lib.hid hbw2
  clear hbw2
  cases bf
  rotate_left
  · go_wp2
    go_ret
    exact ⟨by rw [HCODE.out]; rfl, HBW2.out⟩
  go_wp2_with fail
  go_loopw [5, 40] (fun v i wr => ∃ (k : Nat) (v' : Value), v' = v ∧ k ≤ q ∧ i = .int .i64 k ∧ Hid (Texts wr w1.heap.size v' (T.take k)) ∧ Hid (Below w1.heap.size w1 wr) ∧ Hid (paramsE sb (T.take k) (T.drop k) = RP)) (fun _ i _ => q - (intOf i).toNat)
  case atStart => exact ⟨0, _, rfl, Nat.zero_le _, rfl, Lib.hid (Texts.nil _ _), HB2, Lib.hid HRP.out.symm⟩
  case round =>
    obtain ⟨k, v, rfl, hk, rfl, TX, HB, HR⟩ := hrel
    clear HB2 HBW2
    obtain ⟨y0, y1, hbw, hsw⟩ := H1.out _ HB.out
    obtain ⟨k3, kx, ky, k4, _, hTps, hTbd⟩ := HALL.out _ hbw
    have HBW := Lib.hid hbw
    by_cases hkn : k < q
    · obtain ⟨x, hx⟩ : ∃ x, ps.kids[k]? = some x := ⟨_, List.getElem?_eq_getElem (by rw [← HQ.out]; exact hkn)⟩
      have hrow := hTps.rowOf
      rcases ownsRow_cases hrow with ⟨_, h2⟩ | ⟨g0, cap0, hv0, _⟩
      · rw [← HQ.out] at h2; omega
      have hp : p2 = some ⟨g0, 0, none⟩ := by
        have := HV2.out.symm.trans hv0
        simp only [Value.slice.injEq] at this
        exact this.1
      subst hp
      have cx := ownsRow_cell1 hrow (g := g0) (by rw [hv0]; rfl) (i := k) (x := x.ptr) (by rw [List.getElem?_map, hx]; rfl)
      unfold ATree.ptr at cx
      have hTx := hTps.kid (List.mem_of_getElem? hx)
      have c1 := hTx.c1
      have hxl := hTx.lt
      have hTk : T[k]? = some x.text := by rw [HTT.out, List.getElem?_map, hx]; rfl
      have hstep := params_step (st := sb) hTk
      rw [HR.out] at hstep
      have htl : (T.take k).length = k := by rw [List.length_take, HTT.out, List.length_map, ← HQ.out]; omega
      have htk : T.take k ++ [x.text] = T.take (k + 1) := by
        obtain ⟨hkl, hke⟩ := List.getElem?_eq_some_iff.1 hTk
        rw [List.take_succ_eq_append_getElem hkl, hke]
      obtain ⟨ty, hty⟩ : ∃ t, t = x.text := ⟨_, rfl⟩
      rw [← hty] at c1 hstep htk
      obtain ⟨l, hl⟩ : ∃ l, l = T.take k := ⟨_, rfl⟩
      rw [← hl] at hstep htl htk TX
      obtain ⟨bp, hbp⟩ : ∃ b, b = bannedF sb ty := ⟨_, rfl⟩
      rw [← hbp] at hstep
      obtain ⟨cb, hcb⟩ : ∃ b, b = Lib.containsS l ty := ⟨_, rfl⟩
      rw [← hcb] at hstep
      obtain ⟨pv, nv, cv, rfl⟩ := TX.out.slice
      have HCB := Lib.hid hcb
      have HBP := Lib.hid hbp
      have STEP := Lib.hid hstep
      have HTK := Lib.hid htk
      clear hrow hv0 hx hTx hTk hstep htk hty hl hbp hcb hTps hTbd hbw k3 kx ky k4
      go_wp2_with fail
      refine wp_region_plan [(true, 0), (true, 1), (true, 2), (true, 3), (true, 4)] [5, 6] (fun W => W.cell? ⟨w.heap.size, 0, none⟩ = some (.bool sb) ∧ W.cell? ⟨w.heap.size, 1, none⟩ = some (.bool true) ∧ W.cell? ⟨x.b, 1, none⟩ = some (.string ty)) (by kernel_rfl) (by kernel_rfl) (fun _ _ d _ _ h => by cases d <;> exact h) ⟨y0, y1, c1⟩ (fun hS0 => ?_)
      simp only [planOps, List.filterMap_cons, List.filterMap_nil, List.getElem?_toArray, List.getElem?_cons_zero, List.getElem?_cons_succ, Option.map_some]
      iterate 5
        first
          | (refine wpPlan_take ?_ (by rfl) (fun w' hS' => ?_) ?_; rotate_left; (obtain ⟨s0, s1, s2⟩ := hS'; go_simp; first | done | with_reducible rfl); simp only [Act.put, List.setIfInBounds_toArray, List.set_cons_zero, List.set_cons_succ])
          | (refine wpPlan_skip (by rfl) ?_; simp only [Act.put, List.setIfInBounds_toArray, List.set_cons_zero, List.set_cons_succ])
      refine wpPlan_end ?_
      go_wp2_with fail
      refine (HBN.out wr.drew ty).mono ?_
      rintro e w3 ⟨rfl, hb3⟩
      rw [← HBP.out]
      have hb4 : Below wr.heap.size wr w3 := (Below.refl wr.heap.size wr).drew.trans hb3
      have HB3 := Lib.hid (HB.out.trans (hb4.mono hsw))
      have TX3 := Lib.hid (TX.out.bel hb4)
      have c13 : w3.cell? ⟨x.b, 1, none⟩ = some (.string ty) := (World.cell?_of_block (hb4.block x.b hxl)).trans c1
      obtain ⟨z0, z1, hbw3, hsw3⟩ := H1.out _ HB3.out
      have HBW3 := Lib.hid hbw3
      have hxl3 : x.b < w3.heap.size := Nat.lt_of_lt_of_le hxl hb4.size
      clear hb3 hb4 HBP y0 y1 c1 TX HB HR HBW hbw3
      cases bp
      rotate_left
      · go_wp2
        go_ret
        refine ⟨?_, HBW3.out⟩
        have h1 := STEP.out
        simp only [if_true] at h1
        rw [HCODE.out, h1]
        rfl
      cases sb
      · have TX4 := TX3
        unfold Texts at TX4
        clear HCB
        go_wp2_with (at_builtin; go_must (refine wpList_append_lies _ rfl (.tmp 62) (.tmp 67) 45 rfl w1.heap.size 9 i0 (.string ByteArray.empty) 1 16 Tryz.underlying45 hi hz0 hz1 hz2 rfl (by decide) (.slice pv nv cv) l.length (l.map Value.string) rfl (TX4.out.alloc _) ⟨w3.heap.size, 0, none⟩ 1 1 [.string ty] rfl rfl (fun j u hu => cell_one_new w3 _ _ j u hu) (by intro u hu; simp at hu; subst hu; rfl) (by first | omega | (simp; omega)) (by unfold maxLen; omega) (by first | omega | (simp; omega)) (by first | omega | (simp; omega)) (w3.heap.size + 1) (by simp) ?_); intro g cap w4 hown2 hgrow2 hat2 hgl2; have HG := Lib.hid hgrow2; have HW := Lib.hid hown2; clear hgrow2 hown2 hat2 hgl2)
        go_roundw
        case rel =>
          refine ⟨k + 1, _, rfl, by omega, by go_num, Lib.hid ?_, Lib.hid ?_, Lib.hid ?_⟩
          · rw [← HTK.out]
            have h2 := texts_push HW.out
            rw [htl] at h2
            exact h2
          · exact (HB3.out.alloc hsw3 _).grown HG.out (by simp; omega) fun j hj => (World.ownsRow.lt TX4.out j hj).1
          · have h1 := STEP.out
            simp only [Bool.false_eq_true, if_false, Bool.false_and] at h1
            exact h1.symm
        case measure => simp [intOf]; omega
      · have HCN := Lib.hid (contains_texts TX3.out ty)
        rw [← HCB.out] at HCN
        clear HCB
        have TX4 := TX3
        unfold Texts at TX4
        go_wp2_with fail
        refine HCN.out.mono ?_
        rintro e w' ⟨rfl, hww⟩
        rw [hww]
        clear hww w' HCN
        cases cb
        rotate_left
        · go_wp2
          go_ret
          refine ⟨?_, HBW3.out⟩
          have h1 := STEP.out
          simp only [Bool.false_eq_true, if_false, Bool.and_self, if_true] at h1
          rw [HCODE.out, h1]
          rfl
        go_wp2_with (at_builtin; go_must (refine wpList_append_lies _ rfl (.tmp 62) (.tmp 67) 45 rfl w1.heap.size 9 i0 (.string ByteArray.empty) 1 16 Tryz.underlying45 hi hz0 hz1 hz2 rfl (by decide) (.slice pv nv cv) l.length (l.map Value.string) rfl (TX4.out.alloc _) ⟨w3.heap.size, 0, none⟩ 1 1 [.string ty] rfl rfl (fun j u hu => cell_one_new w3 _ _ j u hu) (by intro u hu; simp at hu; subst hu; rfl) (by first | omega | (simp; omega)) (by unfold maxLen; omega) (by first | omega | (simp; omega)) (by first | omega | (simp; omega)) (w3.heap.size + 1) (by simp) ?_); intro g cap w4 hown2 hgrow2 hat2 hgl2; have HG := Lib.hid hgrow2; have HW := Lib.hid hown2; clear hgrow2 hown2 hat2 hgl2)
        go_roundw
        case rel =>
          refine ⟨k + 1, _, rfl, by omega, by go_num, Lib.hid ?_, Lib.hid ?_, Lib.hid ?_⟩
          · rw [← HTK.out]
            have h2 := texts_push HW.out
            rw [htl] at h2
            exact h2
          · exact (HB3.out.alloc hsw3 _).grown HG.out (by simp; omega) fun j hj => (World.ownsRow.lt TX4.out j hj).1
          · have h1 := STEP.out
            simp only [Bool.false_eq_true, if_false, Bool.and_false] at h1
            exact h1.symm
        case measure => simp [intOf]; omega
    · have hk2 : k = q := by omega
      subst hk2
      have htl : T.length = k := by rw [HTT.out, List.length_map, ← HQ.out]
      have htx := TX.out
      rw [List.take_of_length_le (by omega)] at htx
      have hrp : RP = 0 := by
        have := HR.out
        rw [List.take_of_length_le (by omega), List.drop_of_length_le (by omega)] at this
        rw [← this]
        rfl
      subst hrp
      have TX5 := Lib.hid htx
      obtain ⟨pv, nv, cv, rfl⟩ := htx.slice
      have HTB := Lib.hid hTbd
      clear htx hbw hTps hTbd TX HR htl k4 kx HRP
      go_wp2_with fail
      refine (HL.out wr HTB.out).mono ?_
      rintro e w5 ⟨v5, rfl, hn5, hb5⟩
      obtain ⟨p5, cp5, rfl, hge5, hmx5, hpp5⟩ := hn5.slice
      have HB5 := Lib.hid (HB.out.trans (hb5.mono hsw))
      have TX6 := Lib.hid (TX5.out.bel hb5)
      have N5 := Lib.hid hn5
      have HPP5 := Lib.hid hpp5
      obtain ⟨zf, hzf⟩ : ∃ z, z = wr.heap.size := ⟨_, rfl⟩
      rw [← hzf] at N5
      obtain ⟨m2, hm1⟩ : ∃ m, m = P.length := ⟨_, rfl⟩
      have hmq : m2 ≤ 9223372036854775807 := by unfold maxLen at hmx5; omega
      rw [← hm1] at hge5 N5 hPl ⊢
      have HM1 := Lib.hid hm1
      clear hn5 hb5 hpp5 hzf hm1 TX5 HB HBW
      go_wp2_with fail
      go_loopw [78] (fun i wr => ∃ (k : Nat), k ≤ m2 ∧ i = .int .i64 k ∧ Hid (Texts wr w1.heap.size (.slice pv nv cv) T) ∧ Hid (Nodes wr zf (.slice p5 m2 cp5) P) ∧ Hid (Below w1.heap.size w1 wr) ∧ Hid (∀ x ∈ P.take k, Lib.containsS T x.text = false)) (fun i _ => m2 - (intOf i).toNat)
      case atStart => exact ⟨0, Nat.zero_le _, rfl, TX6, N5, HB5, Lib.hid (by simp)⟩
      case round =>
        obtain ⟨k, hk, rfl, TX, NO, HB, HF⟩ := hrel
        clear TX6 N5 HB5
        obtain ⟨y0, y1, hbw, hsw⟩ := H1.out _ HB.out
        obtain ⟨k3, kx, ky, k4, _, hTps, hTbd⟩ := HALL.out _ hbw
        have HBW := Lib.hid hbw
        by_cases hkn : k < m2
        · obtain ⟨x, hx⟩ : ∃ x, P[k]? = some x := ⟨_, List.getElem?_eq_getElem (by rw [← HM1.out]; exact hkn)⟩
          obtain ⟨g0, hp⟩ := HPP5.out k x hx
          subst hp
          have cx := NO.out.cell rfl hx
          have hTx := hTbd.kid (HPK.out x (List.mem_of_getElem? hx))
          have c1 := hTx.c1
          have HCN := Lib.hid (contains_texts TX.out x.text)
          obtain ⟨cb, hcb⟩ : ∃ b, b = Lib.containsS T x.text := ⟨_, rfl⟩
          rw [← hcb] at HCN
          have HCB := Lib.hid hcb
          have HX := Lib.hid hx
          obtain ⟨ty, hty⟩ : ∃ t, t = x.text := ⟨_, rfl⟩
          rw [← hty] at c1 HCN
          clear hTx hx hcb hty hTps hTbd hbw k3 kx ky k4 y0 y1
          go_wp2_with fail
          refine HCN.out.mono ?_
          rintro e w' ⟨rfl, hww⟩
          rw [hww]
          clear hww w' HCN
          cases cb
          · go_wp2
            go_roundw
            case rel =>
              refine ⟨k + 1, by omega, by go_num, TX, NO, HB, Lib.hid ?_⟩
              intro y hy
              obtain ⟨hkl, hke⟩ := List.getElem?_eq_some_iff.1 HX.out
              rw [List.take_succ_eq_append_getElem hkl, List.mem_append] at hy
              rcases hy with hy | hy
              · exact HF.out y hy
              · simp only [List.mem_singleton] at hy
                rw [hy, hke]
                exact HCB.out.symm
            case measure => simp [intOf]; omega
          · go_wp2
            go_ret
            refine ⟨?_, HBW.out⟩
            have h1 : LB = true := by
              rw [HLB.out, List.any_eq_true]
              exact ⟨x.text, List.mem_map.2 ⟨x, List.mem_of_getElem? HX.out, rfl⟩, HCB.out.symm⟩
            rw [HCODE.out, h1]
            rfl
        · have hk2 : k = m2 := by omega
          subst hk2
          have h1 : LB = false := by
            rw [HLB.out, List.any_eq_false]
            intro s hs
            obtain ⟨y, hy, rfl⟩ := List.mem_map.1 hs
            have := HF.out y (by rw [List.take_of_length_le (by rw [← HM1.out]; exact Nat.le_refl _)]; exact hy)
            simp [this]
          subst h1
          have HTB := Lib.hid hTbd
          clear hTps hTbd hbw k4 kx HF TX NO HLB
          go_wp2_with fail
          refine wp_region_plan [(true, 0), (true, 1), (true, 2), (true, 3), (true, 4), (true, 5), (true, 6)] [7, 8] (fun W => W.cell? ⟨w.heap.size, 0, none⟩ = some (.bool sb) ∧ W.cell? ⟨w.heap.size, 1, none⟩ = some (.bool true) ∧ W.cell? ⟨a.b, 3, none⟩ = some (.slice (some ⟨g, 0, none⟩) 2 cp) ∧ W.cell? ⟨g, 1, none⟩ = some (.pointer (some ⟨bd.b, 0, none⟩))) (by kernel_rfl) (by kernel_rfl) (fun _ _ d _ _ h => by cases d <;> exact h) ⟨y0, y1, k3, ky⟩ (fun hS0 => ?_)
          simp only [planOps, List.filterMap_cons, List.filterMap_nil, List.getElem?_toArray, List.getElem?_cons_zero, List.getElem?_cons_succ, Option.map_some]
          iterate 7
            first
              | (refine wpPlan_take ?_ (by rfl) (fun w' hS' => ?_) ?_; rotate_left; (obtain ⟨s0, s1, s2, s3⟩ := hS'; go_simp; first | done | with_reducible rfl); simp only [Act.put, List.setIfInBounds_toArray, List.set_cons_zero, List.set_cons_succ])
              | (refine wpPlan_skip (by rfl) ?_; simp only [Act.put, List.setIfInBounds_toArray, List.set_cons_zero, List.set_cons_succ])
          refine wpPlan_end ?_
          go_wp2_with fail
          refine (HSC.out wr.drew (HTB.out.keep fun k _ _ => rfl)).mono ?_
          rintro e w7 ⟨rfl, hb7⟩
          have hb8 : Below wr.heap.size wr w7 := (Below.refl wr.heap.size wr).drew.trans hb7
          have HB7 := Lib.hid (HB.out.trans (hb8.mono hsw))
          obtain ⟨z0, z1, hbw7, hsw7⟩ := H1.out _ HB7.out
          obtain ⟨l3, _, ly, _, _, _, hTb7⟩ := HALL.out _ hbw7
          have HBW7 := Lib.hid hbw7
          have HTB7 := Lib.hid hTb7
          clear hb7 hb8 hbw7 hTb7 y0 y1 k3 ky HTB HB HBW
          cases SB
          rotate_left
          · simp only [if_true]
            go_wp2
            go_ret
            exact ⟨by rw [HCODE.out]; rfl, HBW7.out⟩
          simp only [Bool.false_eq_true, if_false]
          go_wp2_with fail
          refine wp_region_plan [(true, 0), (true, 1), (true, 2), (true, 3), (true, 4), (true, 5), (true, 6)] [7, 8] (fun W => W.cell? ⟨w.heap.size, 0, none⟩ = some (.bool sb) ∧ W.cell? ⟨w.heap.size, 1, none⟩ = some (.bool true) ∧ W.cell? ⟨a.b, 3, none⟩ = some (.slice (some ⟨g, 0, none⟩) 2 cp) ∧ W.cell? ⟨g, 1, none⟩ = some (.pointer (some ⟨bd.b, 0, none⟩))) (by kernel_rfl) (by kernel_rfl) (fun _ _ d _ _ h => by cases d <;> exact h) ⟨z0, z1, l3, ly⟩ (fun hS0 => ?_)
          simp only [planOps, List.filterMap_cons, List.filterMap_nil, List.getElem?_toArray, List.getElem?_cons_zero, List.getElem?_cons_succ, Option.map_some]
          iterate 7
            first
              | (refine wpPlan_take ?_ (by rfl) (fun w' hS' => ?_) ?_; rotate_left; (obtain ⟨s0, s1, s2, s3⟩ := hS'; go_simp; first | done | with_reducible rfl); simp only [Act.put, List.setIfInBounds_toArray, List.set_cons_zero, List.set_cons_succ])
              | (refine wpPlan_skip (by rfl) ?_; simp only [Act.put, List.setIfInBounds_toArray, List.set_cons_zero, List.set_cons_succ])
          refine wpPlan_end ?_
          go_wp2_with fail
          refine (HKI.out w7.drew (HTB7.out.keep fun k _ _ => rfl)).mono ?_
          rintro e w8 ⟨rfl, hb8⟩
          have HB8 : Hid (Below w.heap.size w w8) := Lib.hid (HBW7.out.drew.trans (hb8.mono HBW7.out.size))
          clear hb8
          go_wp2
          go_ret
          exact ⟨by rw [HCODE.out]; rfl, HB8.out⟩
end Go.Proofs.YtgifgiipojedbaaGreatDoor
