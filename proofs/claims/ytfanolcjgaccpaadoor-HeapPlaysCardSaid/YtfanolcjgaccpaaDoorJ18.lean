/- HeapPlays, a piece: Object. -/
import Derived.Test.YtfanolcjgaccpaaDoorJ17
namespace Go.Proofs.YtfanolcjgaccpaaDoor
open Go Go.RowKit
set_option maxRecDepth 1000000
set_option linter.unusedVariables false
set_option linter.unusedSimpArgs false
section
variable {w0 w : World} {v0 : Value} {hb rb k db vb : Nat} {d : DoRec} {H : LHeap} {a : Act}
theorem cell_old2 (w : World) (o : Obj) (t : TypeId) : ((w.alloc o).alloc (.cells #[.slice none 0 0] t)).drew.cell? ⟨w.heap.size + 1, 0, none⟩ = some (.slice none 0 0) := by
  have := World.cell?_alloc_new (w.alloc o) #[.slice none 0 0] t 0
  rwa [show (w.alloc o).heap.size = w.heap.size + 1 by simp] at this
theorem cell_old1 (w : World) (o : Obj) (t : TypeId) : ((w.alloc (.cells #[.slice none 0 0] t)).alloc o).drew.cell? ⟨w.heap.size, 0, none⟩ = some (.slice none 0 0) :=
  (cell_old (w := w.alloc (.cells #[.slice none 0 0] t)) (p := ⟨w.heap.size, 0, none⟩) (by simp)).trans (World.cell?_alloc_new w _ t 0)
set_option maxHeartbeats 20000000 in
theorem hp0b_any (h : PreD w0 v0 hb rb k db vb d H a w) : (hpAt [1, 1, 1, 1, 0, 1, 0, 0, 1, 0, 0, 1, 1, 1, 0, 1, 0, 1, 0, 1]).wp Tryd.prog (MidQ w0 v0 hb rb k db d) a w := by
  obtain ⟨fr, duo, good, err, low, nm, k80⟩ := h
  obtain ⟨tm, df⟩ := a
  obtain ⟨x, ex, hx⟩ := lit470 tm fr.size
  have e0 := (hx 0).trans fr.t0
  have e3 := (hx 3).trans fr.t3
  have e4 := (hx 4).trans fr.t4
  have e5 := (hx 5).trans fr.t5
  have e6 := (hx 6).trans fr.t6
  have e7 := (hx 7).trans fr.t7
  have e44 := (hx 44).trans fr.t44
  have ed : df = [] := fr.defs
  clear fr hx
  subst ex
  subst ed
  rw [e0, e3, e4, e5, e6, e7, e44]
  clear e0 e3 e4 e5 e6 e7 e44
  obtain ⟨Q, hQ⟩ : ∃ Q, Q = MidQ w0 v0 hb rb k db d := ⟨_, rfl⟩
  rw [← hQ]
  have hN : ∀ a w, MidD w0 v0 hb rb k db d a w → Q .normal a w := fun a w h => by rw [hQ]; exact h
  have hX : ∀ a w, Next w0 v0 hb rb k a w → Q (.exit 1) a w := fun a w h => by rw [hQ]; exact h
  have HQP : Hid (∀ c a d v w, Q (.panic c) (Act.put a d v) w → Q (.panic c) a w) := Lib.hid fun c a d v w h => by rw [hQ] at h; exact h.elim
  have HN := Lib.hid hN
  have HX := Lib.hid hX
  have HG := Lib.hid good
  have HE := Lib.hid err
  have HLow := Lib.hid low
  obtain ⟨dw, da, dB, dn, dk, dv, dfx⟩ := d
  obtain ⟨q0, q1, q2, q3, q4, q5, q6⟩ := d_cells duo.dBlk
  obtain ⟨p0, p1, p2⟩ := v_cells duo.vBlk
  obtain ⟨V, duo⟩ := duo.toV
  have HD := Lib.hid duo
  dsimp only at q0 q1 q2 q3 q4 q5 q6 p0 p1 p2 nm
  clear hQ hN hX duo good err low
  have hr := HD.out.r
  obtain ⟨a0, c0, e0⟩ := ownsRow_slice hr.rowC
  obtain ⟨a1, c1, e1⟩ := ownsRow_slice hr.rowP
  have r0 := hr.cellC
  rw [e0] at r0
  obtain ⟨n, hn⟩ : ∃ n, n = H.objects.length := ⟨_, rfl⟩
  have hn80 : n ≤ k := by rw [hn]; exact HG.out.no
  rw [← hn] at r0 e0 e1
  have HNN := Lib.hid hn
  have HE0 := Lib.hid e0
  have HE1 := Lib.hid e1
  clear hr e0 e1 hn
  conv => arg 2; whnf
  go_wp2_with fail
  refine wp_region_plan [(true, 0), (true, 1), (true, 3), (true, 4), (true, 5), (true, 6), (true, 7), (false, 2)] [8] (fun W => W.cell? ⟨db, 4, none⟩ = some (.int .i64 dk) ∧ W.cell? ⟨rb, 0, none⟩ = some (.slice a0 n c0)) (by kernel_rfl) (by kernel_rfl) (fun c a d v w h => HQP.out c a d v w h) ⟨q4, r0⟩ (fun hS0 => ?_)
  simp only [planOps, List.filterMap_cons, List.filterMap_nil, List.getElem?_toArray, List.getElem?_cons_zero, List.getElem?_cons_succ, Option.map_some]
  iterate 7
    first
      | (refine wpPlan_take ?_ (by rfl) (fun w' hS' => ?_) ?_; rotate_left; (obtain ⟨s0, s1⟩ := hS'; go_simp; first | done | with_reducible rfl); simp only [Act.put, List.setIfInBounds_toArray, List.set_cons_zero, List.set_cons_succ])
      | (refine wpPlan_skip (by rfl) ?_; simp only [Act.put, List.setIfInBounds_toArray, List.set_cons_zero, List.set_cons_succ])
  have HD1 := Lib.hid HD.out.drew
  refine wpPlan_go (fun K hK => ?_)
  go_simp
  have hcon : ∀ ρ L (w' : World), HeapAt ρ w' hb 0 L H → Calls Tryd.prog 5 #[.pointer (some ⟨hb, 0, none⟩), .int .i64 dk] w' fun e w'' => e = .returned (.int .i64 n) ∧ ∃ ρ' L', HeapAt ρ' w'' hb 0 L' { H with objects := H.objects ++ [⟨[], dk⟩] } ∧ Fr ρ ρ' hb 0 w' w'' := fun ρ L w' hh => by
    rw [HNN.out]; exact newObject_any hh dk (by rw [← HNN.out]; omega)
  refine (HD1.out.heap (fun ρ L hh => hcon ρ L _ hh)).mono ?_
  rintro e w1 ⟨rfl, hD2⟩
  obtain ⟨q0', q1', q2', q3', q4', q5', q6'⟩ := d_cells (hD2.get (p := (db, (⟨dw, da, dB, dn, dk, dv, dfx⟩ : DoRec).obj)) (by simp))
  dsimp only at q0' q1' q2' q3' q4' q5' q6'
  have hr := hD2.r
  have t0 := hr.cellC
  have t1 := hr.cellP
  rw [HE0.out] at t0
  rw [HE1.out] at t1
  have hrb := hr.rbLt
  have f0 : w1.frozen? ⟨rb, 0, none⟩ = false := by simp [World.frozen?, hr.head]
  have f1 : w1.frozen? ⟨rb, 1, none⟩ = false := by simp [World.frozen?, hr.head]
  have hdl : db < w1.heap.size := (Array.getElem?_eq_some_iff.1 (hD2.get (p := (db, (⟨dw, da, dB, dn, dk, dv, dfx⟩ : DoRec).obj)) (by simp))).1
  have hnO := hD2.notOwn (p := (db, (⟨dw, da, dB, dn, dk, dv, dfx⟩ : DoRec).obj)) (by simp)
  obtain ⟨rc, hrc⟩ : ∃ v, v = V.vc := ⟨_, rfl⟩
  obtain ⟨rp, hrp⟩ : ∃ v, v = V.vp := ⟨_, rfl⟩
  have HRC : Hid (rc = .slice a0 n c0) := Lib.hid (hrc.trans HE0.out)
  have HRP : Hid (rp = .slice a1 n c1) := Lib.hid (hrp.trans HE1.out)
  have HNr : Hid (rc.ownBlock ≠ some rb) := Lib.hid (by rw [hrc]; exact hr.off .cods)
  have HNr2 : Hid (rp.ownBlock ≠ some rb) := Lib.hid (by rw [hrp]; exact hr.off .prps)
  have HNd : Hid (rc.ownBlock ≠ some db) := Lib.hid (by rw [hrc]; exact fun e => hnO (.inr ⟨.cods, e⟩))
  have HNd2 : Hid (rp.ownBlock ≠ some db) := Lib.hid (by rw [hrp]; exact fun e => hnO (.inr ⟨.prps, e⟩))
  have HLC : Hid (∀ g, rc.ownBlock = some g → g < w1.heap.size) := Lib.hid (by rw [hrc]; exact fun g hg => hr.live (.inr ⟨.cods, hg⟩))
  have HLP : Hid (∀ g, rp.ownBlock = some g → g < w1.heap.size) := Lib.hid (by rw [hrp]; exact fun g hg => hr.live (.inr ⟨.prps, hg⟩))
  have HCP : Hid (∀ g, rp.ownBlock = some g → rc.ownBlock ≠ some g) := Lib.hid (by rw [hrp, hrc]; exact fun g hg e => absurd (hr.apart .cods .prps g e hg) (by simp))
  have hownC0 := hr.rowC
  have hownP0 := hr.rowP
  rw [← hrc, ← HNN.out] at hownC0
  rw [← hrp, ← HNN.out] at hownP0
  have HC := Lib.hid hownC0
  have HP := Lib.hid hownP0
  have HRC2 := Lib.hid hrc
  have HRP2 := Lib.hid hrp
  have HD2 := Lib.hid hD2
  clear hcon hD2 hr hownC0 hownP0 hrc hrp hnO
  refine hK _ _ ⟨q4', t0⟩ ?_
  clear hK K
  try simp only [Act.put, List.setIfInBounds_toArray, List.set_cons_zero, List.set_cons_succ]
  refine wpPlan_end ?_
  obtain ⟨i1, hi1, hz10, hz11, hz12⟩ := info_parts Tryd.infoIntK
  obtain ⟨i2, hi2, hz20, hz21, hz22⟩ := info_parts Tryd.infoRRow
  go_wp2_with fail
  refine wp_region_tree (.take 0 (.take 1 (.take 2 (.take 3 (.take 4 (.take 5 (.take 6 (.take 7 (.take 10 (.take 11 (.take 12 (.take 13 (.two 8 (.two 9 (.go 14 (.go 15 (.take 16 (.take 17 (.go 18 (.take 19 (.take 20 (.go 21 .nil)))))))) 14 (.go 9 (.go 15 (.take 16 (.take 17 (.go 18 (.take 19 (.take 20 (.go 21 .nil))))))))) 14 (.go 8 (.go 9 (.go 15 (.take 16 (.take 17 (.go 18 (.take 19 (.take 20 (.go 21 .nil)))))))))))))))))))))) 18 (fun W => W.cell? ⟨rb, 0, none⟩ = some (.slice a0 n c0) ∧ W.cell? ⟨rb, 1, none⟩ = some (.slice a1 n c1) ∧ W.cell? ⟨db, 4, none⟩ = some (.int .i64 dk)) (by kernel_rfl) (by kernel_rfl) (fun c a d v w h => HQP.out c a d v w h) ⟨t0, t1, q4'⟩ ?_
  (refine wpPl_takeS ?_ (by rfl) (by kernel_rfl) (by rfl) (fun w' hS' => ?_) ?_; rotate_left; (obtain ⟨s0, s1, s2⟩ := hS'; go_simp; first | done | with_reducible rfl); simp only [Act.put, List.setIfInBounds_toArray, List.set_cons_zero, List.set_cons_succ])
  (refine wpPl_take ?_ (by rfl) (by rfl) (fun w' => ?_) ?_; rotate_left; (go_simp; first | done | with_reducible rfl); simp only [Act.put, List.setIfInBounds_toArray, List.set_cons_zero, List.set_cons_succ])
  iterate 6 (refine wpPl_takeS ?_ (by rfl) (by kernel_rfl) (by rfl) (fun w' hS' => ?_) ?_; rotate_left; (obtain ⟨s0, s1, s2⟩ := hS'; go_simp; first | done | with_reducible rfl); simp only [Act.put, List.setIfInBounds_toArray, List.set_cons_zero, List.set_cons_succ])
  iterate 3 (refine wpPl_take ?_ (by rfl) (by rfl) (fun w' => ?_) ?_; rotate_left; (go_simp; first | done | with_reducible rfl); simp only [Act.put, List.setIfInBounds_toArray, List.set_cons_zero, List.set_cons_succ])
  (refine wpPl_takeS ?_ (by rfl) (by kernel_rfl) (by rfl) (fun w' hS' => ?_) ?_; rotate_left; (obtain ⟨s0, s1, s2⟩ := hS'; go_simp; first | done | with_reducible rfl); simp only [Act.put, List.setIfInBounds_toArray, List.set_cons_zero, List.set_cons_succ])
  refine wpPl_two ?_ ?_
  · refine wpPl_go (by rfl) (by rfl) (by rfl) (fun K hK => ?_)
    go_simp
    refine hK _ _ ⟨(cell_old (p := ⟨rb, 0, none⟩) hrb).trans t0, (cell_old (p := ⟨rb, 1, none⟩) hrb).trans t1, (cell_old (p := ⟨db, 4, none⟩) hdl).trans q4'⟩ ?_
    clear hK K
    try simp only [Act.put, List.setIfInBounds_toArray, List.set_cons_zero, List.set_cons_succ]
    refine wpPl_two ?_ ?_
    · refine wpPl_go (by rfl) (by rfl) (by rfl) (fun K hK => ?_)
      refine wp_append_lies _ (.tmp 77) (.tmp 80) 28 (by rfl) 0 3 i1 _ 1 8 Tryd.underlying28 hi1 hz10 hz11 hz12 rfl (by decide) rc n (H.objects.map fun o => Value.int .i64 o.code) (by rw [HRC.out]; rfl) ((HC.out.alloc _).drew) ⟨w1.heap.size, 0, none⟩ 1 1 [.int .i64 dk] (by rfl) rfl (fun j u hu => cell_one_new w1 _ _ j u hu) (by intro u hu; simp at hu; subst hu; rfl) (by decide) (by unfold maxLen; omega) (by omega) (by omega) (w1.heap.size + 1) (by simp) ?_
      intro g1 cp1 w3 hown5 hgrow5 hat5 hlt5
      have far3 : ∀ b o, b < w1.heap.size → rc.ownBlock ≠ some b → w3.cell? ⟨b, o, none⟩ = w1.cell? ⟨b, o, none⟩ := fun b o hb1 hb2 => (hgrow5.cell_far ⟨b, o, none⟩ (by simp; omega) (fun e => hb2 e.symm)).trans (cell_old hb1)
      have v0' := (far3 _ 0 hrb HNr.out).trans t0
      have v1' := (far3 _ 1 hrb HNr.out).trans t1
      have v4' := (far3 _ 4 hdl HNd.out).trans q4'
      have hgrow3 : w1.grownBy w3 rc.ownBlock := grow_trans (grow_of_below (((Below.refl _ _).alloc (Nat.le_refl _) _).drew)) hgrow5
      refine hK _ _ ⟨v0', v1', v4'⟩ ?_
      clear hK K far3
      try simp only [Act.put, List.setIfInBounds_toArray, List.set_cons_zero, List.set_cons_succ]
      refine wpPl_go (by rfl) (by rfl) (by rfl) (fun K hK => ?_)
      go_simp
      have hl3 : w1.heap.size ≤ w3.heap.size := hgrow3.size
      refine hK _ _ ⟨(cell_old (p := ⟨rb, 0, none⟩) (Nat.lt_of_lt_of_le hrb hl3)).trans v0', (cell_old (p := ⟨rb, 1, none⟩) (Nat.lt_of_lt_of_le hrb hl3)).trans v1', (cell_old (p := ⟨db, 4, none⟩) (Nat.lt_of_lt_of_le hdl hl3)).trans v4'⟩ ?_
      clear hK K v0' v1' v4'
      try simp only [Act.put, List.setIfInBounds_toArray, List.set_cons_zero, List.set_cons_succ]
      have hzc : (w3.alloc (.cells #[.slice none 0 0] 89)).cell? ⟨w3.heap.size, 0, none⟩ = some (.slice none 0 0) := World.cell?_alloc_new _ _ _ 0
      have hgrow := grow_below hgrow3 ((Below.refl _ _).alloc (Nat.le_refl _) (.cells #[.slice none 0 0] 89))
      have hownC := hown5.alloc (.cells #[.slice none 0 0] 89)
      have hltC : g1 < (w3.alloc (.cells #[.slice none 0 0] 89)).heap.size := by simp; omega
      have hatC : rc.ownBlock = some g1 ∨ w1.heap.size ≤ g1 := hat5.imp id (fun e => by omega)
      obtain ⟨z, hz⟩ : ∃ z, z = w3.heap.size := ⟨_, rfl⟩
      rw [← hz] at hzc ⊢
      have hzl : w1.heap.size ≤ z := by omega
      generalize (w3.alloc (.cells #[.slice none 0 0] 89)) = w5 at *
      have hz5 : z < w5.heap.size := World.block_lt_of_cell? w5 ⟨z, 0, none⟩ hzc
      have hs5 : w1.heap.size ≤ w5.heap.size := hgrow.size
      have hb5 : ∀ b, b < w1.heap.size → rc.ownBlock ≠ some b → w5.heap[b]? = w1.heap[b]? := fun b h1 h2 => hgrow.block b h1 (fun e => h2 e.symm)
      have u0 := (World.cell?_of_block (a := ⟨rb, 0, none⟩) (hb5 _ hrb HNr.out)).trans t0
      have u1 := (World.cell?_of_block (a := ⟨rb, 1, none⟩) (hb5 _ hrb HNr.out)).trans t1
      have u4 := (World.cell?_of_block (a := ⟨db, 4, none⟩) (hb5 _ hdl HNd.out)).trans q4'
      have z0 := (World.frozen?_of_block (a := ⟨rb, 0, none⟩) (hb5 _ hrb HNr.out)).trans f0
      have z1 := (World.frozen?_of_block (a := ⟨rb, 1, none⟩) (hb5 _ hrb HNr.out)).trans f1
      have HC5 := Lib.hid hownC
      have HG5 := Lib.hid hgrow
      have HT5 := Lib.hid hatC
      have HP5 := Lib.hid (ownsRow_block HP.out fun g hg => hb5 g (HLP.out g hg) (HCP.out g hg))
      clear hownC hgrow hatC hown5 hgrow5 hat5 hlt5
      refine wpPl_go (by rfl) (by rfl) (by rfl) (fun K hK => ?_)
      refine wp_append_lies _ (.tmp 85) (.tmp 86) 29 (by rfl) 0 89 i2 _ 1 24 Tryd.underlying29 hi2 hz20 hz21 hz22 rfl (by decide) rp n V.pv (by rw [HRP.out]; rfl) HP5.out ⟨z, 0, none⟩ 1 1 [.slice none 0 0] (by rfl) rfl (fun j u hu => by rw [add_plain]; cases j with | zero => simp at hu; subst hu; exact hzc | succ j => simp at hu) (by intro u hu; simp at hu; subst hu; rfl) (by decide) (by unfold maxLen; omega) (by omega) (by omega) w5.heap.size rfl ?_
      intro g2 cp2 w6 hown6 hgrow6 hat6 hlt6
      have hb6 : ∀ b, b < w5.heap.size → rp.ownBlock ≠ some b → w6.heap[b]? = w5.heap[b]? := fun b h1 h2 => hgrow6.block b h1 (fun e => h2 e.symm)
      have hrb5 : rb < w5.heap.size := by omega
      have hdl5 : db < w5.heap.size := by omega
      have x0 := (World.cell?_of_block (a := ⟨rb, 0, none⟩) (hb6 _ hrb5 HNr2.out)).trans u0
      have x1 := (World.cell?_of_block (a := ⟨rb, 1, none⟩) (hb6 _ hrb5 HNr2.out)).trans u1
      have x4 := (World.cell?_of_block (a := ⟨db, 4, none⟩) (hb6 _ hdl5 HNd2.out)).trans u4
      have y0 := (World.frozen?_of_block (a := ⟨rb, 0, none⟩) (hb6 _ hrb5 HNr2.out)).trans z0
      have y1 := (World.frozen?_of_block (a := ⟨rb, 1, none⟩) (hb6 _ hrb5 HNr2.out)).trans z1
      refine hK _ _ ⟨x0, x1, x4⟩ ?_
      clear hK K
      try simp only [Act.put, List.setIfInBounds_toArray, List.set_cons_zero, List.set_cons_succ]
      have HC6 := Lib.hid hown6
      have HG6 := Lib.hid hgrow6
      have HT6 := Lib.hid hat6
      clear hown6 hgrow6 hat6 hlt6 hb6 hb5
      iterate 2
        refine wpPl_take ?_ (by rfl) (by rfl) (fun w' => ?_) ?_
        rotate_left
        · go_simp
          first | done | with_reducible rfl
        simp only [Act.put, List.setIfInBounds_toArray, List.set_cons_zero, List.set_cons_succ]
      refine wpPl_late (by rfl) (by rfl) (by rfl) (fun K hK => ?_)
      go_simp
      refine hK _ _ ?_
      clear hK K
      iterate 2
        refine wpPl_take ?_ (by rfl) (by rfl) (fun w' => ?_) ?_
        rotate_left
        · go_simp
          first | done | with_reducible rfl
        simp only [Act.put, List.setIfInBounds_toArray, List.set_cons_zero, List.set_cons_succ]
      refine wpPl_late (by rfl) (by rfl) (by rfl) (fun K hK => ?_)
      go_simp
      refine hK _ _ ?_
      clear hK K
      refine wpPl_nil ?_
      go_wp2
      have hn := HNN.out
      subst hn
      have hrc := HRC2.out
      subst hrc
      have hrp := HRP2.out
      subst hrp
      obtain ⟨V', hA, hF⟩ := HD2.out.r.pushObject (code := dk) HG5.out HG6.out HC5.out HC6.out hltC HT5.out (HT6.out.imp id (fun e => by omega))
      refine HN.out _ _ ⟨⟨⟨rfl, rfl, rfl, rfl, rfl, rfl⟩, rfl⟩, _, dk, ?_, HG.out.object dk⟩
      exact (HD2.out.to hA hF).weak (fun p hp => by simp at hp; subst hp; simp)
    · refine wpPl_go (by rfl) (by rfl) (by rfl) (fun K hK => ?_)
      go_simp
      refine hK _ _ ⟨(cell_old (p := ⟨rb, 0, none⟩) (by simp; omega)).trans ((cell_old (p := ⟨rb, 0, none⟩) hrb).trans t0), (cell_old (p := ⟨rb, 1, none⟩) (by simp; omega)).trans ((cell_old (p := ⟨rb, 1, none⟩) hrb).trans t1), (cell_old (p := ⟨db, 4, none⟩) (by simp; omega)).trans ((cell_old (p := ⟨db, 4, none⟩) hdl).trans q4')⟩ ?_
      clear hK K
      try simp only [Act.put, List.setIfInBounds_toArray, List.set_cons_zero, List.set_cons_succ]
      refine wpPl_go (by rfl) (by rfl) (by rfl) (fun K hK => ?_)
      refine wp_append_lies _ (.tmp 77) (.tmp 80) 28 (by rfl) 0 3 i1 _ 1 8 Tryd.underlying28 hi1 hz10 hz11 hz12 rfl (by decide) rc n (H.objects.map fun o => Value.int .i64 o.code) (by rw [HRC.out]; rfl) (((HC.out.alloc _).alloc _).drew) ⟨w1.heap.size, 0, none⟩ 1 1 [.int .i64 dk] (by rfl) rfl (fun j u hu => (cell_old (w := w1.alloc (.cells #[.int .i64 dk] 3)) (p := (⟨w1.heap.size, 0, none⟩ : Addr).add j) (by rw [add_plain]; simp)).trans (cell_one_new w1 _ _ j u hu)) (by intro u hu; simp at hu; subst hu; rfl) (by decide) (by unfold maxLen; omega) (by omega) (by omega) (w1.heap.size + 2) (by simp) ?_
      intro g1 cp1 w5 hown5 hgrow5 hat5 hlt5
      have far5 : ∀ b o, b < w1.heap.size → rc.ownBlock ≠ some b → w5.cell? ⟨b, o, none⟩ = w1.cell? ⟨b, o, none⟩ := fun b o hb1 hb2 => (hgrow5.cell_far ⟨b, o, none⟩ (by simp; omega) (fun e => hb2 e.symm)).trans ((cell_old (p := ⟨b, o, none⟩) (by simp; omega)).trans (cell_old hb1))
      refine hK _ _ ⟨(far5 _ 0 hrb HNr.out).trans t0, (far5 _ 1 hrb HNr.out).trans t1, (far5 _ 4 hdl HNd.out).trans q4'⟩ ?_
      clear hK K far5
      try simp only [Act.put, List.setIfInBounds_toArray, List.set_cons_zero, List.set_cons_succ]
      have hgrow : w1.grownBy w5 rc.ownBlock := grow_trans (grow_of_below ((((Below.refl _ _).alloc (Nat.le_refl _) _).alloc (by simp) _).drew)) hgrow5
      have hnz : some (w1.heap.size + 1) ≠ rc.ownBlock := fun e => by have := HLC.out _ e.symm; omega
      have hzc : w5.cell? ⟨w1.heap.size + 1, 0, none⟩ = some (.slice none 0 0) := (hgrow5.cell_far ⟨w1.heap.size + 1, 0, none⟩ (by simp <;> omega) hnz).trans ((cell_old2 _ _ _))
      have hownC := hown5
      have hltC := hlt5
      have hatC : rc.ownBlock = some g1 ∨ w1.heap.size ≤ g1 := hat5.imp id (fun e => by omega)
      obtain ⟨z, hz⟩ : ∃ z, z = w1.heap.size + 1 := ⟨_, rfl⟩
      rw [← hz] at hzc ⊢
      have hzl : w1.heap.size ≤ z := by omega
      have hz5 : z < w5.heap.size := World.block_lt_of_cell? w5 ⟨z, 0, none⟩ hzc
      have hs5 : w1.heap.size ≤ w5.heap.size := hgrow.size
      have hb5 : ∀ b, b < w1.heap.size → rc.ownBlock ≠ some b → w5.heap[b]? = w1.heap[b]? := fun b h1 h2 => hgrow.block b h1 (fun e => h2 e.symm)
      have u0 := (World.cell?_of_block (a := ⟨rb, 0, none⟩) (hb5 _ hrb HNr.out)).trans t0
      have u1 := (World.cell?_of_block (a := ⟨rb, 1, none⟩) (hb5 _ hrb HNr.out)).trans t1
      have u4 := (World.cell?_of_block (a := ⟨db, 4, none⟩) (hb5 _ hdl HNd.out)).trans q4'
      have z0 := (World.frozen?_of_block (a := ⟨rb, 0, none⟩) (hb5 _ hrb HNr.out)).trans f0
      have z1 := (World.frozen?_of_block (a := ⟨rb, 1, none⟩) (hb5 _ hrb HNr.out)).trans f1
      have HC5 := Lib.hid hownC
      have HG5 := Lib.hid hgrow
      have HT5 := Lib.hid hatC
      have HP5 := Lib.hid (ownsRow_block HP.out fun g hg => hb5 g (HLP.out g hg) (HCP.out g hg))
      clear hownC hgrow hatC hown5 hgrow5 hat5 hlt5
      refine wpPl_go (by rfl) (by rfl) (by rfl) (fun K hK => ?_)
      refine wp_append_lies _ (.tmp 85) (.tmp 86) 29 (by rfl) 0 89 i2 _ 1 24 Tryd.underlying29 hi2 hz20 hz21 hz22 rfl (by decide) rp n V.pv (by rw [HRP.out]; rfl) HP5.out ⟨z, 0, none⟩ 1 1 [.slice none 0 0] (by rfl) rfl (fun j u hu => by rw [add_plain]; cases j with | zero => simp at hu; subst hu; exact hzc | succ j => simp at hu) (by intro u hu; simp at hu; subst hu; rfl) (by decide) (by unfold maxLen; omega) (by omega) (by omega) w5.heap.size rfl ?_
      intro g2 cp2 w6 hown6 hgrow6 hat6 hlt6
      have hb6 : ∀ b, b < w5.heap.size → rp.ownBlock ≠ some b → w6.heap[b]? = w5.heap[b]? := fun b h1 h2 => hgrow6.block b h1 (fun e => h2 e.symm)
      have hrb5 : rb < w5.heap.size := by omega
      have hdl5 : db < w5.heap.size := by omega
      have x0 := (World.cell?_of_block (a := ⟨rb, 0, none⟩) (hb6 _ hrb5 HNr2.out)).trans u0
      have x1 := (World.cell?_of_block (a := ⟨rb, 1, none⟩) (hb6 _ hrb5 HNr2.out)).trans u1
      have x4 := (World.cell?_of_block (a := ⟨db, 4, none⟩) (hb6 _ hdl5 HNd2.out)).trans u4
      have y0 := (World.frozen?_of_block (a := ⟨rb, 0, none⟩) (hb6 _ hrb5 HNr2.out)).trans z0
      have y1 := (World.frozen?_of_block (a := ⟨rb, 1, none⟩) (hb6 _ hrb5 HNr2.out)).trans z1
      refine hK _ _ ⟨x0, x1, x4⟩ ?_
      clear hK K
      try simp only [Act.put, List.setIfInBounds_toArray, List.set_cons_zero, List.set_cons_succ]
      have HC6 := Lib.hid hown6
      have HG6 := Lib.hid hgrow6
      have HT6 := Lib.hid hat6
      clear hown6 hgrow6 hat6 hlt6 hb6 hb5
      iterate 2
        refine wpPl_take ?_ (by rfl) (by rfl) (fun w' => ?_) ?_
        rotate_left
        · go_simp
          first | done | with_reducible rfl
        simp only [Act.put, List.setIfInBounds_toArray, List.set_cons_zero, List.set_cons_succ]
      refine wpPl_late (by rfl) (by rfl) (by rfl) (fun K hK => ?_)
      go_simp
      refine hK _ _ ?_
      clear hK K
      iterate 2
        refine wpPl_take ?_ (by rfl) (by rfl) (fun w' => ?_) ?_
        rotate_left
        · go_simp
          first | done | with_reducible rfl
        simp only [Act.put, List.setIfInBounds_toArray, List.set_cons_zero, List.set_cons_succ]
      refine wpPl_late (by rfl) (by rfl) (by rfl) (fun K hK => ?_)
      go_simp
      refine hK _ _ ?_
      clear hK K
      refine wpPl_nil ?_
      go_wp2
      have hn := HNN.out
      subst hn
      have hrc := HRC2.out
      subst hrc
      have hrp := HRP2.out
      subst hrp
      obtain ⟨V', hA, hF⟩ := HD2.out.r.pushObject (code := dk) HG5.out HG6.out HC5.out HC6.out hltC HT5.out (HT6.out.imp id (fun e => by omega))
      refine HN.out _ _ ⟨⟨⟨rfl, rfl, rfl, rfl, rfl, rfl⟩, rfl⟩, _, dk, ?_, HG.out.object dk⟩
      exact (HD2.out.to hA hF).weak (fun p hp => by simp at hp; subst hp; simp)
  · refine wpPl_go (by rfl) (by rfl) (by rfl) (fun K hK => ?_)
    go_simp
    refine hK _ _ ⟨(cell_old (p := ⟨rb, 0, none⟩) hrb).trans t0, (cell_old (p := ⟨rb, 1, none⟩) hrb).trans t1, (cell_old (p := ⟨db, 4, none⟩) hdl).trans q4'⟩ ?_
    clear hK K
    try simp only [Act.put, List.setIfInBounds_toArray, List.set_cons_zero, List.set_cons_succ]
    refine wpPl_go (by rfl) (by rfl) (by rfl) (fun K hK => ?_)
    go_simp
    refine hK _ _ ⟨(cell_old (p := ⟨rb, 0, none⟩) (by simp; omega)).trans ((cell_old (p := ⟨rb, 0, none⟩) hrb).trans t0), (cell_old (p := ⟨rb, 1, none⟩) (by simp; omega)).trans ((cell_old (p := ⟨rb, 1, none⟩) hrb).trans t1), (cell_old (p := ⟨db, 4, none⟩) (by simp; omega)).trans ((cell_old (p := ⟨db, 4, none⟩) hdl).trans q4')⟩ ?_
    clear hK K
    try simp only [Act.put, List.setIfInBounds_toArray, List.set_cons_zero, List.set_cons_succ]
    refine wpPl_go (by rfl) (by rfl) (by rfl) (fun K hK => ?_)
    refine wp_append_lies _ (.tmp 77) (.tmp 80) 28 (by rfl) 0 3 i1 _ 1 8 Tryd.underlying28 hi1 hz10 hz11 hz12 rfl (by decide) rc n (H.objects.map fun o => Value.int .i64 o.code) (by rw [HRC.out]; rfl) (((HC.out.alloc _).alloc _).drew) ⟨w1.heap.size + 1, 0, none⟩ 1 1 [.int .i64 dk] (by rfl) rfl (news1 w1 _ _ _) (by intro u hu; simp at hu; subst hu; rfl) (by decide) (by unfold maxLen; omega) (by omega) (by omega) (w1.heap.size + 2) (by simp) ?_
    intro g1 cp1 w5 hown5 hgrow5 hat5 hlt5
    have far5 : ∀ b o, b < w1.heap.size → rc.ownBlock ≠ some b → w5.cell? ⟨b, o, none⟩ = w1.cell? ⟨b, o, none⟩ := fun b o hb1 hb2 => (hgrow5.cell_far ⟨b, o, none⟩ (by simp; omega) (fun e => hb2 e.symm)).trans ((cell_old (p := ⟨b, o, none⟩) (by simp; omega)).trans (cell_old hb1))
    refine hK _ _ ⟨(far5 _ 0 hrb HNr.out).trans t0, (far5 _ 1 hrb HNr.out).trans t1, (far5 _ 4 hdl HNd.out).trans q4'⟩ ?_
    clear hK K far5
    try simp only [Act.put, List.setIfInBounds_toArray, List.set_cons_zero, List.set_cons_succ]
    have hgrow : w1.grownBy w5 rc.ownBlock := grow_trans (grow_of_below ((((Below.refl _ _).alloc (Nat.le_refl _) _).alloc (by simp) _).drew)) hgrow5
    have hnz : some (w1.heap.size) ≠ rc.ownBlock := fun e => by have := HLC.out _ e.symm; omega
    have hzc : w5.cell? ⟨w1.heap.size, 0, none⟩ = some (.slice none 0 0) := (hgrow5.cell_far ⟨w1.heap.size, 0, none⟩ (by simp <;> omega) hnz).trans ((cell_old1 _ _ _))
    have hownC := hown5
    have hltC := hlt5
    have hatC : rc.ownBlock = some g1 ∨ w1.heap.size ≤ g1 := hat5.imp id (fun e => by omega)
    obtain ⟨z, hz⟩ : ∃ z, z = w1.heap.size := ⟨_, rfl⟩
    rw [← hz] at hzc ⊢
    have hzl : w1.heap.size ≤ z := by omega
    have hz5 : z < w5.heap.size := World.block_lt_of_cell? w5 ⟨z, 0, none⟩ hzc
    have hs5 : w1.heap.size ≤ w5.heap.size := hgrow.size
    have hb5 : ∀ b, b < w1.heap.size → rc.ownBlock ≠ some b → w5.heap[b]? = w1.heap[b]? := fun b h1 h2 => hgrow.block b h1 (fun e => h2 e.symm)
    have u0 := (World.cell?_of_block (a := ⟨rb, 0, none⟩) (hb5 _ hrb HNr.out)).trans t0
    have u1 := (World.cell?_of_block (a := ⟨rb, 1, none⟩) (hb5 _ hrb HNr.out)).trans t1
    have u4 := (World.cell?_of_block (a := ⟨db, 4, none⟩) (hb5 _ hdl HNd.out)).trans q4'
    have z0 := (World.frozen?_of_block (a := ⟨rb, 0, none⟩) (hb5 _ hrb HNr.out)).trans f0
    have z1 := (World.frozen?_of_block (a := ⟨rb, 1, none⟩) (hb5 _ hrb HNr.out)).trans f1
    have HC5 := Lib.hid hownC
    have HG5 := Lib.hid hgrow
    have HT5 := Lib.hid hatC
    have HP5 := Lib.hid (ownsRow_block HP.out fun g hg => hb5 g (HLP.out g hg) (HCP.out g hg))
    clear hownC hgrow hatC hown5 hgrow5 hat5 hlt5
    refine wpPl_go (by rfl) (by rfl) (by rfl) (fun K hK => ?_)
    refine wp_append_lies _ (.tmp 85) (.tmp 86) 29 (by rfl) 0 89 i2 _ 1 24 Tryd.underlying29 hi2 hz20 hz21 hz22 rfl (by decide) rp n V.pv (by rw [HRP.out]; rfl) HP5.out ⟨z, 0, none⟩ 1 1 [.slice none 0 0] (by rfl) rfl (fun j u hu => by rw [add_plain]; cases j with | zero => simp at hu; subst hu; exact hzc | succ j => simp at hu) (by intro u hu; simp at hu; subst hu; rfl) (by decide) (by unfold maxLen; omega) (by omega) (by omega) w5.heap.size rfl ?_
    intro g2 cp2 w6 hown6 hgrow6 hat6 hlt6
    have hb6 : ∀ b, b < w5.heap.size → rp.ownBlock ≠ some b → w6.heap[b]? = w5.heap[b]? := fun b h1 h2 => hgrow6.block b h1 (fun e => h2 e.symm)
    have hrb5 : rb < w5.heap.size := by omega
    have hdl5 : db < w5.heap.size := by omega
    have x0 := (World.cell?_of_block (a := ⟨rb, 0, none⟩) (hb6 _ hrb5 HNr2.out)).trans u0
    have x1 := (World.cell?_of_block (a := ⟨rb, 1, none⟩) (hb6 _ hrb5 HNr2.out)).trans u1
    have x4 := (World.cell?_of_block (a := ⟨db, 4, none⟩) (hb6 _ hdl5 HNd2.out)).trans u4
    have y0 := (World.frozen?_of_block (a := ⟨rb, 0, none⟩) (hb6 _ hrb5 HNr2.out)).trans z0
    have y1 := (World.frozen?_of_block (a := ⟨rb, 1, none⟩) (hb6 _ hrb5 HNr2.out)).trans z1
    refine hK _ _ ⟨x0, x1, x4⟩ ?_
    clear hK K
    try simp only [Act.put, List.setIfInBounds_toArray, List.set_cons_zero, List.set_cons_succ]
    have HC6 := Lib.hid hown6
    have HG6 := Lib.hid hgrow6
    have HT6 := Lib.hid hat6
    clear hown6 hgrow6 hat6 hlt6 hb6 hb5
    iterate 2
      refine wpPl_take ?_ (by rfl) (by rfl) (fun w' => ?_) ?_
      rotate_left
      · go_simp
        first | done | with_reducible rfl
      simp only [Act.put, List.setIfInBounds_toArray, List.set_cons_zero, List.set_cons_succ]
    refine wpPl_late (by rfl) (by rfl) (by rfl) (fun K hK => ?_)
    go_simp
    refine hK _ _ ?_
    clear hK K
    iterate 2
      refine wpPl_take ?_ (by rfl) (by rfl) (fun w' => ?_) ?_
      rotate_left
      · go_simp
        first | done | with_reducible rfl
      simp only [Act.put, List.setIfInBounds_toArray, List.set_cons_zero, List.set_cons_succ]
    refine wpPl_late (by rfl) (by rfl) (by rfl) (fun K hK => ?_)
    go_simp
    refine hK _ _ ?_
    clear hK K
    refine wpPl_nil ?_
    go_wp2
    have hn := HNN.out
    subst hn
    have hrc := HRC2.out
    subst hrc
    have hrp := HRP2.out
    subst hrp
    obtain ⟨V', hA, hF⟩ := HD2.out.r.pushObject (code := dk) HG5.out HG6.out HC5.out HC6.out hltC HT5.out (HT6.out.imp id (fun e => by omega))
    refine HN.out _ _ ⟨⟨⟨rfl, rfl, rfl, rfl, rfl, rfl⟩, rfl⟩, _, dk, ?_, HG.out.object dk⟩
    exact (HD2.out.to hA hF).weak (fun p hp => by simp at hp; subst hp; simp)
end
end Go.Proofs.YtfanolcjgaccpaaDoor
