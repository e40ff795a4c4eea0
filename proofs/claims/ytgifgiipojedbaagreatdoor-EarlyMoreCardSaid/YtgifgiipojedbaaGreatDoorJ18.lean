/- Package early: node. -/
import Derived.Test.YtgifgiipojedbaaGreatDoorJ17
import Derived.Lib.OwnKind
namespace Go.Proofs.YtgifgiipojedbaaGreatDoor
open Go Go.RowKit
set_option maxRecDepth 100000
set_option linter.unusedVariables false

set_option maxHeartbeats 8000000 in
theorem enode_k2 {B m : Nat} (hK : EKids B m) (a : ATree) (w : World) (st : Bool) (ins : Bool) (hm : a.many ≤ m + 1) (hA : WA a) (hbig : a.many < 274877906944) (hT : TreeAt w B a) (h1 : a.kind = 2) :
    Calls Tryz.prog 88 #[.agg #[.bool st, .bool ins], a.ptr] w fun e w' => e = .returned (.int .i64 (nodeE a st ins)) ∧ Below w.heap.size w w' := by
  have hmf : ∀ (fn : Fn) (first cap : Array Value) (w : World), (Instr.makeFunc fn first cap).run Tryz.prog w = .ok (.func fn first cap) w := fun _ _ _ _ => rfl
  have hdef : nodeE a st ins = if bannedF st a.text then 5 else kidsE a.kids st ins := by
    obtain ⟨b, v, k, t, n, ks⟩ := a
    simp only [ATree.kind] at h1
    subst h1
    rw [nodeE.eq_def]
    rfl
  have HKI := Lib.hid (fun W (h : TreeAt W B a) => hK a W st ins hm (fun k hk => hA.kid hk) hbig h)
  obtain ⟨code, hcode⟩ : ∃ c, c = nodeE a st ins := ⟨_, rfl⟩
  rw [← hcode]
  rw [hdef] at hcode
  have c0 := hT.c0
  have c1 := hT.c1
  rw [h1] at c0
  obtain ⟨tx, htx⟩ : ∃ tx, tx = a.text := ⟨_, rfl⟩
  rw [← htx] at c1
  try rw [← htx] at hcode
  have hb0 : Below w.heap.size w (w.alloc (.cells #[.bool st, .bool ins] 69)) := (Below.refl _ _).alloc (Nat.le_refl _) _
  have hba : Below w.heap.size w ((w.alloc (.cells #[.bool st, .bool ins] 69)).alloc (.cells #[.pointer (some ⟨a.b, 0, none⟩)] 22)) := hb0.alloc hb0.size _
  have c0' : ((w.alloc (.cells #[.bool st, .bool ins] 69)).alloc (.cells #[.pointer (some ⟨a.b, 0, none⟩)] 22)).cell? ⟨a.b, 0, none⟩ = some (.int .i64 2) := (World.cell?_of_block (hba.block a.b hT.lt)).trans c0
  have c1' : ((w.alloc (.cells #[.bool st, .bool ins] 69)).alloc (.cells #[.pointer (some ⟨a.b, 0, none⟩)] 22)).cell? ⟨a.b, 1, none⟩ = some (.string tx) := (World.cell?_of_block (hba.block a.b hT.lt)).trans c1
  have hlt0 : w.heap.size < (w.alloc (.cells #[.bool st, .bool ins] 69)).heap.size := by simp
  have b0' : ((w.alloc (.cells #[.bool st, .bool ins] 69)).alloc (.cells #[.pointer (some ⟨a.b, 0, none⟩)] 22)).cell? ⟨w.heap.size, 0, none⟩ = some (.bool st) := (cell_old (by exact hlt0)).trans (by simp)
  have b1' : ((w.alloc (.cells #[.bool st, .bool ins] 69)).alloc (.cells #[.pointer (some ⟨a.b, 0, none⟩)] 22)).cell? ⟨w.heap.size, 1, none⟩ = some (.bool ins) := (cell_old (by exact hlt0)).trans (by simp)
  have b3' : ((w.alloc (.cells #[.bool st, .bool ins] 69)).alloc (.cells #[.pointer (some ⟨a.b, 0, none⟩)] 22)).cell? ⟨w.heap.size + 1, 0, none⟩ = some (.pointer (some ⟨a.b, 0, none⟩)) := by simp
  obtain ⟨w2, hw2⟩ : ∃ w2, w2 = ((w.alloc (.cells #[.bool st, .bool ins] 69)).alloc (.cells #[.pointer (some ⟨a.b, 0, none⟩)] 22)) := ⟨_, rfl⟩
  have hbw : Below w.heap.size w w2 := by rw [hw2]; exact hba
  have hsz2 : w2.heap.size = w.heap.size + 2 := by rw [hw2]; simp
  have B0 := Lib.hid b0'
  have B1 := Lib.hid b1'
  have B3 := Lib.hid b3'
  rw [← hw2] at B0 B1 B3
  have hall : ∀ W, Below w2.heap.size w2 W → W.cell? ⟨w.heap.size, 0, none⟩ = some (.bool st) ∧ W.cell? ⟨w.heap.size, 1, none⟩ = some (.bool ins) ∧ W.cell? ⟨w.heap.size + 1, 0, none⟩ = some (.pointer (some ⟨a.b, 0, none⟩)) ∧ Below w.heap.size w W ∧ TreeAt W B a ∧ W.cell? ⟨a.b, 0, none⟩ = some (.int .i64 2) ∧ W.cell? ⟨a.b, 1, none⟩ = some (.string tx) := fun W h => by
    have h2 := hbw.trans (h.mono hbw.size)
    exact ⟨(World.cell?_of_block (h.block w.heap.size (by omega))).trans B0.out, (World.cell?_of_block (h.block w.heap.size (by omega))).trans B1.out, (World.cell?_of_block (h.block (w.heap.size + 1) (by omega))).trans B3.out, h2, hT.bel h2, (World.cell?_of_block (h2.block a.b hT.lt)).trans c0, (World.cell?_of_block (h2.block a.b hT.lt)).trans c1⟩
  obtain ⟨q0, q1, q3, _, hT2, s0, s1⟩ := hall w2 (Below.refl _ _)
  have HALL := Lib.hid hall
  have HBW := Lib.hid hbw
  have HT2 := Lib.hid hT2
  have HCODE := Lib.hid hcode
  have HW2 := Lib.hid hw2
  have HT := Lib.hid hT
  have HTX := Lib.hid htx
  clear hK hA hT hm hbig hdef hcode c0 c1 hb0 hba hlt0 hall hbw hT2 hw2 htx
  unfold ATree.ptr at HKI ⊢
  go_enter Tryz.func88, Tryz.ntmps88
  go_wp2_with fail
  rw [← HW2.out]
  clear c0' c1' b0' b1' b3'
  have HBN := Lib.hid (banned_any w2.drew st ins tx)
  obtain ⟨bf, hbf⟩ : ∃ b, b = bannedF st tx := ⟨_, rfl⟩
  rw [← hbf] at HBN HCODE
  clear hbf
  refine wp_region_plan [(true, 0), (true, 1), (true, 2), (true, 3), (true, 4)] [5] (fun W => W.cell? ⟨w.heap.size, 0, none⟩ = some (.bool st) ∧ W.cell? ⟨w.heap.size, 1, none⟩ = some (.bool ins) ∧ W.cell? ⟨w.heap.size + 1, 0, none⟩ = some (.pointer (some ⟨a.b, 0, none⟩)) ∧ W.cell? ⟨a.b, 1, none⟩ = some (.string tx)) (by kernel_rfl) (by kernel_rfl) (fun _ _ d _ _ h => by cases d <;> exact h) ⟨q0, q1, q3, s1⟩ (fun hS0 => ?_)
  simp only [planOps, List.filterMap_cons, List.filterMap_nil, List.getElem?_toArray, List.getElem?_cons_zero, List.getElem?_cons_succ, Option.map_some]
  iterate 5
    first
      | (refine wpPlan_take ?_ (by rfl) (fun w' hS' => ?_) ?_; rotate_left; (obtain ⟨s0, s1, s2, s3⟩ := hS'; go_simp; first | done | with_reducible rfl); simp only [Act.put, List.setIfInBounds_toArray, List.set_cons_zero, List.set_cons_succ])
      | (refine wpPlan_skip (by rfl) ?_; simp only [Act.put, List.setIfInBounds_toArray, List.set_cons_zero, List.set_cons_succ])
  refine wpPlan_end ?_
  go_wp2_with fail
  refine HBN.out.mono ?_
  rintro e w3 ⟨rfl, hb3⟩
  have hb4 : Below w2.heap.size w2 w3 := (Below.refl w2.heap.size w2).drew.trans hb3
  obtain ⟨r0, r1, r3, hb5, hT3, u0, u1⟩ := HALL.out w3 hb4
  have HB4 := Lib.hid hb4
  have HB5 := Lib.hid hb5
  have HT3 := Lib.hid hT3
  clear hb3 hb4 hb5 hT3 q0 q1 q3 s0 s1
  cases bf
  rotate_left
  · go_wp2
    go_ret
    exact ⟨by rw [HCODE.out]; rfl, HB5.out⟩
  go_wp2_with fail
  refine (HKI.out w3 HT3.out).mono ?_
  rintro e w9 ⟨rfl, hb9⟩
  have HB9 := Lib.hid ((HB5.out).trans (hb9.mono (HB5.out).size))
  clear hb9
  go_wp2
  go_ret
  exact ⟨by rw [HCODE.out]; rfl, HB9.out⟩

set_option maxHeartbeats 8000000 in
theorem enode_k3 {B m : Nat} (hK : EKids B m) (a : ATree) (w : World) (st : Bool) (ins : Bool) (hm : a.many ≤ m + 1) (hA : WA a) (hbig : a.many < 274877906944) (hT : TreeAt w B a) (h1 : a.kind = 3) :
    Calls Tryz.prog 88 #[.agg #[.bool st, .bool ins], a.ptr] w fun e w' => e = .returned (.int .i64 (nodeE a st ins)) ∧ Below w.heap.size w w' := by
  have hmf : ∀ (fn : Fn) (first cap : Array Value) (w : World), (Instr.makeFunc fn first cap).run Tryz.prog w = .ok (.func fn first cap) w := fun _ _ _ _ => rfl
  have hdef : nodeE a st ins = if bannedF st a.text then 5 else kidsE a.kids st ins := by
    obtain ⟨b, v, k, t, n, ks⟩ := a
    simp only [ATree.kind] at h1
    subst h1
    rw [nodeE.eq_def]
    rfl
  have HKI := Lib.hid (fun W (h : TreeAt W B a) => hK a W st ins hm (fun k hk => hA.kid hk) hbig h)
  obtain ⟨code, hcode⟩ : ∃ c, c = nodeE a st ins := ⟨_, rfl⟩
  rw [← hcode]
  rw [hdef] at hcode
  have c0 := hT.c0
  have c1 := hT.c1
  rw [h1] at c0
  obtain ⟨tx, htx⟩ : ∃ tx, tx = a.text := ⟨_, rfl⟩
  rw [← htx] at c1
  try rw [← htx] at hcode
  have hb0 : Below w.heap.size w (w.alloc (.cells #[.bool st, .bool ins] 69)) := (Below.refl _ _).alloc (Nat.le_refl _) _
  have hba : Below w.heap.size w ((w.alloc (.cells #[.bool st, .bool ins] 69)).alloc (.cells #[.pointer (some ⟨a.b, 0, none⟩)] 22)) := hb0.alloc hb0.size _
  have c0' : ((w.alloc (.cells #[.bool st, .bool ins] 69)).alloc (.cells #[.pointer (some ⟨a.b, 0, none⟩)] 22)).cell? ⟨a.b, 0, none⟩ = some (.int .i64 3) := (World.cell?_of_block (hba.block a.b hT.lt)).trans c0
  have c1' : ((w.alloc (.cells #[.bool st, .bool ins] 69)).alloc (.cells #[.pointer (some ⟨a.b, 0, none⟩)] 22)).cell? ⟨a.b, 1, none⟩ = some (.string tx) := (World.cell?_of_block (hba.block a.b hT.lt)).trans c1
  have hlt0 : w.heap.size < (w.alloc (.cells #[.bool st, .bool ins] 69)).heap.size := by simp
  have b0' : ((w.alloc (.cells #[.bool st, .bool ins] 69)).alloc (.cells #[.pointer (some ⟨a.b, 0, none⟩)] 22)).cell? ⟨w.heap.size, 0, none⟩ = some (.bool st) := (cell_old (by exact hlt0)).trans (by simp)
  have b1' : ((w.alloc (.cells #[.bool st, .bool ins] 69)).alloc (.cells #[.pointer (some ⟨a.b, 0, none⟩)] 22)).cell? ⟨w.heap.size, 1, none⟩ = some (.bool ins) := (cell_old (by exact hlt0)).trans (by simp)
  have b3' : ((w.alloc (.cells #[.bool st, .bool ins] 69)).alloc (.cells #[.pointer (some ⟨a.b, 0, none⟩)] 22)).cell? ⟨w.heap.size + 1, 0, none⟩ = some (.pointer (some ⟨a.b, 0, none⟩)) := by simp
  obtain ⟨w2, hw2⟩ : ∃ w2, w2 = ((w.alloc (.cells #[.bool st, .bool ins] 69)).alloc (.cells #[.pointer (some ⟨a.b, 0, none⟩)] 22)) := ⟨_, rfl⟩
  have hbw : Below w.heap.size w w2 := by rw [hw2]; exact hba
  have hsz2 : w2.heap.size = w.heap.size + 2 := by rw [hw2]; simp
  have B0 := Lib.hid b0'
  have B1 := Lib.hid b1'
  have B3 := Lib.hid b3'
  rw [← hw2] at B0 B1 B3
  have hall : ∀ W, Below w2.heap.size w2 W → W.cell? ⟨w.heap.size, 0, none⟩ = some (.bool st) ∧ W.cell? ⟨w.heap.size, 1, none⟩ = some (.bool ins) ∧ W.cell? ⟨w.heap.size + 1, 0, none⟩ = some (.pointer (some ⟨a.b, 0, none⟩)) ∧ Below w.heap.size w W ∧ TreeAt W B a ∧ W.cell? ⟨a.b, 0, none⟩ = some (.int .i64 3) ∧ W.cell? ⟨a.b, 1, none⟩ = some (.string tx) := fun W h => by
    have h2 := hbw.trans (h.mono hbw.size)
    exact ⟨(World.cell?_of_block (h.block w.heap.size (by omega))).trans B0.out, (World.cell?_of_block (h.block w.heap.size (by omega))).trans B1.out, (World.cell?_of_block (h.block (w.heap.size + 1) (by omega))).trans B3.out, h2, hT.bel h2, (World.cell?_of_block (h2.block a.b hT.lt)).trans c0, (World.cell?_of_block (h2.block a.b hT.lt)).trans c1⟩
  obtain ⟨q0, q1, q3, _, hT2, s0, s1⟩ := hall w2 (Below.refl _ _)
  have HALL := Lib.hid hall
  have HBW := Lib.hid hbw
  have HT2 := Lib.hid hT2
  have HCODE := Lib.hid hcode
  have HW2 := Lib.hid hw2
  have HT := Lib.hid hT
  have HTX := Lib.hid htx
  clear hK hA hT hm hbig hdef hcode c0 c1 hb0 hba hlt0 hall hbw hT2 hw2 htx
  unfold ATree.ptr at HKI ⊢
  go_enter Tryz.func88, Tryz.ntmps88
  go_wp2_with fail
  rw [← HW2.out]
  clear c0' c1' b0' b1' b3'
  have HBN := Lib.hid (banned_any w2.drew st ins tx)
  obtain ⟨bf, hbf⟩ : ∃ b, b = bannedF st tx := ⟨_, rfl⟩
  rw [← hbf] at HBN HCODE
  clear hbf
  refine wp_region_plan [(true, 0), (true, 1), (true, 2), (true, 3), (true, 4)] [5] (fun W => W.cell? ⟨w.heap.size, 0, none⟩ = some (.bool st) ∧ W.cell? ⟨w.heap.size, 1, none⟩ = some (.bool ins) ∧ W.cell? ⟨w.heap.size + 1, 0, none⟩ = some (.pointer (some ⟨a.b, 0, none⟩)) ∧ W.cell? ⟨a.b, 1, none⟩ = some (.string tx)) (by kernel_rfl) (by kernel_rfl) (fun _ _ d _ _ h => by cases d <;> exact h) ⟨q0, q1, q3, s1⟩ (fun hS0 => ?_)
  simp only [planOps, List.filterMap_cons, List.filterMap_nil, List.getElem?_toArray, List.getElem?_cons_zero, List.getElem?_cons_succ, Option.map_some]
  iterate 5
    first
      | (refine wpPlan_take ?_ (by rfl) (fun w' hS' => ?_) ?_; rotate_left; (obtain ⟨s0, s1, s2, s3⟩ := hS'; go_simp; first | done | with_reducible rfl); simp only [Act.put, List.setIfInBounds_toArray, List.set_cons_zero, List.set_cons_succ])
      | (refine wpPlan_skip (by rfl) ?_; simp only [Act.put, List.setIfInBounds_toArray, List.set_cons_zero, List.set_cons_succ])
  refine wpPlan_end ?_
  go_wp2_with fail
  refine HBN.out.mono ?_
  rintro e w3 ⟨rfl, hb3⟩
  have hb4 : Below w2.heap.size w2 w3 := (Below.refl w2.heap.size w2).drew.trans hb3
  obtain ⟨r0, r1, r3, hb5, hT3, u0, u1⟩ := HALL.out w3 hb4
  have HB4 := Lib.hid hb4
  have HB5 := Lib.hid hb5
  have HT3 := Lib.hid hT3
  clear hb3 hb4 hb5 hT3 q0 q1 q3 s0 s1
  cases bf
  rotate_left
  · go_wp2
    go_ret
    exact ⟨by rw [HCODE.out]; rfl, HB5.out⟩
  go_wp2_with fail
  refine (HKI.out w3 HT3.out).mono ?_
  rintro e w9 ⟨rfl, hb9⟩
  have HB9 := Lib.hid ((HB5.out).trans (hb9.mono (HB5.out).size))
  clear hb9
  go_wp2
  go_ret
  exact ⟨by rw [HCODE.out]; rfl, HB9.out⟩

set_option maxHeartbeats 8000000 in
theorem enode_k4 {B m : Nat} (hK : EKids B m) (a : ATree) (w : World) (st : Bool) (ins : Bool) (hm : a.many ≤ m + 1) (hA : WA a) (hbig : a.many < 274877906944) (hT : TreeAt w B a) (h1 : a.kind = 4) :
    Calls Tryz.prog 88 #[.agg #[.bool st, .bool ins], a.ptr] w fun e w' => e = .returned (.int .i64 (nodeE a st ins)) ∧ Below w.heap.size w w' := by
  have hmf : ∀ (fn : Fn) (first cap : Array Value) (w : World), (Instr.makeFunc fn first cap).run Tryz.prog w = .ok (.func fn first cap) w := fun _ _ _ _ => rfl
  have hdef : nodeE a st ins = if bannedF st a.text then 5 else kidsE a.kids st ins := by
    obtain ⟨b, v, k, t, n, ks⟩ := a
    simp only [ATree.kind] at h1
    subst h1
    rw [nodeE.eq_def]
    rfl
  have HKI := Lib.hid (fun W (h : TreeAt W B a) => hK a W st ins hm (fun k hk => hA.kid hk) hbig h)
  obtain ⟨code, hcode⟩ : ∃ c, c = nodeE a st ins := ⟨_, rfl⟩
  rw [← hcode]
  rw [hdef] at hcode
  have c0 := hT.c0
  have c1 := hT.c1
  rw [h1] at c0
  obtain ⟨tx, htx⟩ : ∃ tx, tx = a.text := ⟨_, rfl⟩
  rw [← htx] at c1
  try rw [← htx] at hcode
  have hb0 : Below w.heap.size w (w.alloc (.cells #[.bool st, .bool ins] 69)) := (Below.refl _ _).alloc (Nat.le_refl _) _
  have hba : Below w.heap.size w ((w.alloc (.cells #[.bool st, .bool ins] 69)).alloc (.cells #[.pointer (some ⟨a.b, 0, none⟩)] 22)) := hb0.alloc hb0.size _
  have c0' : ((w.alloc (.cells #[.bool st, .bool ins] 69)).alloc (.cells #[.pointer (some ⟨a.b, 0, none⟩)] 22)).cell? ⟨a.b, 0, none⟩ = some (.int .i64 4) := (World.cell?_of_block (hba.block a.b hT.lt)).trans c0
  have c1' : ((w.alloc (.cells #[.bool st, .bool ins] 69)).alloc (.cells #[.pointer (some ⟨a.b, 0, none⟩)] 22)).cell? ⟨a.b, 1, none⟩ = some (.string tx) := (World.cell?_of_block (hba.block a.b hT.lt)).trans c1
  have hlt0 : w.heap.size < (w.alloc (.cells #[.bool st, .bool ins] 69)).heap.size := by simp
  have b0' : ((w.alloc (.cells #[.bool st, .bool ins] 69)).alloc (.cells #[.pointer (some ⟨a.b, 0, none⟩)] 22)).cell? ⟨w.heap.size, 0, none⟩ = some (.bool st) := (cell_old (by exact hlt0)).trans (by simp)
  have b1' : ((w.alloc (.cells #[.bool st, .bool ins] 69)).alloc (.cells #[.pointer (some ⟨a.b, 0, none⟩)] 22)).cell? ⟨w.heap.size, 1, none⟩ = some (.bool ins) := (cell_old (by exact hlt0)).trans (by simp)
  have b3' : ((w.alloc (.cells #[.bool st, .bool ins] 69)).alloc (.cells #[.pointer (some ⟨a.b, 0, none⟩)] 22)).cell? ⟨w.heap.size + 1, 0, none⟩ = some (.pointer (some ⟨a.b, 0, none⟩)) := by simp
  obtain ⟨w2, hw2⟩ : ∃ w2, w2 = ((w.alloc (.cells #[.bool st, .bool ins] 69)).alloc (.cells #[.pointer (some ⟨a.b, 0, none⟩)] 22)) := ⟨_, rfl⟩
  have hbw : Below w.heap.size w w2 := by rw [hw2]; exact hba
  have hsz2 : w2.heap.size = w.heap.size + 2 := by rw [hw2]; simp
  have B0 := Lib.hid b0'
  have B1 := Lib.hid b1'
  have B3 := Lib.hid b3'
  rw [← hw2] at B0 B1 B3
  have hall : ∀ W, Below w2.heap.size w2 W → W.cell? ⟨w.heap.size, 0, none⟩ = some (.bool st) ∧ W.cell? ⟨w.heap.size, 1, none⟩ = some (.bool ins) ∧ W.cell? ⟨w.heap.size + 1, 0, none⟩ = some (.pointer (some ⟨a.b, 0, none⟩)) ∧ Below w.heap.size w W ∧ TreeAt W B a ∧ W.cell? ⟨a.b, 0, none⟩ = some (.int .i64 4) ∧ W.cell? ⟨a.b, 1, none⟩ = some (.string tx) := fun W h => by
    have h2 := hbw.trans (h.mono hbw.size)
    exact ⟨(World.cell?_of_block (h.block w.heap.size (by omega))).trans B0.out, (World.cell?_of_block (h.block w.heap.size (by omega))).trans B1.out, (World.cell?_of_block (h.block (w.heap.size + 1) (by omega))).trans B3.out, h2, hT.bel h2, (World.cell?_of_block (h2.block a.b hT.lt)).trans c0, (World.cell?_of_block (h2.block a.b hT.lt)).trans c1⟩
  obtain ⟨q0, q1, q3, _, hT2, s0, s1⟩ := hall w2 (Below.refl _ _)
  have HALL := Lib.hid hall
  have HBW := Lib.hid hbw
  have HT2 := Lib.hid hT2
  have HCODE := Lib.hid hcode
  have HW2 := Lib.hid hw2
  have HT := Lib.hid hT
  have HTX := Lib.hid htx
  clear hK hA hT hm hbig hdef hcode c0 c1 hb0 hba hlt0 hall hbw hT2 hw2 htx
  unfold ATree.ptr at HKI ⊢
  go_enter Tryz.func88, Tryz.ntmps88
  go_wp2_with fail
  rw [← HW2.out]
  clear c0' c1' b0' b1' b3'
  have HBN := Lib.hid (banned_any w2.drew st ins tx)
  obtain ⟨bf, hbf⟩ : ∃ b, b = bannedF st tx := ⟨_, rfl⟩
  rw [← hbf] at HBN HCODE
  clear hbf
  refine wp_region_plan [(true, 0), (true, 1), (true, 2), (true, 3), (true, 4)] [5] (fun W => W.cell? ⟨w.heap.size, 0, none⟩ = some (.bool st) ∧ W.cell? ⟨w.heap.size, 1, none⟩ = some (.bool ins) ∧ W.cell? ⟨w.heap.size + 1, 0, none⟩ = some (.pointer (some ⟨a.b, 0, none⟩)) ∧ W.cell? ⟨a.b, 1, none⟩ = some (.string tx)) (by kernel_rfl) (by kernel_rfl) (fun _ _ d _ _ h => by cases d <;> exact h) ⟨q0, q1, q3, s1⟩ (fun hS0 => ?_)
  simp only [planOps, List.filterMap_cons, List.filterMap_nil, List.getElem?_toArray, List.getElem?_cons_zero, List.getElem?_cons_succ, Option.map_some]
  iterate 5
    first
      | (refine wpPlan_take ?_ (by rfl) (fun w' hS' => ?_) ?_; rotate_left; (obtain ⟨s0, s1, s2, s3⟩ := hS'; go_simp; first | done | with_reducible rfl); simp only [Act.put, List.setIfInBounds_toArray, List.set_cons_zero, List.set_cons_succ])
      | (refine wpPlan_skip (by rfl) ?_; simp only [Act.put, List.setIfInBounds_toArray, List.set_cons_zero, List.set_cons_succ])
  refine wpPlan_end ?_
  go_wp2_with fail
  refine HBN.out.mono ?_
  rintro e w3 ⟨rfl, hb3⟩
  have hb4 : Below w2.heap.size w2 w3 := (Below.refl w2.heap.size w2).drew.trans hb3
  obtain ⟨r0, r1, r3, hb5, hT3, u0, u1⟩ := HALL.out w3 hb4
  have HB4 := Lib.hid hb4
  have HB5 := Lib.hid hb5
  have HT3 := Lib.hid hT3
  clear hb3 hb4 hb5 hT3 q0 q1 q3 s0 s1
  cases bf
  rotate_left
  · go_wp2
    go_ret
    exact ⟨by rw [HCODE.out]; rfl, HB5.out⟩
  go_wp2_with fail
  refine (HKI.out w3 HT3.out).mono ?_
  rintro e w9 ⟨rfl, hb9⟩
  have HB9 := Lib.hid ((HB5.out).trans (hb9.mono (HB5.out).size))
  clear hb9
  go_wp2
  go_ret
  exact ⟨by rw [HCODE.out]; rfl, HB9.out⟩

set_option maxHeartbeats 8000000 in
theorem enode_k13 {B m : Nat} (hK : EKids B m) (a : ATree) (w : World) (st : Bool) (ins : Bool) (hm : a.many ≤ m + 1) (hA : WA a) (hbig : a.many < 274877906944) (hT : TreeAt w B a) (h1 : a.kind = 13) (x : ATree) (hk : a.kids = [x]) :
    Calls Tryz.prog 88 #[.agg #[.bool st, .bool ins], a.ptr] w fun e w' => e = .returned (.int .i64 (nodeE a st ins)) ∧ Below w.heap.size w w' := by
  have hmf : ∀ (fn : Fn) (first cap : Array Value) (w : World), (Instr.makeFunc fn first cap).run Tryz.prog w = .ok (.func fn first cap) w := fun _ _ _ _ => rfl
  have hdef : nodeE a st ins = if bannedF st a.text then 5 else if (namesF false x).any (fun s => sameS s a.text) then 9 else kidsE a.kids st ins := by
    obtain ⟨b, v, k, t, n, ks⟩ := a
    simp only [ATree.kind, ATree.kids] at h1 hk
    subst h1
    subst hk
    rw [nodeE.eq_def]
    simp [ATree.kids, ATree.text]
  have HKI := Lib.hid (fun W (h : TreeAt W B a) => hK a W st ins hm (fun k hk => hA.kid hk) hbig h)
  obtain ⟨code, hcode⟩ : ∃ c, c = nodeE a st ins := ⟨_, rfl⟩
  rw [← hcode]
  rw [hdef] at hcode
  have c0 := hT.c0
  have c1 := hT.c1
  rw [h1] at c0
  obtain ⟨tx, htx⟩ : ∃ tx, tx = a.text := ⟨_, rfl⟩
  rw [← htx] at c1
  try rw [← htx] at hcode
  have hb0 : Below w.heap.size w (w.alloc (.cells #[.bool st, .bool ins] 69)) := (Below.refl _ _).alloc (Nat.le_refl _) _
  have hba : Below w.heap.size w ((w.alloc (.cells #[.bool st, .bool ins] 69)).alloc (.cells #[.pointer (some ⟨a.b, 0, none⟩)] 22)) := hb0.alloc hb0.size _
  have c0' : ((w.alloc (.cells #[.bool st, .bool ins] 69)).alloc (.cells #[.pointer (some ⟨a.b, 0, none⟩)] 22)).cell? ⟨a.b, 0, none⟩ = some (.int .i64 13) := (World.cell?_of_block (hba.block a.b hT.lt)).trans c0
  have c1' : ((w.alloc (.cells #[.bool st, .bool ins] 69)).alloc (.cells #[.pointer (some ⟨a.b, 0, none⟩)] 22)).cell? ⟨a.b, 1, none⟩ = some (.string tx) := (World.cell?_of_block (hba.block a.b hT.lt)).trans c1
  have hlt0 : w.heap.size < (w.alloc (.cells #[.bool st, .bool ins] 69)).heap.size := by simp
  have b0' : ((w.alloc (.cells #[.bool st, .bool ins] 69)).alloc (.cells #[.pointer (some ⟨a.b, 0, none⟩)] 22)).cell? ⟨w.heap.size, 0, none⟩ = some (.bool st) := (cell_old (by exact hlt0)).trans (by simp)
  have b1' : ((w.alloc (.cells #[.bool st, .bool ins] 69)).alloc (.cells #[.pointer (some ⟨a.b, 0, none⟩)] 22)).cell? ⟨w.heap.size, 1, none⟩ = some (.bool ins) := (cell_old (by exact hlt0)).trans (by simp)
  have b3' : ((w.alloc (.cells #[.bool st, .bool ins] 69)).alloc (.cells #[.pointer (some ⟨a.b, 0, none⟩)] 22)).cell? ⟨w.heap.size + 1, 0, none⟩ = some (.pointer (some ⟨a.b, 0, none⟩)) := by simp
  obtain ⟨p, cp, hv, hge, hmx⟩ := hT.vOf
  have hrow := hT.rowOf
  obtain ⟨g, hp⟩ : ∃ g, p = some ⟨g, 0, none⟩ := by
    rcases ownsRow_cases hrow with ⟨_, h2⟩ | ⟨g, cap, h1, _⟩
    · rw [hk] at h2; simp at h2
    · rw [hv] at h1; simp only [Value.slice.injEq] at h1; exact ⟨g, h1.1⟩
  subst hp
  have c3 : w.cell? ⟨a.b, 3, none⟩ = some (.slice (some ⟨g, 0, none⟩) 1 cp) := by have h := hT.c3; rw [hv, hk] at h; exact h
  have hge2 : 1 ≤ cp := by rw [hk] at hge; exact hge
  unfold maxLen at hmx
  have hlg := (World.ownsRow.lt hrow g (by rw [hv]; rfl)).2
  have c3' : ((w.alloc (.cells #[.bool st, .bool ins] 69)).alloc (.cells #[.pointer (some ⟨a.b, 0, none⟩)] 22)).cell? ⟨a.b, 3, none⟩ = some (.slice (some ⟨g, 0, none⟩) 1 cp) := (World.cell?_of_block (hba.block a.b hT.lt)).trans c3
  have k0 := ownsRow_cell1 hrow (g := g) (by rw [hv]; rfl) (i := 0) (x := x.ptr) (by rw [hk]; rfl)
  have k0' : ((w.alloc (.cells #[.bool st, .bool ins] 69)).alloc (.cells #[.pointer (some ⟨a.b, 0, none⟩)] 22)).cell? ⟨g, 0, none⟩ = some x.ptr := (World.cell?_of_block (hba.block g hlg)).trans k0
  have hTx := hT.kid (k := x) (by rw [hk]; simp)
  have hkeep : ∀ W, Below w.heap.size w W → W.cell? ⟨a.b, 3, none⟩ = some (.slice (some ⟨g, 0, none⟩) 1 cp) ∧ W.cell? ⟨g, 0, none⟩ = some (.pointer (some ⟨x.b, 0, none⟩)) ∧ TreeAt W B x := fun W h => ⟨(World.cell?_of_block (h.block a.b hT.lt)).trans c3, (World.cell?_of_block (h.block g hlg)).trans k0, hTx.bel h⟩
  have HKEEP := Lib.hid hkeep
  obtain ⟨w2, hw2⟩ : ∃ w2, w2 = ((w.alloc (.cells #[.bool st, .bool ins] 69)).alloc (.cells #[.pointer (some ⟨a.b, 0, none⟩)] 22)) := ⟨_, rfl⟩
  have hbw : Below w.heap.size w w2 := by rw [hw2]; exact hba
  have hsz2 : w2.heap.size = w.heap.size + 2 := by rw [hw2]; simp
  have B0 := Lib.hid b0'
  have B1 := Lib.hid b1'
  have B3 := Lib.hid b3'
  rw [← hw2] at B0 B1 B3
  have hall : ∀ W, Below w2.heap.size w2 W → W.cell? ⟨w.heap.size, 0, none⟩ = some (.bool st) ∧ W.cell? ⟨w.heap.size, 1, none⟩ = some (.bool ins) ∧ W.cell? ⟨w.heap.size + 1, 0, none⟩ = some (.pointer (some ⟨a.b, 0, none⟩)) ∧ Below w.heap.size w W ∧ TreeAt W B a ∧ W.cell? ⟨a.b, 0, none⟩ = some (.int .i64 13) ∧ W.cell? ⟨a.b, 1, none⟩ = some (.string tx) := fun W h => by
    have h2 := hbw.trans (h.mono hbw.size)
    exact ⟨(World.cell?_of_block (h.block w.heap.size (by omega))).trans B0.out, (World.cell?_of_block (h.block w.heap.size (by omega))).trans B1.out, (World.cell?_of_block (h.block (w.heap.size + 1) (by omega))).trans B3.out, h2, hT.bel h2, (World.cell?_of_block (h2.block a.b hT.lt)).trans c0, (World.cell?_of_block (h2.block a.b hT.lt)).trans c1⟩
  obtain ⟨q0, q1, q3, _, hT2, s0, s1⟩ := hall w2 (Below.refl _ _)
  have HALL := Lib.hid hall
  have HBW := Lib.hid hbw
  have HT2 := Lib.hid hT2
  have HCODE := Lib.hid hcode
  have HW2 := Lib.hid hw2
  have HT := Lib.hid hT
  have HTX := Lib.hid htx
  have hxm : x.many < 274877906944 := by have := many_kid (a := a) (k := x) (by rw [hk]; simp); omega
  clear hK hA hT hm hbig hdef hcode c0 c1 hb0 hba hlt0 hall hbw hT2 hw2 htx
  clear hge hrow hv hk c3 hkeep k0 hTx
  unfold ATree.ptr at HKI k0' ⊢
  go_enter Tryz.func88, Tryz.ntmps88
  go_wp2_with fail
  rw [← HW2.out]
  clear c0' c1' b0' b1' b3' c3' k0'
  have HBN := Lib.hid (banned_any w2.drew st ins tx)
  obtain ⟨bf, hbf⟩ : ∃ b, b = bannedF st tx := ⟨_, rfl⟩
  rw [← hbf] at HBN HCODE
  clear hbf
  refine wp_region_plan [(true, 0), (true, 1), (true, 2), (true, 3), (true, 4)] [5] (fun W => W.cell? ⟨w.heap.size, 0, none⟩ = some (.bool st) ∧ W.cell? ⟨w.heap.size, 1, none⟩ = some (.bool ins) ∧ W.cell? ⟨w.heap.size + 1, 0, none⟩ = some (.pointer (some ⟨a.b, 0, none⟩)) ∧ W.cell? ⟨a.b, 1, none⟩ = some (.string tx)) (by kernel_rfl) (by kernel_rfl) (fun _ _ d _ _ h => by cases d <;> exact h) ⟨q0, q1, q3, s1⟩ (fun hS0 => ?_)
  simp only [planOps, List.filterMap_cons, List.filterMap_nil, List.getElem?_toArray, List.getElem?_cons_zero, List.getElem?_cons_succ, Option.map_some]
  iterate 5
    first
      | (refine wpPlan_take ?_ (by rfl) (fun w' hS' => ?_) ?_; rotate_left; (obtain ⟨s0, s1, s2, s3⟩ := hS'; go_simp; first | done | with_reducible rfl); simp only [Act.put, List.setIfInBounds_toArray, List.set_cons_zero, List.set_cons_succ])
      | (refine wpPlan_skip (by rfl) ?_; simp only [Act.put, List.setIfInBounds_toArray, List.set_cons_zero, List.set_cons_succ])
  refine wpPlan_end ?_
  go_wp2_with fail
  refine HBN.out.mono ?_
  rintro e w3 ⟨rfl, hb3⟩
  have hb4 : Below w2.heap.size w2 w3 := (Below.refl w2.heap.size w2).drew.trans hb3
  obtain ⟨r0, r1, r3, hb5, hT3, u0, u1⟩ := HALL.out w3 hb4
  have HB4 := Lib.hid hb4
  have HB5 := Lib.hid hb5
  have HT3 := Lib.hid hT3
  clear hb3 hb4 hb5 hT3 q0 q1 q3 s0 s1
  cases bf
  rotate_left
  · go_wp2
    go_ret
    exact ⟨by rw [HCODE.out]; rfl, HB5.out⟩
  obtain ⟨l3, l0, hTx⟩ := HKEEP.out w3 HB5.out
  have HNM := Lib.hid (names_any false w3 B x hTx hxm)
  obtain ⟨nm, hnm⟩ : ∃ n, n = namesF false x := ⟨_, rfl⟩
  rw [← hnm] at HNM HCODE
  unfold ATree.ptr at HNM
  clear hTx hnm
  go_wp2_with fail
  refine HNM.out.mono ?_
  rintro e w4 ⟨v4, rfl, ht4, hb6⟩
  obtain ⟨pv, cpv, rfl, hgv, hmv, hpv⟩ := ht4.form2
  have hb7 : Below w2.heap.size w2 w4 := HB4.out.trans (hb6.mono HB4.out.size)
  obtain ⟨o0, o1, o3, hb8, hT4, _, _⟩ := HALL.out w4 hb7
  have hckl : w.heap.size + 1 < w4.heap.size := by have := hb7.size; omega
  have han := any_n1 ⟨w.heap.size + 1, 0, none⟩ Value.string (fun s => sameS s tx) (Below w4.heap.size w4) pv cpv nm w4 (by unfold maxLen at hmv; omega) hgv
    (fun i y hy => by
      obtain ⟨g, hg⟩ := hpv i y hy
      refine ⟨g, 0, hg, fun w1 h => ?_⟩
      rw [Nat.zero_add]
      exact (World.cell?_of_block (h.block g (World.ownsRow.lt ht4 g (by rw [hg]; rfl)).2)).trans (ht4.cells (by rw [hg]; rfl) hy))
    (fun y hy w1 h => by
      rw [HTX.out]
      exact (node1_any w1 B (w.heap.size + 1) a y (hT4.bel h) ((World.cell?_of_block (h.block _ hckl)).trans o3)).mono fun e w2 ⟨h1, h2⟩ => ⟨h1, by rw [h2]; exact h⟩)
    (Below.refl _ _)
  have HAN := Lib.hid han
  have HB7 := Lib.hid hb7
  obtain ⟨ag, hag⟩ : ∃ b, b = nm.any (fun s => sameS s tx) := ⟨_, rfl⟩
  rw [← hag] at HAN HCODE
  clear han hag ht4 hb6 hb7 hb8 hT4 r0 r1 r3 l3 l0 u0 u1 hpv HNM
  go_wp2_with fail
  refine HAN.out.mono ?_
  rintro e w5 ⟨rfl, hb9⟩
  obtain ⟨o0, o1, o3, hb8, hT5, _, _⟩ := HALL.out w5 (HB7.out.trans (hb9.mono HB7.out.size))
  have HB8 := Lib.hid hb8
  have HT5 := Lib.hid hT5
  clear hb9 hb8 hT5 HAN
  cases ag
  rotate_left
  · go_wp2
    go_ret
    exact ⟨by rw [HCODE.out]; rfl, HB8.out⟩
  go_wp2_with fail
  refine (HKI.out w5 HT5.out).mono ?_
  rintro e w9 ⟨rfl, hb9⟩
  have HB9 := Lib.hid ((HB8.out).trans (hb9.mono (HB8.out).size))
  clear hb9
  go_wp2
  go_ret
  exact ⟨by rw [HCODE.out]; rfl, HB9.out⟩

set_option maxHeartbeats 8000000 in
theorem enode_k5t {B m : Nat} (hK : EKids B m) (a : ATree) (w : World) (ins : Bool) (hm : a.many ≤ m + 1) (hA : WA a) (hbig : a.many < 274877906944) (hT : TreeAt w B a) (h1 : a.kind = 5) (ps bd : ATree) (hk : a.kids = [ps, bd]) :
    Calls Tryz.prog 88 #[.agg #[.bool true, .bool ins], a.ptr] w fun e w' => e = .returned (.int .i64 (nodeE a true ins)) ∧ Below w.heap.size w w' := by
  have hmf : ∀ (fn : Fn) (first cap : Array Value) (w : World), (Instr.makeFunc fn first cap).run Tryz.prog w = .ok (.func fn first cap) w := fun _ _ _ _ => rfl
  have hdef : nodeE a true ins = if funcE true a.text (ps.kids.map ATree.text) bd ≠ 0 then funcE true a.text (ps.kids.map ATree.text) bd else kidsE bd.kids true true := by
    obtain ⟨b, v, k, t, n, ks⟩ := a
    simp only [ATree.kind, ATree.kids] at h1 hk
    subst h1
    subst hk
    obtain ⟨b2, v2, k2, t2, n2, ks2⟩ := bd
    rw [nodeE.eq_def]
    rfl
  have HKI := Lib.hid (fun W (h : TreeAt W B a) => hK a W true ins hm (fun k hk => hA.kid hk) hbig h)
  obtain ⟨code, hcode⟩ : ∃ c, c = nodeE a true ins := ⟨_, rfl⟩
  rw [← hcode]
  rw [hdef] at hcode
  have c0 := hT.c0
  have c1 := hT.c1
  rw [h1] at c0
  obtain ⟨tx, htx⟩ : ∃ tx, tx = a.text := ⟨_, rfl⟩
  rw [← htx] at c1
  try rw [← htx] at hcode
  have hb0 : Below w.heap.size w (w.alloc (.cells #[.bool true, .bool ins] 69)) := (Below.refl _ _).alloc (Nat.le_refl _) _
  have hba : Below w.heap.size w ((w.alloc (.cells #[.bool true, .bool ins] 69)).alloc (.cells #[.pointer (some ⟨a.b, 0, none⟩)] 22)) := hb0.alloc hb0.size _
  have c0' : ((w.alloc (.cells #[.bool true, .bool ins] 69)).alloc (.cells #[.pointer (some ⟨a.b, 0, none⟩)] 22)).cell? ⟨a.b, 0, none⟩ = some (.int .i64 5) := (World.cell?_of_block (hba.block a.b hT.lt)).trans c0
  have c1' : ((w.alloc (.cells #[.bool true, .bool ins] 69)).alloc (.cells #[.pointer (some ⟨a.b, 0, none⟩)] 22)).cell? ⟨a.b, 1, none⟩ = some (.string tx) := (World.cell?_of_block (hba.block a.b hT.lt)).trans c1
  have hlt0 : w.heap.size < (w.alloc (.cells #[.bool true, .bool ins] 69)).heap.size := by simp
  have b0' : ((w.alloc (.cells #[.bool true, .bool ins] 69)).alloc (.cells #[.pointer (some ⟨a.b, 0, none⟩)] 22)).cell? ⟨w.heap.size, 0, none⟩ = some (.bool true) := (cell_old (by exact hlt0)).trans (by simp)
  have b1' : ((w.alloc (.cells #[.bool true, .bool ins] 69)).alloc (.cells #[.pointer (some ⟨a.b, 0, none⟩)] 22)).cell? ⟨w.heap.size, 1, none⟩ = some (.bool ins) := (cell_old (by exact hlt0)).trans (by simp)
  have b3' : ((w.alloc (.cells #[.bool true, .bool ins] 69)).alloc (.cells #[.pointer (some ⟨a.b, 0, none⟩)] 22)).cell? ⟨w.heap.size + 1, 0, none⟩ = some (.pointer (some ⟨a.b, 0, none⟩)) := by simp
  obtain ⟨w2, hw2⟩ : ∃ w2, w2 = ((w.alloc (.cells #[.bool true, .bool ins] 69)).alloc (.cells #[.pointer (some ⟨a.b, 0, none⟩)] 22)) := ⟨_, rfl⟩
  have hbw : Below w.heap.size w w2 := by rw [hw2]; exact hba
  have hsz2 : w2.heap.size = w.heap.size + 2 := by rw [hw2]; simp
  have B0 := Lib.hid b0'
  have B1 := Lib.hid b1'
  have B3 := Lib.hid b3'
  rw [← hw2] at B0 B1 B3
  have hall : ∀ W, Below w2.heap.size w2 W → W.cell? ⟨w.heap.size, 0, none⟩ = some (.bool true) ∧ W.cell? ⟨w.heap.size, 1, none⟩ = some (.bool ins) ∧ W.cell? ⟨w.heap.size + 1, 0, none⟩ = some (.pointer (some ⟨a.b, 0, none⟩)) ∧ Below w.heap.size w W ∧ TreeAt W B a ∧ W.cell? ⟨a.b, 0, none⟩ = some (.int .i64 5) ∧ W.cell? ⟨a.b, 1, none⟩ = some (.string tx) := fun W h => by
    have h2 := hbw.trans (h.mono hbw.size)
    exact ⟨(World.cell?_of_block (h.block w.heap.size (by omega))).trans B0.out, (World.cell?_of_block (h.block w.heap.size (by omega))).trans B1.out, (World.cell?_of_block (h.block (w.heap.size + 1) (by omega))).trans B3.out, h2, hT.bel h2, (World.cell?_of_block (h2.block a.b hT.lt)).trans c0, (World.cell?_of_block (h2.block a.b hT.lt)).trans c1⟩
  obtain ⟨q0, q1, q3, _, hT2, s0, s1⟩ := hall w2 (Below.refl _ _)
  have HALL := Lib.hid hall
  have HBW := Lib.hid hbw
  have HT2 := Lib.hid hT2
  have HCODE := Lib.hid hcode
  have HW2 := Lib.hid hw2
  have HT := Lib.hid hT
  have HTX := Lib.hid htx
  have hf := fun W (h : TreeAt W B a) => efunc_true hK a W ins hm hbig h ps bd hk (fun k hk2 => (hA.kid (show bd ∈ a.kids by rw [hk]; simp)).kid hk2)
  rw [← htx, ← hcode] at hf
  have HFN := Lib.hid hf
  clear hf hk
  clear hK hA hT hm hbig hdef hcode c0 c1 hb0 hba hlt0 hall hbw hT2 hw2 htx
  unfold ATree.ptr at HFN ⊢
  go_enter Tryz.func88, Tryz.ntmps88
  go_wp2_with fail
  rw [← HW2.out]
  clear c0' c1' b0' b1' b3'
  refine (HFN.out w2 HT2.out).mono ?_
  rintro e w3 ⟨rfl, hb3⟩
  obtain ⟨_, _, _, hb5, _, _, _⟩ := HALL.out w3 hb3
  have HB5 := Lib.hid hb5
  clear hb3 hb5 q0 q1 q3 s0 s1
  go_wp2
  go_ret
  exact ⟨rfl, HB5.out⟩

set_option maxHeartbeats 8000000 in
theorem enode_k5f {B m : Nat} (hK : EKids B m) (a : ATree) (w : World) (ins : Bool) (hm : a.many ≤ m + 1) (hA : WA a) (hbig : a.many < 274877906944) (hT : TreeAt w B a) (h1 : a.kind = 5) (ps bd : ATree) (hk : a.kids = [ps, bd]) :
    Calls Tryz.prog 88 #[.agg #[.bool false, .bool ins], a.ptr] w fun e w' => e = .returned (.int .i64 (nodeE a false ins)) ∧ Below w.heap.size w w' := by
  have hmf : ∀ (fn : Fn) (first cap : Array Value) (w : World), (Instr.makeFunc fn first cap).run Tryz.prog w = .ok (.func fn first cap) w := fun _ _ _ _ => rfl
  have hdef : nodeE a false ins = if funcE (isStrict bd) a.text (ps.kids.map ATree.text) bd ≠ 0 then funcE (isStrict bd) a.text (ps.kids.map ATree.text) bd else kidsE bd.kids (isStrict bd) true := by
    obtain ⟨b, v, k, t, n, ks⟩ := a
    simp only [ATree.kind, ATree.kids] at h1 hk
    subst h1
    subst hk
    obtain ⟨b2, v2, k2, t2, n2, ks2⟩ := bd
    rw [nodeE.eq_def]
    rfl
  have HKI := Lib.hid (fun W (h : TreeAt W B a) => hK a W false ins hm (fun k hk => hA.kid hk) hbig h)
  obtain ⟨code, hcode⟩ : ∃ c, c = nodeE a false ins := ⟨_, rfl⟩
  rw [← hcode]
  rw [hdef] at hcode
  have c0 := hT.c0
  have c1 := hT.c1
  rw [h1] at c0
  obtain ⟨tx, htx⟩ : ∃ tx, tx = a.text := ⟨_, rfl⟩
  rw [← htx] at c1
  try rw [← htx] at hcode
  have hb0 : Below w.heap.size w (w.alloc (.cells #[.bool false, .bool ins] 69)) := (Below.refl _ _).alloc (Nat.le_refl _) _
  have hba : Below w.heap.size w ((w.alloc (.cells #[.bool false, .bool ins] 69)).alloc (.cells #[.pointer (some ⟨a.b, 0, none⟩)] 22)) := hb0.alloc hb0.size _
  have c0' : ((w.alloc (.cells #[.bool false, .bool ins] 69)).alloc (.cells #[.pointer (some ⟨a.b, 0, none⟩)] 22)).cell? ⟨a.b, 0, none⟩ = some (.int .i64 5) := (World.cell?_of_block (hba.block a.b hT.lt)).trans c0
  have c1' : ((w.alloc (.cells #[.bool false, .bool ins] 69)).alloc (.cells #[.pointer (some ⟨a.b, 0, none⟩)] 22)).cell? ⟨a.b, 1, none⟩ = some (.string tx) := (World.cell?_of_block (hba.block a.b hT.lt)).trans c1
  have hlt0 : w.heap.size < (w.alloc (.cells #[.bool false, .bool ins] 69)).heap.size := by simp
  have b0' : ((w.alloc (.cells #[.bool false, .bool ins] 69)).alloc (.cells #[.pointer (some ⟨a.b, 0, none⟩)] 22)).cell? ⟨w.heap.size, 0, none⟩ = some (.bool false) := (cell_old (by exact hlt0)).trans (by simp)
  have b1' : ((w.alloc (.cells #[.bool false, .bool ins] 69)).alloc (.cells #[.pointer (some ⟨a.b, 0, none⟩)] 22)).cell? ⟨w.heap.size, 1, none⟩ = some (.bool ins) := (cell_old (by exact hlt0)).trans (by simp)
  have b3' : ((w.alloc (.cells #[.bool false, .bool ins] 69)).alloc (.cells #[.pointer (some ⟨a.b, 0, none⟩)] 22)).cell? ⟨w.heap.size + 1, 0, none⟩ = some (.pointer (some ⟨a.b, 0, none⟩)) := by simp
  obtain ⟨w2, hw2⟩ : ∃ w2, w2 = ((w.alloc (.cells #[.bool false, .bool ins] 69)).alloc (.cells #[.pointer (some ⟨a.b, 0, none⟩)] 22)) := ⟨_, rfl⟩
  have hbw : Below w.heap.size w w2 := by rw [hw2]; exact hba
  have hsz2 : w2.heap.size = w.heap.size + 2 := by rw [hw2]; simp
  have B0 := Lib.hid b0'
  have B1 := Lib.hid b1'
  have B3 := Lib.hid b3'
  rw [← hw2] at B0 B1 B3
  have hall : ∀ W, Below w2.heap.size w2 W → W.cell? ⟨w.heap.size, 0, none⟩ = some (.bool false) ∧ W.cell? ⟨w.heap.size, 1, none⟩ = some (.bool ins) ∧ W.cell? ⟨w.heap.size + 1, 0, none⟩ = some (.pointer (some ⟨a.b, 0, none⟩)) ∧ Below w.heap.size w W ∧ TreeAt W B a ∧ W.cell? ⟨a.b, 0, none⟩ = some (.int .i64 5) ∧ W.cell? ⟨a.b, 1, none⟩ = some (.string tx) := fun W h => by
    have h2 := hbw.trans (h.mono hbw.size)
    exact ⟨(World.cell?_of_block (h.block w.heap.size (by omega))).trans B0.out, (World.cell?_of_block (h.block w.heap.size (by omega))).trans B1.out, (World.cell?_of_block (h.block (w.heap.size + 1) (by omega))).trans B3.out, h2, hT.bel h2, (World.cell?_of_block (h2.block a.b hT.lt)).trans c0, (World.cell?_of_block (h2.block a.b hT.lt)).trans c1⟩
  obtain ⟨q0, q1, q3, _, hT2, s0, s1⟩ := hall w2 (Below.refl _ _)
  have HALL := Lib.hid hall
  have HBW := Lib.hid hbw
  have HT2 := Lib.hid hT2
  have HCODE := Lib.hid hcode
  have HW2 := Lib.hid hw2
  have HT := Lib.hid hT
  have HTX := Lib.hid htx
  have hf := fun W (h : TreeAt W B a) => efunc_false hK a W ins hm hbig h ps bd hk (fun k hk2 => (hA.kid (show bd ∈ a.kids by rw [hk]; simp)).kid hk2)
  rw [← htx, ← hcode] at hf
  have HFN := Lib.hid hf
  clear hf hk
  clear hK hA hT hm hbig hdef hcode c0 c1 hb0 hba hlt0 hall hbw hT2 hw2 htx
  unfold ATree.ptr at HFN ⊢
  go_enter Tryz.func88, Tryz.ntmps88
  go_wp2_with fail
  rw [← HW2.out]
  clear c0' c1' b0' b1' b3'
  refine (HFN.out w2 HT2.out).mono ?_
  rintro e w3 ⟨rfl, hb3⟩
  obtain ⟨_, _, _, hb5, _, _, _⟩ := HALL.out w3 hb3
  have HB5 := Lib.hid hb5
  clear hb3 hb5 q0 q1 q3 s0 s1
  go_wp2
  go_ret
  exact ⟨rfl, HB5.out⟩

set_option maxHeartbeats 8000000 in
theorem enode_k37t {B m : Nat} (hK : EKids B m) (a : ATree) (w : World) (ins : Bool) (hm : a.many ≤ m + 1) (hA : WA a) (hbig : a.many < 274877906944) (hT : TreeAt w B a) (h1 : a.kind = 37) (ps bd : ATree) (hk : a.kids = [ps, bd]) :
    Calls Tryz.prog 88 #[.agg #[.bool true, .bool ins], a.ptr] w fun e w' => e = .returned (.int .i64 (nodeE a true ins)) ∧ Below w.heap.size w w' := by
  have hmf : ∀ (fn : Fn) (first cap : Array Value) (w : World), (Instr.makeFunc fn first cap).run Tryz.prog w = .ok (.func fn first cap) w := fun _ _ _ _ => rfl
  have hdef : nodeE a true ins = if funcE true a.text (ps.kids.map ATree.text) bd ≠ 0 then funcE true a.text (ps.kids.map ATree.text) bd else kidsE bd.kids true true := by
    obtain ⟨b, v, k, t, n, ks⟩ := a
    simp only [ATree.kind, ATree.kids] at h1 hk
    subst h1
    subst hk
    obtain ⟨b2, v2, k2, t2, n2, ks2⟩ := bd
    rw [nodeE.eq_def]
    rfl
  have HKI := Lib.hid (fun W (h : TreeAt W B a) => hK a W true ins hm (fun k hk => hA.kid hk) hbig h)
  obtain ⟨code, hcode⟩ : ∃ c, c = nodeE a true ins := ⟨_, rfl⟩
  rw [← hcode]
  rw [hdef] at hcode
  have c0 := hT.c0
  have c1 := hT.c1
  rw [h1] at c0
  obtain ⟨tx, htx⟩ : ∃ tx, tx = a.text := ⟨_, rfl⟩
  rw [← htx] at c1
  try rw [← htx] at hcode
  have hb0 : Below w.heap.size w (w.alloc (.cells #[.bool true, .bool ins] 69)) := (Below.refl _ _).alloc (Nat.le_refl _) _
  have hba : Below w.heap.size w ((w.alloc (.cells #[.bool true, .bool ins] 69)).alloc (.cells #[.pointer (some ⟨a.b, 0, none⟩)] 22)) := hb0.alloc hb0.size _
  have c0' : ((w.alloc (.cells #[.bool true, .bool ins] 69)).alloc (.cells #[.pointer (some ⟨a.b, 0, none⟩)] 22)).cell? ⟨a.b, 0, none⟩ = some (.int .i64 37) := (World.cell?_of_block (hba.block a.b hT.lt)).trans c0
  have c1' : ((w.alloc (.cells #[.bool true, .bool ins] 69)).alloc (.cells #[.pointer (some ⟨a.b, 0, none⟩)] 22)).cell? ⟨a.b, 1, none⟩ = some (.string tx) := (World.cell?_of_block (hba.block a.b hT.lt)).trans c1
  have hlt0 : w.heap.size < (w.alloc (.cells #[.bool true, .bool ins] 69)).heap.size := by simp
  have b0' : ((w.alloc (.cells #[.bool true, .bool ins] 69)).alloc (.cells #[.pointer (some ⟨a.b, 0, none⟩)] 22)).cell? ⟨w.heap.size, 0, none⟩ = some (.bool true) := (cell_old (by exact hlt0)).trans (by simp)
  have b1' : ((w.alloc (.cells #[.bool true, .bool ins] 69)).alloc (.cells #[.pointer (some ⟨a.b, 0, none⟩)] 22)).cell? ⟨w.heap.size, 1, none⟩ = some (.bool ins) := (cell_old (by exact hlt0)).trans (by simp)
  have b3' : ((w.alloc (.cells #[.bool true, .bool ins] 69)).alloc (.cells #[.pointer (some ⟨a.b, 0, none⟩)] 22)).cell? ⟨w.heap.size + 1, 0, none⟩ = some (.pointer (some ⟨a.b, 0, none⟩)) := by simp
  obtain ⟨w2, hw2⟩ : ∃ w2, w2 = ((w.alloc (.cells #[.bool true, .bool ins] 69)).alloc (.cells #[.pointer (some ⟨a.b, 0, none⟩)] 22)) := ⟨_, rfl⟩
  have hbw : Below w.heap.size w w2 := by rw [hw2]; exact hba
  have hsz2 : w2.heap.size = w.heap.size + 2 := by rw [hw2]; simp
  have B0 := Lib.hid b0'
  have B1 := Lib.hid b1'
  have B3 := Lib.hid b3'
  rw [← hw2] at B0 B1 B3
  have hall : ∀ W, Below w2.heap.size w2 W → W.cell? ⟨w.heap.size, 0, none⟩ = some (.bool true) ∧ W.cell? ⟨w.heap.size, 1, none⟩ = some (.bool ins) ∧ W.cell? ⟨w.heap.size + 1, 0, none⟩ = some (.pointer (some ⟨a.b, 0, none⟩)) ∧ Below w.heap.size w W ∧ TreeAt W B a ∧ W.cell? ⟨a.b, 0, none⟩ = some (.int .i64 37) ∧ W.cell? ⟨a.b, 1, none⟩ = some (.string tx) := fun W h => by
    have h2 := hbw.trans (h.mono hbw.size)
    exact ⟨(World.cell?_of_block (h.block w.heap.size (by omega))).trans B0.out, (World.cell?_of_block (h.block w.heap.size (by omega))).trans B1.out, (World.cell?_of_block (h.block (w.heap.size + 1) (by omega))).trans B3.out, h2, hT.bel h2, (World.cell?_of_block (h2.block a.b hT.lt)).trans c0, (World.cell?_of_block (h2.block a.b hT.lt)).trans c1⟩
  obtain ⟨q0, q1, q3, _, hT2, s0, s1⟩ := hall w2 (Below.refl _ _)
  have HALL := Lib.hid hall
  have HBW := Lib.hid hbw
  have HT2 := Lib.hid hT2
  have HCODE := Lib.hid hcode
  have HW2 := Lib.hid hw2
  have HT := Lib.hid hT
  have HTX := Lib.hid htx
  have hf := fun W (h : TreeAt W B a) => efunc_true hK a W ins hm hbig h ps bd hk (fun k hk2 => (hA.kid (show bd ∈ a.kids by rw [hk]; simp)).kid hk2)
  rw [← htx, ← hcode] at hf
  have HFN := Lib.hid hf
  clear hf hk
  clear hK hA hT hm hbig hdef hcode c0 c1 hb0 hba hlt0 hall hbw hT2 hw2 htx
  unfold ATree.ptr at HFN ⊢
  go_enter Tryz.func88, Tryz.ntmps88
  go_wp2_with fail
  rw [← HW2.out]
  clear c0' c1' b0' b1' b3'
  refine (HFN.out w2 HT2.out).mono ?_
  rintro e w3 ⟨rfl, hb3⟩
  obtain ⟨_, _, _, hb5, _, _, _⟩ := HALL.out w3 hb3
  have HB5 := Lib.hid hb5
  clear hb3 hb5 q0 q1 q3 s0 s1
  go_wp2
  go_ret
  exact ⟨rfl, HB5.out⟩

set_option maxHeartbeats 8000000 in
theorem enode_k37f {B m : Nat} (hK : EKids B m) (a : ATree) (w : World) (ins : Bool) (hm : a.many ≤ m + 1) (hA : WA a) (hbig : a.many < 274877906944) (hT : TreeAt w B a) (h1 : a.kind = 37) (ps bd : ATree) (hk : a.kids = [ps, bd]) :
    Calls Tryz.prog 88 #[.agg #[.bool false, .bool ins], a.ptr] w fun e w' => e = .returned (.int .i64 (nodeE a false ins)) ∧ Below w.heap.size w w' := by
  have hmf : ∀ (fn : Fn) (first cap : Array Value) (w : World), (Instr.makeFunc fn first cap).run Tryz.prog w = .ok (.func fn first cap) w := fun _ _ _ _ => rfl
  have hdef : nodeE a false ins = if funcE (isStrict bd) a.text (ps.kids.map ATree.text) bd ≠ 0 then funcE (isStrict bd) a.text (ps.kids.map ATree.text) bd else kidsE bd.kids (isStrict bd) true := by
    obtain ⟨b, v, k, t, n, ks⟩ := a
    simp only [ATree.kind, ATree.kids] at h1 hk
    subst h1
    subst hk
    obtain ⟨b2, v2, k2, t2, n2, ks2⟩ := bd
    rw [nodeE.eq_def]
    rfl
  have HKI := Lib.hid (fun W (h : TreeAt W B a) => hK a W false ins hm (fun k hk => hA.kid hk) hbig h)
  obtain ⟨code, hcode⟩ : ∃ c, c = nodeE a false ins := ⟨_, rfl⟩
  rw [← hcode]
  rw [hdef] at hcode
  have c0 := hT.c0
  have c1 := hT.c1
  rw [h1] at c0
  obtain ⟨tx, htx⟩ : ∃ tx, tx = a.text := ⟨_, rfl⟩
  rw [← htx] at c1
  try rw [← htx] at hcode
  have hb0 : Below w.heap.size w (w.alloc (.cells #[.bool false, .bool ins] 69)) := (Below.refl _ _).alloc (Nat.le_refl _) _
  have hba : Below w.heap.size w ((w.alloc (.cells #[.bool false, .bool ins] 69)).alloc (.cells #[.pointer (some ⟨a.b, 0, none⟩)] 22)) := hb0.alloc hb0.size _
  have c0' : ((w.alloc (.cells #[.bool false, .bool ins] 69)).alloc (.cells #[.pointer (some ⟨a.b, 0, none⟩)] 22)).cell? ⟨a.b, 0, none⟩ = some (.int .i64 37) := (World.cell?_of_block (hba.block a.b hT.lt)).trans c0
  have c1' : ((w.alloc (.cells #[.bool false, .bool ins] 69)).alloc (.cells #[.pointer (some ⟨a.b, 0, none⟩)] 22)).cell? ⟨a.b, 1, none⟩ = some (.string tx) := (World.cell?_of_block (hba.block a.b hT.lt)).trans c1
  have hlt0 : w.heap.size < (w.alloc (.cells #[.bool false, .bool ins] 69)).heap.size := by simp
  have b0' : ((w.alloc (.cells #[.bool false, .bool ins] 69)).alloc (.cells #[.pointer (some ⟨a.b, 0, none⟩)] 22)).cell? ⟨w.heap.size, 0, none⟩ = some (.bool false) := (cell_old (by exact hlt0)).trans (by simp)
  have b1' : ((w.alloc (.cells #[.bool false, .bool ins] 69)).alloc (.cells #[.pointer (some ⟨a.b, 0, none⟩)] 22)).cell? ⟨w.heap.size, 1, none⟩ = some (.bool ins) := (cell_old (by exact hlt0)).trans (by simp)
  have b3' : ((w.alloc (.cells #[.bool false, .bool ins] 69)).alloc (.cells #[.pointer (some ⟨a.b, 0, none⟩)] 22)).cell? ⟨w.heap.size + 1, 0, none⟩ = some (.pointer (some ⟨a.b, 0, none⟩)) := by simp
  obtain ⟨w2, hw2⟩ : ∃ w2, w2 = ((w.alloc (.cells #[.bool false, .bool ins] 69)).alloc (.cells #[.pointer (some ⟨a.b, 0, none⟩)] 22)) := ⟨_, rfl⟩
  have hbw : Below w.heap.size w w2 := by rw [hw2]; exact hba
  have hsz2 : w2.heap.size = w.heap.size + 2 := by rw [hw2]; simp
  have B0 := Lib.hid b0'
  have B1 := Lib.hid b1'
  have B3 := Lib.hid b3'
  rw [← hw2] at B0 B1 B3
  have hall : ∀ W, Below w2.heap.size w2 W → W.cell? ⟨w.heap.size, 0, none⟩ = some (.bool false) ∧ W.cell? ⟨w.heap.size, 1, none⟩ = some (.bool ins) ∧ W.cell? ⟨w.heap.size + 1, 0, none⟩ = some (.pointer (some ⟨a.b, 0, none⟩)) ∧ Below w.heap.size w W ∧ TreeAt W B a ∧ W.cell? ⟨a.b, 0, none⟩ = some (.int .i64 37) ∧ W.cell? ⟨a.b, 1, none⟩ = some (.string tx) := fun W h => by
    have h2 := hbw.trans (h.mono hbw.size)
    exact ⟨(World.cell?_of_block (h.block w.heap.size (by omega))).trans B0.out, (World.cell?_of_block (h.block w.heap.size (by omega))).trans B1.out, (World.cell?_of_block (h.block (w.heap.size + 1) (by omega))).trans B3.out, h2, hT.bel h2, (World.cell?_of_block (h2.block a.b hT.lt)).trans c0, (World.cell?_of_block (h2.block a.b hT.lt)).trans c1⟩
  obtain ⟨q0, q1, q3, _, hT2, s0, s1⟩ := hall w2 (Below.refl _ _)
  have HALL := Lib.hid hall
  have HBW := Lib.hid hbw
  have HT2 := Lib.hid hT2
  have HCODE := Lib.hid hcode
  have HW2 := Lib.hid hw2
  have HT := Lib.hid hT
  have HTX := Lib.hid htx
  have hf := fun W (h : TreeAt W B a) => efunc_false hK a W ins hm hbig h ps bd hk (fun k hk2 => (hA.kid (show bd ∈ a.kids by rw [hk]; simp)).kid hk2)
  rw [← htx, ← hcode] at hf
  have HFN := Lib.hid hf
  clear hf hk
  clear hK hA hT hm hbig hdef hcode c0 c1 hb0 hba hlt0 hall hbw hT2 hw2 htx
  unfold ATree.ptr at HFN ⊢
  go_enter Tryz.func88, Tryz.ntmps88
  go_wp2_with fail
  rw [← HW2.out]
  clear c0' c1' b0' b1' b3'
  refine (HFN.out w2 HT2.out).mono ?_
  rintro e w3 ⟨rfl, hb3⟩
  obtain ⟨_, _, _, hb5, _, _, _⟩ := HALL.out w3 hb3
  have HB5 := Lib.hid hb5
  clear hb3 hb5 q0 q1 q3 s0 s1
  go_wp2
  go_ret
  exact ⟨rfl, HB5.out⟩

set_option maxHeartbeats 8000000 in
theorem enode_k7a {B m : Nat} (hK : EKids B m) (a : ATree) (w : World) (st : Bool) (ins : Bool) (hm : a.many ≤ m + 1) (hA : WA a) (hbig : a.many < 274877906944) (hT : TreeAt w B a) (h1 : a.kind = 7) (x y : ATree) (hk : a.kids = [x, y]) :
    Calls Tryz.prog 88 #[.agg #[.bool st, .bool ins], a.ptr] w fun e w' => e = .returned (.int .i64 (nodeE a st ins)) ∧ Below w.heap.size w w' := by
  have hmf : ∀ (fn : Fn) (first cap : Array Value) (w : World), (Instr.makeFunc fn first cap).run Tryz.prog w = .ok (.func fn first cap) w := fun _ _ _ _ => rfl
  have hdef : nodeE a st ins = if ([y] : List ATree).any (fun x => !aloneF x) then 1 else kidsE a.kids st ins := by
    obtain ⟨b, v, k, t, n, ks⟩ := a
    simp only [ATree.kind, ATree.kids] at h1 hk
    subst h1
    subst hk
    rw [nodeE.eq_def]
    rfl
  have HKI := Lib.hid (fun W (h : TreeAt W B a) => hK a W st ins hm (fun k hk => hA.kid hk) hbig h)
  obtain ⟨code, hcode⟩ : ∃ c, c = nodeE a st ins := ⟨_, rfl⟩
  rw [← hcode]
  rw [hdef] at hcode
  have c0 := hT.c0
  have c1 := hT.c1
  rw [h1] at c0
  obtain ⟨tx, htx⟩ : ∃ tx, tx = a.text := ⟨_, rfl⟩
  rw [← htx] at c1
  try rw [← htx] at hcode
  have hb0 : Below w.heap.size w (w.alloc (.cells #[.bool st, .bool ins] 69)) := (Below.refl _ _).alloc (Nat.le_refl _) _
  have hba : Below w.heap.size w ((w.alloc (.cells #[.bool st, .bool ins] 69)).alloc (.cells #[.pointer (some ⟨a.b, 0, none⟩)] 22)) := hb0.alloc hb0.size _
  have c0' : ((w.alloc (.cells #[.bool st, .bool ins] 69)).alloc (.cells #[.pointer (some ⟨a.b, 0, none⟩)] 22)).cell? ⟨a.b, 0, none⟩ = some (.int .i64 7) := (World.cell?_of_block (hba.block a.b hT.lt)).trans c0
  have c1' : ((w.alloc (.cells #[.bool st, .bool ins] 69)).alloc (.cells #[.pointer (some ⟨a.b, 0, none⟩)] 22)).cell? ⟨a.b, 1, none⟩ = some (.string tx) := (World.cell?_of_block (hba.block a.b hT.lt)).trans c1
  have hlt0 : w.heap.size < (w.alloc (.cells #[.bool st, .bool ins] 69)).heap.size := by simp
  have b0' : ((w.alloc (.cells #[.bool st, .bool ins] 69)).alloc (.cells #[.pointer (some ⟨a.b, 0, none⟩)] 22)).cell? ⟨w.heap.size, 0, none⟩ = some (.bool st) := (cell_old (by exact hlt0)).trans (by simp)
  have b1' : ((w.alloc (.cells #[.bool st, .bool ins] 69)).alloc (.cells #[.pointer (some ⟨a.b, 0, none⟩)] 22)).cell? ⟨w.heap.size, 1, none⟩ = some (.bool ins) := (cell_old (by exact hlt0)).trans (by simp)
  have b3' : ((w.alloc (.cells #[.bool st, .bool ins] 69)).alloc (.cells #[.pointer (some ⟨a.b, 0, none⟩)] 22)).cell? ⟨w.heap.size + 1, 0, none⟩ = some (.pointer (some ⟨a.b, 0, none⟩)) := by simp
  obtain ⟨p, cp, hv, hge, hmx⟩ := hT.vOf
  have hrow := hT.rowOf
  obtain ⟨g, hp⟩ : ∃ g, p = some ⟨g, 0, none⟩ := by
    rcases ownsRow_cases hrow with ⟨_, h2⟩ | ⟨g, cap, h1, _⟩
    · rw [hk] at h2; simp at h2
    · rw [hv] at h1; simp only [Value.slice.injEq] at h1; exact ⟨g, h1.1⟩
  subst hp
  have c3 : w.cell? ⟨a.b, 3, none⟩ = some (.slice (some ⟨g, 0, none⟩) 2 cp) := by have h := hT.c3; rw [hv, hk] at h; exact h
  have hge2 : 2 ≤ cp := by rw [hk] at hge; exact hge
  unfold maxLen at hmx
  have hlg := (World.ownsRow.lt hrow g (by rw [hv]; rfl)).2
  have c3' : ((w.alloc (.cells #[.bool st, .bool ins] 69)).alloc (.cells #[.pointer (some ⟨a.b, 0, none⟩)] 22)).cell? ⟨a.b, 3, none⟩ = some (.slice (some ⟨g, 0, none⟩) 2 cp) := (World.cell?_of_block (hba.block a.b hT.lt)).trans c3
  have k0 := ownsRow_cell1 hrow (g := g) (by rw [hv]; rfl) (i := 0) (x := x.ptr) (by rw [hk]; rfl)
  have k0' : ((w.alloc (.cells #[.bool st, .bool ins] 69)).alloc (.cells #[.pointer (some ⟨a.b, 0, none⟩)] 22)).cell? ⟨g, 0, none⟩ = some x.ptr := (World.cell?_of_block (hba.block g hlg)).trans k0
  have hTx := hT.kid (k := x) (by rw [hk]; simp)
  have k1 := ownsRow_cell1 hrow (g := g) (by rw [hv]; rfl) (i := 1) (x := y.ptr) (by rw [hk]; rfl)
  have k1' : ((w.alloc (.cells #[.bool st, .bool ins] 69)).alloc (.cells #[.pointer (some ⟨a.b, 0, none⟩)] 22)).cell? ⟨g, 1, none⟩ = some y.ptr := (World.cell?_of_block (hba.block g hlg)).trans k1
  have hTy := hT.kid (k := y) (by rw [hk]; simp)
  have hkeep : ∀ W, Below w.heap.size w W → W.cell? ⟨a.b, 3, none⟩ = some (.slice (some ⟨g, 0, none⟩) 2 cp) ∧ W.cell? ⟨g, 0, none⟩ = some (.pointer (some ⟨x.b, 0, none⟩)) ∧ TreeAt W B x ∧ W.cell? ⟨g, 1, none⟩ = some (.pointer (some ⟨y.b, 0, none⟩)) ∧ TreeAt W B y := fun W h => ⟨(World.cell?_of_block (h.block a.b hT.lt)).trans c3, (World.cell?_of_block (h.block g hlg)).trans k0, hTx.bel h, (World.cell?_of_block (h.block g hlg)).trans k1, hTy.bel h⟩
  have HKEEP := Lib.hid hkeep
  obtain ⟨w2, hw2⟩ : ∃ w2, w2 = ((w.alloc (.cells #[.bool st, .bool ins] 69)).alloc (.cells #[.pointer (some ⟨a.b, 0, none⟩)] 22)) := ⟨_, rfl⟩
  have hbw : Below w.heap.size w w2 := by rw [hw2]; exact hba
  have hsz2 : w2.heap.size = w.heap.size + 2 := by rw [hw2]; simp
  have B0 := Lib.hid b0'
  have B1 := Lib.hid b1'
  have B3 := Lib.hid b3'
  rw [← hw2] at B0 B1 B3
  have hall : ∀ W, Below w2.heap.size w2 W → W.cell? ⟨w.heap.size, 0, none⟩ = some (.bool st) ∧ W.cell? ⟨w.heap.size, 1, none⟩ = some (.bool ins) ∧ W.cell? ⟨w.heap.size + 1, 0, none⟩ = some (.pointer (some ⟨a.b, 0, none⟩)) ∧ Below w.heap.size w W ∧ TreeAt W B a ∧ W.cell? ⟨a.b, 0, none⟩ = some (.int .i64 7) ∧ W.cell? ⟨a.b, 1, none⟩ = some (.string tx) := fun W h => by
    have h2 := hbw.trans (h.mono hbw.size)
    exact ⟨(World.cell?_of_block (h.block w.heap.size (by omega))).trans B0.out, (World.cell?_of_block (h.block w.heap.size (by omega))).trans B1.out, (World.cell?_of_block (h.block (w.heap.size + 1) (by omega))).trans B3.out, h2, hT.bel h2, (World.cell?_of_block (h2.block a.b hT.lt)).trans c0, (World.cell?_of_block (h2.block a.b hT.lt)).trans c1⟩
  obtain ⟨q0, q1, q3, _, hT2, s0, s1⟩ := hall w2 (Below.refl _ _)
  have HALL := Lib.hid hall
  have HBW := Lib.hid hbw
  have HT2 := Lib.hid hT2
  have HCODE := Lib.hid hcode
  have HW2 := Lib.hid hw2
  have HT := Lib.hid hT
  have HTX := Lib.hid htx
  clear hK hA hT hm hbig hdef hcode c0 c1 hb0 hba hlt0 hall hbw hT2 hw2 htx
  clear hge hrow hv hk c3 hkeep k0 k1 hTx hTy
  unfold ATree.ptr at HKI k0' k1' ⊢
  go_enter Tryz.func88, Tryz.ntmps88
  go_wp2_with fail
  rw [← HW2.out]
  clear c0' c1' b0' b1' b3' c3' k0' k1'
  obtain ⟨l3, l0, hTx2, l1, hTy2⟩ := HKEEP.out w2 HBW.out
  have hg2 : g < w2.heap.size := Nat.lt_of_lt_of_le hlg HBW.out.size
  have han := any_n2 ATree.ptr (fun x => !aloneF x) (Below w2.heap.size w2) (some ⟨g, 1, none⟩) (cp - 1) [y] w2 (by simp) (by simp; omega)
    (fun i y hy => ⟨g, 1, rfl, fun w1 h => by
    rcases i with _ | i
    · obtain rfl := (Option.some.inj hy).symm
      exact (World.cell?_of_block (h.block g hg2)).trans l1
    · simp at hy⟩)
    (fun u hu w1 h => by
    simp only [List.mem_cons, List.not_mem_nil, or_false] at hu
    rcases hu with hu
    · rw [hu]; exact (node2_any w1 B y (hTy2.bel h)).mono fun e w2 ⟨h1, h2⟩ => ⟨h1, by rw [h2]; exact h⟩
    )
    (Below.refl _ _)
  have HAN := Lib.hid han
  obtain ⟨ag, hag⟩ : ∃ b, b = ([y] : List ATree).any (fun x => !aloneF x) := ⟨_, rfl⟩
  rw [← hag] at HAN HCODE
  simp only [List.length_cons, List.length_nil, Nat.zero_add] at HAN
  clear han hag l0 hTx2 l1 hTy2
  refine HAN.out.mono ?_
  rintro e w5 ⟨rfl, hb9⟩
  obtain ⟨o0, o1, o3, hb8, hT5, _, _⟩ := HALL.out w5 hb9
  have HB8 := Lib.hid hb8
  have HT5 := Lib.hid hT5
  clear hb9 hb8 hT5 HAN q0 q1 q3 s0 s1 l3
  cases ag
  rotate_left
  · go_wp2
    go_ret
    exact ⟨by rw [HCODE.out]; rfl, HB8.out⟩
  go_wp2_with fail
  refine (HKI.out w5 HT5.out).mono ?_
  rintro e w9 ⟨rfl, hb9⟩
  have HB9 := Lib.hid ((HB8.out).trans (hb9.mono (HB8.out).size))
  clear hb9
  go_wp2
  go_ret
  exact ⟨by rw [HCODE.out]; rfl, HB9.out⟩

set_option maxHeartbeats 8000000 in
theorem enode_k7b {B m : Nat} (hK : EKids B m) (a : ATree) (w : World) (st : Bool) (ins : Bool) (hm : a.many ≤ m + 1) (hA : WA a) (hbig : a.many < 274877906944) (hT : TreeAt w B a) (h1 : a.kind = 7) (x y z : ATree) (hk : a.kids = [x, y, z]) :
    Calls Tryz.prog 88 #[.agg #[.bool st, .bool ins], a.ptr] w fun e w' => e = .returned (.int .i64 (nodeE a st ins)) ∧ Below w.heap.size w w' := by
  have hmf : ∀ (fn : Fn) (first cap : Array Value) (w : World), (Instr.makeFunc fn first cap).run Tryz.prog w = .ok (.func fn first cap) w := fun _ _ _ _ => rfl
  have hdef : nodeE a st ins = if ([y, z] : List ATree).any (fun x => !aloneF x) then 1 else kidsE a.kids st ins := by
    obtain ⟨b, v, k, t, n, ks⟩ := a
    simp only [ATree.kind, ATree.kids] at h1 hk
    subst h1
    subst hk
    rw [nodeE.eq_def]
    rfl
  have HKI := Lib.hid (fun W (h : TreeAt W B a) => hK a W st ins hm (fun k hk => hA.kid hk) hbig h)
  obtain ⟨code, hcode⟩ : ∃ c, c = nodeE a st ins := ⟨_, rfl⟩
  rw [← hcode]
  rw [hdef] at hcode
  have c0 := hT.c0
  have c1 := hT.c1
  rw [h1] at c0
  obtain ⟨tx, htx⟩ : ∃ tx, tx = a.text := ⟨_, rfl⟩
  rw [← htx] at c1
  try rw [← htx] at hcode
  have hb0 : Below w.heap.size w (w.alloc (.cells #[.bool st, .bool ins] 69)) := (Below.refl _ _).alloc (Nat.le_refl _) _
  have hba : Below w.heap.size w ((w.alloc (.cells #[.bool st, .bool ins] 69)).alloc (.cells #[.pointer (some ⟨a.b, 0, none⟩)] 22)) := hb0.alloc hb0.size _
  have c0' : ((w.alloc (.cells #[.bool st, .bool ins] 69)).alloc (.cells #[.pointer (some ⟨a.b, 0, none⟩)] 22)).cell? ⟨a.b, 0, none⟩ = some (.int .i64 7) := (World.cell?_of_block (hba.block a.b hT.lt)).trans c0
  have c1' : ((w.alloc (.cells #[.bool st, .bool ins] 69)).alloc (.cells #[.pointer (some ⟨a.b, 0, none⟩)] 22)).cell? ⟨a.b, 1, none⟩ = some (.string tx) := (World.cell?_of_block (hba.block a.b hT.lt)).trans c1
  have hlt0 : w.heap.size < (w.alloc (.cells #[.bool st, .bool ins] 69)).heap.size := by simp
  have b0' : ((w.alloc (.cells #[.bool st, .bool ins] 69)).alloc (.cells #[.pointer (some ⟨a.b, 0, none⟩)] 22)).cell? ⟨w.heap.size, 0, none⟩ = some (.bool st) := (cell_old (by exact hlt0)).trans (by simp)
  have b1' : ((w.alloc (.cells #[.bool st, .bool ins] 69)).alloc (.cells #[.pointer (some ⟨a.b, 0, none⟩)] 22)).cell? ⟨w.heap.size, 1, none⟩ = some (.bool ins) := (cell_old (by exact hlt0)).trans (by simp)
  have b3' : ((w.alloc (.cells #[.bool st, .bool ins] 69)).alloc (.cells #[.pointer (some ⟨a.b, 0, none⟩)] 22)).cell? ⟨w.heap.size + 1, 0, none⟩ = some (.pointer (some ⟨a.b, 0, none⟩)) := by simp
  obtain ⟨p, cp, hv, hge, hmx⟩ := hT.vOf
  have hrow := hT.rowOf
  obtain ⟨g, hp⟩ : ∃ g, p = some ⟨g, 0, none⟩ := by
    rcases ownsRow_cases hrow with ⟨_, h2⟩ | ⟨g, cap, h1, _⟩
    · rw [hk] at h2; simp at h2
    · rw [hv] at h1; simp only [Value.slice.injEq] at h1; exact ⟨g, h1.1⟩
  subst hp
  have c3 : w.cell? ⟨a.b, 3, none⟩ = some (.slice (some ⟨g, 0, none⟩) 3 cp) := by have h := hT.c3; rw [hv, hk] at h; exact h
  have hge2 : 3 ≤ cp := by rw [hk] at hge; exact hge
  unfold maxLen at hmx
  have hlg := (World.ownsRow.lt hrow g (by rw [hv]; rfl)).2
  have c3' : ((w.alloc (.cells #[.bool st, .bool ins] 69)).alloc (.cells #[.pointer (some ⟨a.b, 0, none⟩)] 22)).cell? ⟨a.b, 3, none⟩ = some (.slice (some ⟨g, 0, none⟩) 3 cp) := (World.cell?_of_block (hba.block a.b hT.lt)).trans c3
  have k0 := ownsRow_cell1 hrow (g := g) (by rw [hv]; rfl) (i := 0) (x := x.ptr) (by rw [hk]; rfl)
  have k0' : ((w.alloc (.cells #[.bool st, .bool ins] 69)).alloc (.cells #[.pointer (some ⟨a.b, 0, none⟩)] 22)).cell? ⟨g, 0, none⟩ = some x.ptr := (World.cell?_of_block (hba.block g hlg)).trans k0
  have hTx := hT.kid (k := x) (by rw [hk]; simp)
  have k1 := ownsRow_cell1 hrow (g := g) (by rw [hv]; rfl) (i := 1) (x := y.ptr) (by rw [hk]; rfl)
  have k1' : ((w.alloc (.cells #[.bool st, .bool ins] 69)).alloc (.cells #[.pointer (some ⟨a.b, 0, none⟩)] 22)).cell? ⟨g, 1, none⟩ = some y.ptr := (World.cell?_of_block (hba.block g hlg)).trans k1
  have hTy := hT.kid (k := y) (by rw [hk]; simp)
  have k2 := ownsRow_cell1 hrow (g := g) (by rw [hv]; rfl) (i := 2) (x := z.ptr) (by rw [hk]; rfl)
  have k2' : ((w.alloc (.cells #[.bool st, .bool ins] 69)).alloc (.cells #[.pointer (some ⟨a.b, 0, none⟩)] 22)).cell? ⟨g, 2, none⟩ = some z.ptr := (World.cell?_of_block (hba.block g hlg)).trans k2
  have hTz := hT.kid (k := z) (by rw [hk]; simp)
  have hkeep : ∀ W, Below w.heap.size w W → W.cell? ⟨a.b, 3, none⟩ = some (.slice (some ⟨g, 0, none⟩) 3 cp) ∧ W.cell? ⟨g, 0, none⟩ = some (.pointer (some ⟨x.b, 0, none⟩)) ∧ TreeAt W B x ∧ W.cell? ⟨g, 1, none⟩ = some (.pointer (some ⟨y.b, 0, none⟩)) ∧ TreeAt W B y ∧ W.cell? ⟨g, 2, none⟩ = some (.pointer (some ⟨z.b, 0, none⟩)) ∧ TreeAt W B z := fun W h => ⟨(World.cell?_of_block (h.block a.b hT.lt)).trans c3, (World.cell?_of_block (h.block g hlg)).trans k0, hTx.bel h, (World.cell?_of_block (h.block g hlg)).trans k1, hTy.bel h, (World.cell?_of_block (h.block g hlg)).trans k2, hTz.bel h⟩
  have HKEEP := Lib.hid hkeep
  obtain ⟨w2, hw2⟩ : ∃ w2, w2 = ((w.alloc (.cells #[.bool st, .bool ins] 69)).alloc (.cells #[.pointer (some ⟨a.b, 0, none⟩)] 22)) := ⟨_, rfl⟩
  have hbw : Below w.heap.size w w2 := by rw [hw2]; exact hba
  have hsz2 : w2.heap.size = w.heap.size + 2 := by rw [hw2]; simp
  have B0 := Lib.hid b0'
  have B1 := Lib.hid b1'
  have B3 := Lib.hid b3'
  rw [← hw2] at B0 B1 B3
  have hall : ∀ W, Below w2.heap.size w2 W → W.cell? ⟨w.heap.size, 0, none⟩ = some (.bool st) ∧ W.cell? ⟨w.heap.size, 1, none⟩ = some (.bool ins) ∧ W.cell? ⟨w.heap.size + 1, 0, none⟩ = some (.pointer (some ⟨a.b, 0, none⟩)) ∧ Below w.heap.size w W ∧ TreeAt W B a ∧ W.cell? ⟨a.b, 0, none⟩ = some (.int .i64 7) ∧ W.cell? ⟨a.b, 1, none⟩ = some (.string tx) := fun W h => by
    have h2 := hbw.trans (h.mono hbw.size)
    exact ⟨(World.cell?_of_block (h.block w.heap.size (by omega))).trans B0.out, (World.cell?_of_block (h.block w.heap.size (by omega))).trans B1.out, (World.cell?_of_block (h.block (w.heap.size + 1) (by omega))).trans B3.out, h2, hT.bel h2, (World.cell?_of_block (h2.block a.b hT.lt)).trans c0, (World.cell?_of_block (h2.block a.b hT.lt)).trans c1⟩
  obtain ⟨q0, q1, q3, _, hT2, s0, s1⟩ := hall w2 (Below.refl _ _)
  have HALL := Lib.hid hall
  have HBW := Lib.hid hbw
  have HT2 := Lib.hid hT2
  have HCODE := Lib.hid hcode
  have HW2 := Lib.hid hw2
  have HT := Lib.hid hT
  have HTX := Lib.hid htx
  clear hK hA hT hm hbig hdef hcode c0 c1 hb0 hba hlt0 hall hbw hT2 hw2 htx
  clear hge hrow hv hk c3 hkeep k0 k1 k2 hTx hTy hTz
  unfold ATree.ptr at HKI k0' k1' k2' ⊢
  go_enter Tryz.func88, Tryz.ntmps88
  go_wp2_with fail
  rw [← HW2.out]
  clear c0' c1' b0' b1' b3' c3' k0' k1' k2'
  obtain ⟨l3, l0, hTx2, l1, hTy2, l2, hTz2⟩ := HKEEP.out w2 HBW.out
  have hg2 : g < w2.heap.size := Nat.lt_of_lt_of_le hlg HBW.out.size
  have han := any_n2 ATree.ptr (fun x => !aloneF x) (Below w2.heap.size w2) (some ⟨g, 1, none⟩) (cp - 1) [y, z] w2 (by simp) (by simp; omega)
    (fun i y hy => ⟨g, 1, rfl, fun w1 h => by
    rcases i with _ | _ | i
    · obtain rfl := (Option.some.inj hy).symm
      exact (World.cell?_of_block (h.block g hg2)).trans l1
    · obtain rfl := (Option.some.inj hy).symm
      exact (World.cell?_of_block (h.block g hg2)).trans l2
    · simp at hy⟩)
    (fun u hu w1 h => by
    simp only [List.mem_cons, List.not_mem_nil, or_false] at hu
    rcases hu with hu | hu
    · rw [hu]; exact (node2_any w1 B y (hTy2.bel h)).mono fun e w2 ⟨h1, h2⟩ => ⟨h1, by rw [h2]; exact h⟩
    · rw [hu]; exact (node2_any w1 B z (hTz2.bel h)).mono fun e w2 ⟨h1, h2⟩ => ⟨h1, by rw [h2]; exact h⟩
    )
    (Below.refl _ _)
  have HAN := Lib.hid han
  obtain ⟨ag, hag⟩ : ∃ b, b = ([y, z] : List ATree).any (fun x => !aloneF x) := ⟨_, rfl⟩
  rw [← hag] at HAN HCODE
  simp only [List.length_cons, List.length_nil, Nat.zero_add, Nat.reduceAdd] at HAN
  clear han hag l0 hTx2 l1 hTy2 l2 hTz2
  refine HAN.out.mono ?_
  rintro e w5 ⟨rfl, hb9⟩
  obtain ⟨o0, o1, o3, hb8, hT5, _, _⟩ := HALL.out w5 hb9
  have HB8 := Lib.hid hb8
  have HT5 := Lib.hid hT5
  clear hb9 hb8 hT5 HAN q0 q1 q3 s0 s1 l3
  cases ag
  rotate_left
  · go_wp2
    go_ret
    exact ⟨by rw [HCODE.out]; rfl, HB8.out⟩
  go_wp2_with fail
  refine (HKI.out w5 HT5.out).mono ?_
  rintro e w9 ⟨rfl, hb9⟩
  have HB9 := Lib.hid ((HB8.out).trans (hb9.mono (HB8.out).size))
  clear hb9
  go_wp2
  go_ret
  exact ⟨by rw [HCODE.out]; rfl, HB9.out⟩

set_option maxHeartbeats 8000000 in
theorem enode_k8 {B m : Nat} (hK : EKids B m) (a : ATree) (w : World) (st : Bool) (ins : Bool) (hm : a.many ≤ m + 1) (hA : WA a) (hbig : a.many < 274877906944) (hT : TreeAt w B a) (h1 : a.kind = 8) (x y : ATree) (hk : a.kids = [x, y]) :
    Calls Tryz.prog 88 #[.agg #[.bool st, .bool ins], a.ptr] w fun e w' => e = .returned (.int .i64 (nodeE a st ins)) ∧ Below w.heap.size w w' := by
  have hmf : ∀ (fn : Fn) (first cap : Array Value) (w : World), (Instr.makeFunc fn first cap).run Tryz.prog w = .ok (.func fn first cap) w := fun _ _ _ _ => rfl
  have hdef : nodeE a st ins = if ([y] : List ATree).any (fun x => !aloneF x) then 1 else kidsE a.kids st ins := by
    obtain ⟨b, v, k, t, n, ks⟩ := a
    simp only [ATree.kind, ATree.kids] at h1 hk
    subst h1
    subst hk
    rw [nodeE.eq_def]
    rfl
  have HKI := Lib.hid (fun W (h : TreeAt W B a) => hK a W st ins hm (fun k hk => hA.kid hk) hbig h)
  obtain ⟨code, hcode⟩ : ∃ c, c = nodeE a st ins := ⟨_, rfl⟩
  rw [← hcode]
  rw [hdef] at hcode
  have c0 := hT.c0
  have c1 := hT.c1
  rw [h1] at c0
  obtain ⟨tx, htx⟩ : ∃ tx, tx = a.text := ⟨_, rfl⟩
  rw [← htx] at c1
  try rw [← htx] at hcode
  have hb0 : Below w.heap.size w (w.alloc (.cells #[.bool st, .bool ins] 69)) := (Below.refl _ _).alloc (Nat.le_refl _) _
  have hba : Below w.heap.size w ((w.alloc (.cells #[.bool st, .bool ins] 69)).alloc (.cells #[.pointer (some ⟨a.b, 0, none⟩)] 22)) := hb0.alloc hb0.size _
  have c0' : ((w.alloc (.cells #[.bool st, .bool ins] 69)).alloc (.cells #[.pointer (some ⟨a.b, 0, none⟩)] 22)).cell? ⟨a.b, 0, none⟩ = some (.int .i64 8) := (World.cell?_of_block (hba.block a.b hT.lt)).trans c0
  have c1' : ((w.alloc (.cells #[.bool st, .bool ins] 69)).alloc (.cells #[.pointer (some ⟨a.b, 0, none⟩)] 22)).cell? ⟨a.b, 1, none⟩ = some (.string tx) := (World.cell?_of_block (hba.block a.b hT.lt)).trans c1
  have hlt0 : w.heap.size < (w.alloc (.cells #[.bool st, .bool ins] 69)).heap.size := by simp
  have b0' : ((w.alloc (.cells #[.bool st, .bool ins] 69)).alloc (.cells #[.pointer (some ⟨a.b, 0, none⟩)] 22)).cell? ⟨w.heap.size, 0, none⟩ = some (.bool st) := (cell_old (by exact hlt0)).trans (by simp)
  have b1' : ((w.alloc (.cells #[.bool st, .bool ins] 69)).alloc (.cells #[.pointer (some ⟨a.b, 0, none⟩)] 22)).cell? ⟨w.heap.size, 1, none⟩ = some (.bool ins) := (cell_old (by exact hlt0)).trans (by simp)
  have b3' : ((w.alloc (.cells #[.bool st, .bool ins] 69)).alloc (.cells #[.pointer (some ⟨a.b, 0, none⟩)] 22)).cell? ⟨w.heap.size + 1, 0, none⟩ = some (.pointer (some ⟨a.b, 0, none⟩)) := by simp
  obtain ⟨p, cp, hv, hge, hmx⟩ := hT.vOf
  have hrow := hT.rowOf
  obtain ⟨g, hp⟩ : ∃ g, p = some ⟨g, 0, none⟩ := by
    rcases ownsRow_cases hrow with ⟨_, h2⟩ | ⟨g, cap, h1, _⟩
    · rw [hk] at h2; simp at h2
    · rw [hv] at h1; simp only [Value.slice.injEq] at h1; exact ⟨g, h1.1⟩
  subst hp
  have c3 : w.cell? ⟨a.b, 3, none⟩ = some (.slice (some ⟨g, 0, none⟩) 2 cp) := by have h := hT.c3; rw [hv, hk] at h; exact h
  have hge2 : 2 ≤ cp := by rw [hk] at hge; exact hge
  unfold maxLen at hmx
  have hlg := (World.ownsRow.lt hrow g (by rw [hv]; rfl)).2
  have c3' : ((w.alloc (.cells #[.bool st, .bool ins] 69)).alloc (.cells #[.pointer (some ⟨a.b, 0, none⟩)] 22)).cell? ⟨a.b, 3, none⟩ = some (.slice (some ⟨g, 0, none⟩) 2 cp) := (World.cell?_of_block (hba.block a.b hT.lt)).trans c3
  have k0 := ownsRow_cell1 hrow (g := g) (by rw [hv]; rfl) (i := 0) (x := x.ptr) (by rw [hk]; rfl)
  have k0' : ((w.alloc (.cells #[.bool st, .bool ins] 69)).alloc (.cells #[.pointer (some ⟨a.b, 0, none⟩)] 22)).cell? ⟨g, 0, none⟩ = some x.ptr := (World.cell?_of_block (hba.block g hlg)).trans k0
  have hTx := hT.kid (k := x) (by rw [hk]; simp)
  have k1 := ownsRow_cell1 hrow (g := g) (by rw [hv]; rfl) (i := 1) (x := y.ptr) (by rw [hk]; rfl)
  have k1' : ((w.alloc (.cells #[.bool st, .bool ins] 69)).alloc (.cells #[.pointer (some ⟨a.b, 0, none⟩)] 22)).cell? ⟨g, 1, none⟩ = some y.ptr := (World.cell?_of_block (hba.block g hlg)).trans k1
  have hTy := hT.kid (k := y) (by rw [hk]; simp)
  have hkeep : ∀ W, Below w.heap.size w W → W.cell? ⟨a.b, 3, none⟩ = some (.slice (some ⟨g, 0, none⟩) 2 cp) ∧ W.cell? ⟨g, 0, none⟩ = some (.pointer (some ⟨x.b, 0, none⟩)) ∧ TreeAt W B x ∧ W.cell? ⟨g, 1, none⟩ = some (.pointer (some ⟨y.b, 0, none⟩)) ∧ TreeAt W B y := fun W h => ⟨(World.cell?_of_block (h.block a.b hT.lt)).trans c3, (World.cell?_of_block (h.block g hlg)).trans k0, hTx.bel h, (World.cell?_of_block (h.block g hlg)).trans k1, hTy.bel h⟩
  have HKEEP := Lib.hid hkeep
  obtain ⟨w2, hw2⟩ : ∃ w2, w2 = ((w.alloc (.cells #[.bool st, .bool ins] 69)).alloc (.cells #[.pointer (some ⟨a.b, 0, none⟩)] 22)) := ⟨_, rfl⟩
  have hbw : Below w.heap.size w w2 := by rw [hw2]; exact hba
  have hsz2 : w2.heap.size = w.heap.size + 2 := by rw [hw2]; simp
  have B0 := Lib.hid b0'
  have B1 := Lib.hid b1'
  have B3 := Lib.hid b3'
  rw [← hw2] at B0 B1 B3
  have hall : ∀ W, Below w2.heap.size w2 W → W.cell? ⟨w.heap.size, 0, none⟩ = some (.bool st) ∧ W.cell? ⟨w.heap.size, 1, none⟩ = some (.bool ins) ∧ W.cell? ⟨w.heap.size + 1, 0, none⟩ = some (.pointer (some ⟨a.b, 0, none⟩)) ∧ Below w.heap.size w W ∧ TreeAt W B a ∧ W.cell? ⟨a.b, 0, none⟩ = some (.int .i64 8) ∧ W.cell? ⟨a.b, 1, none⟩ = some (.string tx) := fun W h => by
    have h2 := hbw.trans (h.mono hbw.size)
    exact ⟨(World.cell?_of_block (h.block w.heap.size (by omega))).trans B0.out, (World.cell?_of_block (h.block w.heap.size (by omega))).trans B1.out, (World.cell?_of_block (h.block (w.heap.size + 1) (by omega))).trans B3.out, h2, hT.bel h2, (World.cell?_of_block (h2.block a.b hT.lt)).trans c0, (World.cell?_of_block (h2.block a.b hT.lt)).trans c1⟩
  obtain ⟨q0, q1, q3, _, hT2, s0, s1⟩ := hall w2 (Below.refl _ _)
  have HALL := Lib.hid hall
  have HBW := Lib.hid hbw
  have HT2 := Lib.hid hT2
  have HCODE := Lib.hid hcode
  have HW2 := Lib.hid hw2
  have HT := Lib.hid hT
  have HTX := Lib.hid htx
  clear hK hA hT hm hbig hdef hcode c0 c1 hb0 hba hlt0 hall hbw hT2 hw2 htx
  clear hge hrow hv hk c3 hkeep k0 k1 hTx hTy
  unfold ATree.ptr at HKI k0' k1' ⊢
  go_enter Tryz.func88, Tryz.ntmps88
  go_wp2_with fail
  rw [← HW2.out]
  clear c0' c1' b0' b1' b3' c3' k0' k1'
  obtain ⟨l3, l0, hTx2, l1, hTy2⟩ := HKEEP.out w2 HBW.out
  have hg2 : g < w2.heap.size := Nat.lt_of_lt_of_le hlg HBW.out.size
  have han := any_n2 ATree.ptr (fun x => !aloneF x) (Below w2.heap.size w2) (some ⟨g, 1, none⟩) (cp - 1) [y] w2 (by simp) (by simp; omega)
    (fun i y hy => ⟨g, 1, rfl, fun w1 h => by
    rcases i with _ | i
    · obtain rfl := (Option.some.inj hy).symm
      exact (World.cell?_of_block (h.block g hg2)).trans l1
    · simp at hy⟩)
    (fun u hu w1 h => by
    simp only [List.mem_cons, List.not_mem_nil, or_false] at hu
    rcases hu with hu
    · rw [hu]; exact (node2_any w1 B y (hTy2.bel h)).mono fun e w2 ⟨h1, h2⟩ => ⟨h1, by rw [h2]; exact h⟩
    )
    (Below.refl _ _)
  have HAN := Lib.hid han
  obtain ⟨ag, hag⟩ : ∃ b, b = ([y] : List ATree).any (fun x => !aloneF x) := ⟨_, rfl⟩
  rw [← hag] at HAN HCODE
  simp only [List.length_cons, List.length_nil, Nat.zero_add] at HAN
  clear han hag l0 hTx2 l1 hTy2
  refine HAN.out.mono ?_
  rintro e w5 ⟨rfl, hb9⟩
  obtain ⟨o0, o1, o3, hb8, hT5, _, _⟩ := HALL.out w5 hb9
  have HB8 := Lib.hid hb8
  have HT5 := Lib.hid hT5
  clear hb9 hb8 hT5 HAN q0 q1 q3 s0 s1 l3
  cases ag
  rotate_left
  · go_wp2
    go_ret
    exact ⟨by rw [HCODE.out]; rfl, HB8.out⟩
  go_wp2_with fail
  refine (HKI.out w5 HT5.out).mono ?_
  rintro e w9 ⟨rfl, hb9⟩
  have HB9 := Lib.hid ((HB8.out).trans (hb9.mono (HB8.out).size))
  clear hb9
  go_wp2
  go_ret
  exact ⟨by rw [HCODE.out]; rfl, HB9.out⟩

set_option maxHeartbeats 8000000 in
theorem enode_k9f {B m : Nat} (hK : EKids B m) (a : ATree) (w : World) (ins : Bool) (hm : a.many ≤ m + 1) (hA : WA a) (hbig : a.many < 274877906944) (hT : TreeAt w B a) (h1 : a.kind = 9) (x y : ATree) (hk : a.kids = [x, y]) :
    Calls Tryz.prog 88 #[.agg #[.bool false, .bool ins], a.ptr] w fun e w' => e = .returned (.int .i64 (nodeE a false ins)) ∧ Below w.heap.size w w' := by
  have hmf : ∀ (fn : Fn) (first cap : Array Value) (w : World), (Instr.makeFunc fn first cap).run Tryz.prog w = .ok (.func fn first cap) w := fun _ _ _ _ => rfl
  have hdef : nodeE a false ins = if ([y] : List ATree).any (fun x => !aloneF x) then 1 else kidsE a.kids false ins := by
    obtain ⟨b, v, k, t, n, ks⟩ := a
    simp only [ATree.kind, ATree.kids] at h1 hk
    subst h1
    subst hk
    rw [nodeE.eq_def]
    rfl
  have HKI := Lib.hid (fun W (h : TreeAt W B a) => hK a W false ins hm (fun k hk => hA.kid hk) hbig h)
  obtain ⟨code, hcode⟩ : ∃ c, c = nodeE a false ins := ⟨_, rfl⟩
  rw [← hcode]
  rw [hdef] at hcode
  have c0 := hT.c0
  have c1 := hT.c1
  rw [h1] at c0
  obtain ⟨tx, htx⟩ : ∃ tx, tx = a.text := ⟨_, rfl⟩
  rw [← htx] at c1
  try rw [← htx] at hcode
  have hb0 : Below w.heap.size w (w.alloc (.cells #[.bool false, .bool ins] 69)) := (Below.refl _ _).alloc (Nat.le_refl _) _
  have hba : Below w.heap.size w ((w.alloc (.cells #[.bool false, .bool ins] 69)).alloc (.cells #[.pointer (some ⟨a.b, 0, none⟩)] 22)) := hb0.alloc hb0.size _
  have c0' : ((w.alloc (.cells #[.bool false, .bool ins] 69)).alloc (.cells #[.pointer (some ⟨a.b, 0, none⟩)] 22)).cell? ⟨a.b, 0, none⟩ = some (.int .i64 9) := (World.cell?_of_block (hba.block a.b hT.lt)).trans c0
  have c1' : ((w.alloc (.cells #[.bool false, .bool ins] 69)).alloc (.cells #[.pointer (some ⟨a.b, 0, none⟩)] 22)).cell? ⟨a.b, 1, none⟩ = some (.string tx) := (World.cell?_of_block (hba.block a.b hT.lt)).trans c1
  have hlt0 : w.heap.size < (w.alloc (.cells #[.bool false, .bool ins] 69)).heap.size := by simp
  have b0' : ((w.alloc (.cells #[.bool false, .bool ins] 69)).alloc (.cells #[.pointer (some ⟨a.b, 0, none⟩)] 22)).cell? ⟨w.heap.size, 0, none⟩ = some (.bool false) := (cell_old (by exact hlt0)).trans (by simp)
  have b1' : ((w.alloc (.cells #[.bool false, .bool ins] 69)).alloc (.cells #[.pointer (some ⟨a.b, 0, none⟩)] 22)).cell? ⟨w.heap.size, 1, none⟩ = some (.bool ins) := (cell_old (by exact hlt0)).trans (by simp)
  have b3' : ((w.alloc (.cells #[.bool false, .bool ins] 69)).alloc (.cells #[.pointer (some ⟨a.b, 0, none⟩)] 22)).cell? ⟨w.heap.size + 1, 0, none⟩ = some (.pointer (some ⟨a.b, 0, none⟩)) := by simp
  obtain ⟨p, cp, hv, hge, hmx⟩ := hT.vOf
  have hrow := hT.rowOf
  obtain ⟨g, hp⟩ : ∃ g, p = some ⟨g, 0, none⟩ := by
    rcases ownsRow_cases hrow with ⟨_, h2⟩ | ⟨g, cap, h1, _⟩
    · rw [hk] at h2; simp at h2
    · rw [hv] at h1; simp only [Value.slice.injEq] at h1; exact ⟨g, h1.1⟩
  subst hp
  have c3 : w.cell? ⟨a.b, 3, none⟩ = some (.slice (some ⟨g, 0, none⟩) 2 cp) := by have h := hT.c3; rw [hv, hk] at h; exact h
  have hge2 : 2 ≤ cp := by rw [hk] at hge; exact hge
  unfold maxLen at hmx
  have hlg := (World.ownsRow.lt hrow g (by rw [hv]; rfl)).2
  have c3' : ((w.alloc (.cells #[.bool false, .bool ins] 69)).alloc (.cells #[.pointer (some ⟨a.b, 0, none⟩)] 22)).cell? ⟨a.b, 3, none⟩ = some (.slice (some ⟨g, 0, none⟩) 2 cp) := (World.cell?_of_block (hba.block a.b hT.lt)).trans c3
  have k0 := ownsRow_cell1 hrow (g := g) (by rw [hv]; rfl) (i := 0) (x := x.ptr) (by rw [hk]; rfl)
  have k0' : ((w.alloc (.cells #[.bool false, .bool ins] 69)).alloc (.cells #[.pointer (some ⟨a.b, 0, none⟩)] 22)).cell? ⟨g, 0, none⟩ = some x.ptr := (World.cell?_of_block (hba.block g hlg)).trans k0
  have hTx := hT.kid (k := x) (by rw [hk]; simp)
  have k1 := ownsRow_cell1 hrow (g := g) (by rw [hv]; rfl) (i := 1) (x := y.ptr) (by rw [hk]; rfl)
  have k1' : ((w.alloc (.cells #[.bool false, .bool ins] 69)).alloc (.cells #[.pointer (some ⟨a.b, 0, none⟩)] 22)).cell? ⟨g, 1, none⟩ = some y.ptr := (World.cell?_of_block (hba.block g hlg)).trans k1
  have hTy := hT.kid (k := y) (by rw [hk]; simp)
  have hkeep : ∀ W, Below w.heap.size w W → W.cell? ⟨a.b, 3, none⟩ = some (.slice (some ⟨g, 0, none⟩) 2 cp) ∧ W.cell? ⟨g, 0, none⟩ = some (.pointer (some ⟨x.b, 0, none⟩)) ∧ TreeAt W B x ∧ W.cell? ⟨g, 1, none⟩ = some (.pointer (some ⟨y.b, 0, none⟩)) ∧ TreeAt W B y := fun W h => ⟨(World.cell?_of_block (h.block a.b hT.lt)).trans c3, (World.cell?_of_block (h.block g hlg)).trans k0, hTx.bel h, (World.cell?_of_block (h.block g hlg)).trans k1, hTy.bel h⟩
  have HKEEP := Lib.hid hkeep
  obtain ⟨w2, hw2⟩ : ∃ w2, w2 = ((w.alloc (.cells #[.bool false, .bool ins] 69)).alloc (.cells #[.pointer (some ⟨a.b, 0, none⟩)] 22)) := ⟨_, rfl⟩
  have hbw : Below w.heap.size w w2 := by rw [hw2]; exact hba
  have hsz2 : w2.heap.size = w.heap.size + 2 := by rw [hw2]; simp
  have B0 := Lib.hid b0'
  have B1 := Lib.hid b1'
  have B3 := Lib.hid b3'
  rw [← hw2] at B0 B1 B3
  have hall : ∀ W, Below w2.heap.size w2 W → W.cell? ⟨w.heap.size, 0, none⟩ = some (.bool false) ∧ W.cell? ⟨w.heap.size, 1, none⟩ = some (.bool ins) ∧ W.cell? ⟨w.heap.size + 1, 0, none⟩ = some (.pointer (some ⟨a.b, 0, none⟩)) ∧ Below w.heap.size w W ∧ TreeAt W B a ∧ W.cell? ⟨a.b, 0, none⟩ = some (.int .i64 9) ∧ W.cell? ⟨a.b, 1, none⟩ = some (.string tx) := fun W h => by
    have h2 := hbw.trans (h.mono hbw.size)
    exact ⟨(World.cell?_of_block (h.block w.heap.size (by omega))).trans B0.out, (World.cell?_of_block (h.block w.heap.size (by omega))).trans B1.out, (World.cell?_of_block (h.block (w.heap.size + 1) (by omega))).trans B3.out, h2, hT.bel h2, (World.cell?_of_block (h2.block a.b hT.lt)).trans c0, (World.cell?_of_block (h2.block a.b hT.lt)).trans c1⟩
  obtain ⟨q0, q1, q3, _, hT2, s0, s1⟩ := hall w2 (Below.refl _ _)
  have HALL := Lib.hid hall
  have HBW := Lib.hid hbw
  have HT2 := Lib.hid hT2
  have HCODE := Lib.hid hcode
  have HW2 := Lib.hid hw2
  have HT := Lib.hid hT
  have HTX := Lib.hid htx
  clear hK hA hT hm hbig hdef hcode c0 c1 hb0 hba hlt0 hall hbw hT2 hw2 htx
  clear hge hrow hv hk c3 hkeep k0 k1 hTx hTy
  unfold ATree.ptr at HKI k0' k1' ⊢
  go_enter Tryz.func88, Tryz.ntmps88
  go_wp2_with fail
  rw [← HW2.out]
  clear c0' c1' b0' b1' b3' c3' k0' k1'
  obtain ⟨l3, l0, hTx2, l1, hTy2⟩ := HKEEP.out w2 HBW.out
  have hg2 : g < w2.heap.size := Nat.lt_of_lt_of_le hlg HBW.out.size
  have han := any_n2 ATree.ptr (fun x => !aloneF x) (Below w2.heap.size w2) (some ⟨g, 1, none⟩) (cp - 1) [y] w2 (by simp) (by simp; omega)
    (fun i y hy => ⟨g, 1, rfl, fun w1 h => by
    rcases i with _ | i
    · obtain rfl := (Option.some.inj hy).symm
      exact (World.cell?_of_block (h.block g hg2)).trans l1
    · simp at hy⟩)
    (fun u hu w1 h => by
    simp only [List.mem_cons, List.not_mem_nil, or_false] at hu
    rcases hu with hu
    · rw [hu]; exact (node2_any w1 B y (hTy2.bel h)).mono fun e w2 ⟨h1, h2⟩ => ⟨h1, by rw [h2]; exact h⟩
    )
    (Below.refl _ _)
  have HAN := Lib.hid han
  obtain ⟨ag, hag⟩ : ∃ b, b = ([y] : List ATree).any (fun x => !aloneF x) := ⟨_, rfl⟩
  rw [← hag] at HAN HCODE
  simp only [List.length_cons, List.length_nil, Nat.zero_add] at HAN
  clear han hag l0 hTx2 l1 hTy2
  refine HAN.out.mono ?_
  rintro e w5 ⟨rfl, hb9⟩
  obtain ⟨o0, o1, o3, hb8, hT5, _, _⟩ := HALL.out w5 hb9
  have HB8 := Lib.hid hb8
  have HT5 := Lib.hid hT5
  clear hb9 hb8 hT5 HAN q0 q1 q3 s0 s1 l3
  cases ag
  rotate_left
  · go_wp2
    go_ret
    exact ⟨by rw [HCODE.out]; rfl, HB8.out⟩
  go_wp2_with fail
  refine (HKI.out w5 HT5.out).mono ?_
  rintro e w9 ⟨rfl, hb9⟩
  have HB9 := Lib.hid ((HB8.out).trans (hb9.mono (HB8.out).size))
  clear hb9
  go_wp2
  go_ret
  exact ⟨by rw [HCODE.out]; rfl, HB9.out⟩

set_option maxHeartbeats 8000000 in
theorem enode_k9t {B m : Nat} (hK : EKids B m) (a : ATree) (w : World) (ins : Bool) (hm : a.many ≤ m + 1) (hA : WA a) (hbig : a.many < 274877906944) (hT : TreeAt w B a) (h1 : a.kind = 9) :
    Calls Tryz.prog 88 #[.agg #[.bool true, .bool ins], a.ptr] w fun e w' => e = .returned (.int .i64 (nodeE a true ins)) ∧ Below w.heap.size w w' := by
  have hmf : ∀ (fn : Fn) (first cap : Array Value) (w : World), (Instr.makeFunc fn first cap).run Tryz.prog w = .ok (.func fn first cap) w := fun _ _ _ _ => rfl
  have hdef : nodeE a true ins = 1 := by
    obtain ⟨b, v, k, t, n, ks⟩ := a
    simp only [ATree.kind] at h1
    subst h1
    rw [nodeE.eq_def]
    rfl
  have HKI := Lib.hid (fun W (h : TreeAt W B a) => hK a W true ins hm (fun k hk => hA.kid hk) hbig h)
  obtain ⟨code, hcode⟩ : ∃ c, c = nodeE a true ins := ⟨_, rfl⟩
  rw [← hcode]
  rw [hdef] at hcode
  have c0 := hT.c0
  have c1 := hT.c1
  rw [h1] at c0
  obtain ⟨tx, htx⟩ : ∃ tx, tx = a.text := ⟨_, rfl⟩
  rw [← htx] at c1
  try rw [← htx] at hcode
  have hb0 : Below w.heap.size w (w.alloc (.cells #[.bool true, .bool ins] 69)) := (Below.refl _ _).alloc (Nat.le_refl _) _
  have hba : Below w.heap.size w ((w.alloc (.cells #[.bool true, .bool ins] 69)).alloc (.cells #[.pointer (some ⟨a.b, 0, none⟩)] 22)) := hb0.alloc hb0.size _
  have c0' : ((w.alloc (.cells #[.bool true, .bool ins] 69)).alloc (.cells #[.pointer (some ⟨a.b, 0, none⟩)] 22)).cell? ⟨a.b, 0, none⟩ = some (.int .i64 9) := (World.cell?_of_block (hba.block a.b hT.lt)).trans c0
  have c1' : ((w.alloc (.cells #[.bool true, .bool ins] 69)).alloc (.cells #[.pointer (some ⟨a.b, 0, none⟩)] 22)).cell? ⟨a.b, 1, none⟩ = some (.string tx) := (World.cell?_of_block (hba.block a.b hT.lt)).trans c1
  have hlt0 : w.heap.size < (w.alloc (.cells #[.bool true, .bool ins] 69)).heap.size := by simp
  have b0' : ((w.alloc (.cells #[.bool true, .bool ins] 69)).alloc (.cells #[.pointer (some ⟨a.b, 0, none⟩)] 22)).cell? ⟨w.heap.size, 0, none⟩ = some (.bool true) := (cell_old (by exact hlt0)).trans (by simp)
  have b1' : ((w.alloc (.cells #[.bool true, .bool ins] 69)).alloc (.cells #[.pointer (some ⟨a.b, 0, none⟩)] 22)).cell? ⟨w.heap.size, 1, none⟩ = some (.bool ins) := (cell_old (by exact hlt0)).trans (by simp)
  have b3' : ((w.alloc (.cells #[.bool true, .bool ins] 69)).alloc (.cells #[.pointer (some ⟨a.b, 0, none⟩)] 22)).cell? ⟨w.heap.size + 1, 0, none⟩ = some (.pointer (some ⟨a.b, 0, none⟩)) := by simp
  obtain ⟨w2, hw2⟩ : ∃ w2, w2 = ((w.alloc (.cells #[.bool true, .bool ins] 69)).alloc (.cells #[.pointer (some ⟨a.b, 0, none⟩)] 22)) := ⟨_, rfl⟩
  have hbw : Below w.heap.size w w2 := by rw [hw2]; exact hba
  have hsz2 : w2.heap.size = w.heap.size + 2 := by rw [hw2]; simp
  have B0 := Lib.hid b0'
  have B1 := Lib.hid b1'
  have B3 := Lib.hid b3'
  rw [← hw2] at B0 B1 B3
  have hall : ∀ W, Below w2.heap.size w2 W → W.cell? ⟨w.heap.size, 0, none⟩ = some (.bool true) ∧ W.cell? ⟨w.heap.size, 1, none⟩ = some (.bool ins) ∧ W.cell? ⟨w.heap.size + 1, 0, none⟩ = some (.pointer (some ⟨a.b, 0, none⟩)) ∧ Below w.heap.size w W ∧ TreeAt W B a ∧ W.cell? ⟨a.b, 0, none⟩ = some (.int .i64 9) ∧ W.cell? ⟨a.b, 1, none⟩ = some (.string tx) := fun W h => by
    have h2 := hbw.trans (h.mono hbw.size)
    exact ⟨(World.cell?_of_block (h.block w.heap.size (by omega))).trans B0.out, (World.cell?_of_block (h.block w.heap.size (by omega))).trans B1.out, (World.cell?_of_block (h.block (w.heap.size + 1) (by omega))).trans B3.out, h2, hT.bel h2, (World.cell?_of_block (h2.block a.b hT.lt)).trans c0, (World.cell?_of_block (h2.block a.b hT.lt)).trans c1⟩
  obtain ⟨q0, q1, q3, _, hT2, s0, s1⟩ := hall w2 (Below.refl _ _)
  have HALL := Lib.hid hall
  have HBW := Lib.hid hbw
  have HT2 := Lib.hid hT2
  have HCODE := Lib.hid hcode
  have HW2 := Lib.hid hw2
  have HT := Lib.hid hT
  have HTX := Lib.hid htx
  clear hK hA hT hm hbig hdef hcode c0 c1 hb0 hba hlt0 hall hbw hT2 hw2 htx
  unfold ATree.ptr at HKI ⊢
  go_enter Tryz.func88, Tryz.ntmps88
  go_wp2
  go_ret
  refine ⟨by rw [HCODE.out]; rfl, ?_⟩
  have h := HBW.out
  rw [HW2.out] at h
  exact h

set_option maxHeartbeats 8000000 in
theorem enode_k24 {B m : Nat} (hK : EKids B m) (a : ATree) (w : World) (st : Bool) (ins : Bool) (hm : a.many ≤ m + 1) (hA : WA a) (hbig : a.many < 274877906944) (hT : TreeAt w B a) (h1 : a.kind = 24) (x y : ATree) (hk : a.kids = [x, y]) :
    Calls Tryz.prog 88 #[.agg #[.bool st, .bool ins], a.ptr] w fun e w' => e = .returned (.int .i64 (nodeE a st ins)) ∧ Below w.heap.size w w' := by
  have hmf : ∀ (fn : Fn) (first cap : Array Value) (w : World), (Instr.makeFunc fn first cap).run Tryz.prog w = .ok (.func fn first cap) w := fun _ _ _ _ => rfl
  have hdef : nodeE a st ins = if (x.kind == 23 && bannedF st x.text) then 5 else kidsE a.kids st ins := by
    obtain ⟨b, v, k, t, n, ks⟩ := a
    simp only [ATree.kind, ATree.kids] at h1 hk
    subst h1
    subst hk
    rw [nodeE.eq_def]
    rfl
  have HKI := Lib.hid (fun W (h : TreeAt W B a) => hK a W st ins hm (fun k hk => hA.kid hk) hbig h)
  obtain ⟨code, hcode⟩ : ∃ c, c = nodeE a st ins := ⟨_, rfl⟩
  rw [← hcode]
  rw [hdef] at hcode
  have c0 := hT.c0
  have c1 := hT.c1
  rw [h1] at c0
  obtain ⟨tx, htx⟩ : ∃ tx, tx = a.text := ⟨_, rfl⟩
  rw [← htx] at c1
  try rw [← htx] at hcode
  have hb0 : Below w.heap.size w (w.alloc (.cells #[.bool st, .bool ins] 69)) := (Below.refl _ _).alloc (Nat.le_refl _) _
  have hba : Below w.heap.size w ((w.alloc (.cells #[.bool st, .bool ins] 69)).alloc (.cells #[.pointer (some ⟨a.b, 0, none⟩)] 22)) := hb0.alloc hb0.size _
  have c0' : ((w.alloc (.cells #[.bool st, .bool ins] 69)).alloc (.cells #[.pointer (some ⟨a.b, 0, none⟩)] 22)).cell? ⟨a.b, 0, none⟩ = some (.int .i64 24) := (World.cell?_of_block (hba.block a.b hT.lt)).trans c0
  have c1' : ((w.alloc (.cells #[.bool st, .bool ins] 69)).alloc (.cells #[.pointer (some ⟨a.b, 0, none⟩)] 22)).cell? ⟨a.b, 1, none⟩ = some (.string tx) := (World.cell?_of_block (hba.block a.b hT.lt)).trans c1
  have hlt0 : w.heap.size < (w.alloc (.cells #[.bool st, .bool ins] 69)).heap.size := by simp
  have b0' : ((w.alloc (.cells #[.bool st, .bool ins] 69)).alloc (.cells #[.pointer (some ⟨a.b, 0, none⟩)] 22)).cell? ⟨w.heap.size, 0, none⟩ = some (.bool st) := (cell_old (by exact hlt0)).trans (by simp)
  have b1' : ((w.alloc (.cells #[.bool st, .bool ins] 69)).alloc (.cells #[.pointer (some ⟨a.b, 0, none⟩)] 22)).cell? ⟨w.heap.size, 1, none⟩ = some (.bool ins) := (cell_old (by exact hlt0)).trans (by simp)
  have b3' : ((w.alloc (.cells #[.bool st, .bool ins] 69)).alloc (.cells #[.pointer (some ⟨a.b, 0, none⟩)] 22)).cell? ⟨w.heap.size + 1, 0, none⟩ = some (.pointer (some ⟨a.b, 0, none⟩)) := by simp
  obtain ⟨p, cp, hv, hge, hmx⟩ := hT.vOf
  have hrow := hT.rowOf
  obtain ⟨g, hp⟩ : ∃ g, p = some ⟨g, 0, none⟩ := by
    rcases ownsRow_cases hrow with ⟨_, h2⟩ | ⟨g, cap, h1, _⟩
    · rw [hk] at h2; simp at h2
    · rw [hv] at h1; simp only [Value.slice.injEq] at h1; exact ⟨g, h1.1⟩
  subst hp
  have c3 : w.cell? ⟨a.b, 3, none⟩ = some (.slice (some ⟨g, 0, none⟩) 2 cp) := by have h := hT.c3; rw [hv, hk] at h; exact h
  have hge2 : 2 ≤ cp := by rw [hk] at hge; exact hge
  unfold maxLen at hmx
  have hlg := (World.ownsRow.lt hrow g (by rw [hv]; rfl)).2
  have c3' : ((w.alloc (.cells #[.bool st, .bool ins] 69)).alloc (.cells #[.pointer (some ⟨a.b, 0, none⟩)] 22)).cell? ⟨a.b, 3, none⟩ = some (.slice (some ⟨g, 0, none⟩) 2 cp) := (World.cell?_of_block (hba.block a.b hT.lt)).trans c3
  have k0 := ownsRow_cell1 hrow (g := g) (by rw [hv]; rfl) (i := 0) (x := x.ptr) (by rw [hk]; rfl)
  have k0' : ((w.alloc (.cells #[.bool st, .bool ins] 69)).alloc (.cells #[.pointer (some ⟨a.b, 0, none⟩)] 22)).cell? ⟨g, 0, none⟩ = some x.ptr := (World.cell?_of_block (hba.block g hlg)).trans k0
  have hTx := hT.kid (k := x) (by rw [hk]; simp)
  have k1 := ownsRow_cell1 hrow (g := g) (by rw [hv]; rfl) (i := 1) (x := y.ptr) (by rw [hk]; rfl)
  have k1' : ((w.alloc (.cells #[.bool st, .bool ins] 69)).alloc (.cells #[.pointer (some ⟨a.b, 0, none⟩)] 22)).cell? ⟨g, 1, none⟩ = some y.ptr := (World.cell?_of_block (hba.block g hlg)).trans k1
  have hTy := hT.kid (k := y) (by rw [hk]; simp)
  have hkeep : ∀ W, Below w.heap.size w W → W.cell? ⟨a.b, 3, none⟩ = some (.slice (some ⟨g, 0, none⟩) 2 cp) ∧ W.cell? ⟨g, 0, none⟩ = some (.pointer (some ⟨x.b, 0, none⟩)) ∧ TreeAt W B x ∧ W.cell? ⟨g, 1, none⟩ = some (.pointer (some ⟨y.b, 0, none⟩)) ∧ TreeAt W B y := fun W h => ⟨(World.cell?_of_block (h.block a.b hT.lt)).trans c3, (World.cell?_of_block (h.block g hlg)).trans k0, hTx.bel h, (World.cell?_of_block (h.block g hlg)).trans k1, hTy.bel h⟩
  have HKEEP := Lib.hid hkeep
  obtain ⟨w2, hw2⟩ : ∃ w2, w2 = ((w.alloc (.cells #[.bool st, .bool ins] 69)).alloc (.cells #[.pointer (some ⟨a.b, 0, none⟩)] 22)) := ⟨_, rfl⟩
  have hbw : Below w.heap.size w w2 := by rw [hw2]; exact hba
  have hsz2 : w2.heap.size = w.heap.size + 2 := by rw [hw2]; simp
  have B0 := Lib.hid b0'
  have B1 := Lib.hid b1'
  have B3 := Lib.hid b3'
  rw [← hw2] at B0 B1 B3
  have hall : ∀ W, Below w2.heap.size w2 W → W.cell? ⟨w.heap.size, 0, none⟩ = some (.bool st) ∧ W.cell? ⟨w.heap.size, 1, none⟩ = some (.bool ins) ∧ W.cell? ⟨w.heap.size + 1, 0, none⟩ = some (.pointer (some ⟨a.b, 0, none⟩)) ∧ Below w.heap.size w W ∧ TreeAt W B a ∧ W.cell? ⟨a.b, 0, none⟩ = some (.int .i64 24) ∧ W.cell? ⟨a.b, 1, none⟩ = some (.string tx) := fun W h => by
    have h2 := hbw.trans (h.mono hbw.size)
    exact ⟨(World.cell?_of_block (h.block w.heap.size (by omega))).trans B0.out, (World.cell?_of_block (h.block w.heap.size (by omega))).trans B1.out, (World.cell?_of_block (h.block (w.heap.size + 1) (by omega))).trans B3.out, h2, hT.bel h2, (World.cell?_of_block (h2.block a.b hT.lt)).trans c0, (World.cell?_of_block (h2.block a.b hT.lt)).trans c1⟩
  obtain ⟨q0, q1, q3, _, hT2, s0, s1⟩ := hall w2 (Below.refl _ _)
  have HALL := Lib.hid hall
  have HBW := Lib.hid hbw
  have HT2 := Lib.hid hT2
  have HCODE := Lib.hid hcode
  have HW2 := Lib.hid hw2
  have HT := Lib.hid hT
  have HTX := Lib.hid htx
  clear hK hA hT hm hbig hdef hcode c0 c1 hb0 hba hlt0 hall hbw hT2 hw2 htx
  clear hge hrow hv hk c3 hkeep k0 k1 hTx hTy
  unfold ATree.ptr at HKI k0' k1' ⊢
  go_enter Tryz.func88, Tryz.ntmps88
  go_wp2_with fail
  rw [← HW2.out]
  clear c0' c1' b0' b1' b3' c3' k0' k1'
  obtain ⟨l3, l0, hTx, l1, hTy⟩ := HKEEP.out w2 HBW.out
  have x0 := hTx.c0
  have x1 := hTx.c1
  obtain ⟨ty, hty⟩ : ∃ t, t = x.text := ⟨_, rfl⟩
  obtain ⟨kx, hkx⟩ : ∃ t, t = x.kind := ⟨_, rfl⟩
  rw [← hty] at x1 HCODE
  rw [← hkx] at x0 HCODE
  have HBN := Lib.hid (banned_any w2.drew st ins ty)
  obtain ⟨bf, hbf⟩ : ∃ b, b = bannedF st ty := ⟨_, rfl⟩
  rw [← hbf] at HBN HCODE
  clear hbf hty hkx hTx hTy l0 l1 l3
  by_cases h23 : kx = 23
  · subst h23
    refine wp_region_plan [(true, 0), (true, 1), (true, 2), (true, 3), (true, 4), (true, 5), (true, 6), (true, 7), (true, 8), (true, 9), (true, 10)] [11, 12] (fun W => W.cell? ⟨w.heap.size, 0, none⟩ = some (.bool st) ∧ W.cell? ⟨w.heap.size, 1, none⟩ = some (.bool ins) ∧ W.cell? ⟨x.b, 0, none⟩ = some (.int .i64 23) ∧ W.cell? ⟨x.b, 1, none⟩ = some (.string ty)) (by kernel_rfl) (by kernel_rfl) (fun _ _ d _ _ h => by cases d <;> exact h) ⟨q0, q1, x0, x1⟩ (fun hS0 => ?_)
    simp only [planOps, List.filterMap_cons, List.filterMap_nil, List.getElem?_toArray, List.getElem?_cons_zero, List.getElem?_cons_succ, Option.map_some]
    iterate 11
      first
        | (refine wpPlan_take ?_ (by rfl) (fun w' hS' => ?_) ?_; rotate_left; (obtain ⟨s0, s1, s2, s3⟩ := hS'; go_simp; first | done | with_reducible rfl); simp only [Act.put, List.setIfInBounds_toArray, List.set_cons_zero, List.set_cons_succ])
        | (refine wpPlan_skip (by rfl) ?_; simp only [Act.put, List.setIfInBounds_toArray, List.set_cons_zero, List.set_cons_succ])
    refine wpPlan_end ?_
    go_wp2_with fail
    refine HBN.out.mono ?_
    rintro e w3 ⟨rfl, hb3⟩
    have hb4 : Below w2.heap.size w2 w3 := (Below.refl w2.heap.size w2).drew.trans hb3
    obtain ⟨r0, r1, r3, hb5, hT3, u0, u1⟩ := HALL.out w3 hb4
    have HB5 := Lib.hid hb5
    have HT3 := Lib.hid hT3
    clear hb3 hb4 hb5 hT3 q0 q1 q3 s0 s1
    cases bf
    rotate_left
    · go_wp2
      go_ret
      exact ⟨by rw [HCODE.out]; rfl, HB5.out⟩
    go_wp2_with fail
    refine (HKI.out w3 HT3.out).mono ?_
    rintro e w9 ⟨rfl, hb9⟩
    have HB9 := Lib.hid ((HB5.out).trans (hb9.mono (HB5.out).size))
    clear hb9
    go_wp2
    go_ret
    exact ⟨by rw [HCODE.out]; rfl, HB9.out⟩
  · have n23 : (kx == 23) = false := by simpa using h23
    rw [n23, Bool.false_and] at HCODE
    clear h23
    refine wp_region_plan [(true, 0), (true, 1), (true, 2), (true, 3), (true, 4), (true, 5), (true, 6), (true, 7), (true, 8), (true, 9), (true, 10)] [11, 12] (fun W => W.cell? ⟨w.heap.size, 0, none⟩ = some (.bool st) ∧ W.cell? ⟨w.heap.size, 1, none⟩ = some (.bool ins) ∧ W.cell? ⟨x.b, 0, none⟩ = some (.int .i64 kx) ∧ W.cell? ⟨x.b, 1, none⟩ = some (.string ty)) (by kernel_rfl) (by kernel_rfl) (fun _ _ d _ _ h => by cases d <;> exact h) ⟨q0, q1, x0, x1⟩ (fun hS0 => ?_)
    simp only [planOps, List.filterMap_cons, List.filterMap_nil, List.getElem?_toArray, List.getElem?_cons_zero, List.getElem?_cons_succ, Option.map_some]
    iterate 11
      first
        | (refine wpPlan_take ?_ (by rfl) (fun w' hS' => ?_) ?_; rotate_left; (obtain ⟨s0, s1, s2, s3⟩ := hS'; go_simp; first | done | with_reducible rfl); simp only [Act.put, List.setIfInBounds_toArray, List.set_cons_zero, List.set_cons_succ])
        | (refine wpPlan_skip (by rfl) ?_; simp only [Act.put, List.setIfInBounds_toArray, List.set_cons_zero, List.set_cons_succ])
    refine wpPlan_end ?_
    have q0' : w2.drew.cell? ⟨w.heap.size, 0, none⟩ = some (.bool st) := q0
    have q1' : w2.drew.cell? ⟨w.heap.size, 1, none⟩ = some (.bool ins) := q1
    have q3' : w2.drew.cell? ⟨w.heap.size + 1, 0, none⟩ = some (.pointer (some ⟨a.b, 0, none⟩)) := q3
    have HTD : Hid (TreeAt w2.drew B a) := Lib.hid (HT2.out.keep fun k _ _ => rfl)
    have HBD := Lib.hid HBW.out.drew
    clear q0 q1 q3 s0 s1 x0 x1
    go_wp2_with fail
    refine (HKI.out w2.drew HTD.out).mono ?_
    rintro e w9 ⟨rfl, hb9⟩
    have HB9 := Lib.hid ((HBD.out).trans (hb9.mono (HBD.out).size))
    clear hb9
    go_wp2
    go_ret
    exact ⟨by rw [HCODE.out]; rfl, HB9.out⟩

set_option maxHeartbeats 8000000 in
theorem enode_k34t {B m : Nat} (hK : EKids B m) (a : ATree) (w : World) (ins : Bool) (hm : a.many ≤ m + 1) (hA : WA a) (hbig : a.many < 274877906944) (hT : TreeAt w B a) (h1 : a.kind = 34) (x : ATree) (hk : a.kids = [x]) :
    Calls Tryz.prog 88 #[.agg #[.bool true, .bool ins], a.ptr] w fun e w' => e = .returned (.int .i64 (nodeE a true ins)) ∧ Below w.heap.size w w' := by
  have hmf : ∀ (fn : Fn) (first cap : Array Value) (w : World), (Instr.makeFunc fn first cap).run Tryz.prog w = .ok (.func fn first cap) w := fun _ _ _ _ => rfl
  have hdef : nodeE a true ins = if (x.kind == 23) then 1 else kidsE a.kids true ins := by
    obtain ⟨b, v, k, t, n, ks⟩ := a
    simp only [ATree.kind, ATree.kids] at h1 hk
    subst h1
    subst hk
    rw [nodeE.eq_def]
    rfl
  have HKI := Lib.hid (fun W (h : TreeAt W B a) => hK a W true ins hm (fun k hk => hA.kid hk) hbig h)
  obtain ⟨code, hcode⟩ : ∃ c, c = nodeE a true ins := ⟨_, rfl⟩
  rw [← hcode]
  rw [hdef] at hcode
  have c0 := hT.c0
  have c1 := hT.c1
  rw [h1] at c0
  obtain ⟨tx, htx⟩ : ∃ tx, tx = a.text := ⟨_, rfl⟩
  rw [← htx] at c1
  try rw [← htx] at hcode
  have hb0 : Below w.heap.size w (w.alloc (.cells #[.bool true, .bool ins] 69)) := (Below.refl _ _).alloc (Nat.le_refl _) _
  have hba : Below w.heap.size w ((w.alloc (.cells #[.bool true, .bool ins] 69)).alloc (.cells #[.pointer (some ⟨a.b, 0, none⟩)] 22)) := hb0.alloc hb0.size _
  have c0' : ((w.alloc (.cells #[.bool true, .bool ins] 69)).alloc (.cells #[.pointer (some ⟨a.b, 0, none⟩)] 22)).cell? ⟨a.b, 0, none⟩ = some (.int .i64 34) := (World.cell?_of_block (hba.block a.b hT.lt)).trans c0
  have c1' : ((w.alloc (.cells #[.bool true, .bool ins] 69)).alloc (.cells #[.pointer (some ⟨a.b, 0, none⟩)] 22)).cell? ⟨a.b, 1, none⟩ = some (.string tx) := (World.cell?_of_block (hba.block a.b hT.lt)).trans c1
  have hlt0 : w.heap.size < (w.alloc (.cells #[.bool true, .bool ins] 69)).heap.size := by simp
  have b0' : ((w.alloc (.cells #[.bool true, .bool ins] 69)).alloc (.cells #[.pointer (some ⟨a.b, 0, none⟩)] 22)).cell? ⟨w.heap.size, 0, none⟩ = some (.bool true) := (cell_old (by exact hlt0)).trans (by simp)
  have b1' : ((w.alloc (.cells #[.bool true, .bool ins] 69)).alloc (.cells #[.pointer (some ⟨a.b, 0, none⟩)] 22)).cell? ⟨w.heap.size, 1, none⟩ = some (.bool ins) := (cell_old (by exact hlt0)).trans (by simp)
  have b3' : ((w.alloc (.cells #[.bool true, .bool ins] 69)).alloc (.cells #[.pointer (some ⟨a.b, 0, none⟩)] 22)).cell? ⟨w.heap.size + 1, 0, none⟩ = some (.pointer (some ⟨a.b, 0, none⟩)) := by simp
  obtain ⟨p, cp, hv, hge, hmx⟩ := hT.vOf
  have hrow := hT.rowOf
  obtain ⟨g, hp⟩ : ∃ g, p = some ⟨g, 0, none⟩ := by
    rcases ownsRow_cases hrow with ⟨_, h2⟩ | ⟨g, cap, h1, _⟩
    · rw [hk] at h2; simp at h2
    · rw [hv] at h1; simp only [Value.slice.injEq] at h1; exact ⟨g, h1.1⟩
  subst hp
  have c3 : w.cell? ⟨a.b, 3, none⟩ = some (.slice (some ⟨g, 0, none⟩) 1 cp) := by have h := hT.c3; rw [hv, hk] at h; exact h
  have hge2 : 1 ≤ cp := by rw [hk] at hge; exact hge
  unfold maxLen at hmx
  have hlg := (World.ownsRow.lt hrow g (by rw [hv]; rfl)).2
  have c3' : ((w.alloc (.cells #[.bool true, .bool ins] 69)).alloc (.cells #[.pointer (some ⟨a.b, 0, none⟩)] 22)).cell? ⟨a.b, 3, none⟩ = some (.slice (some ⟨g, 0, none⟩) 1 cp) := (World.cell?_of_block (hba.block a.b hT.lt)).trans c3
  have k0 := ownsRow_cell1 hrow (g := g) (by rw [hv]; rfl) (i := 0) (x := x.ptr) (by rw [hk]; rfl)
  have k0' : ((w.alloc (.cells #[.bool true, .bool ins] 69)).alloc (.cells #[.pointer (some ⟨a.b, 0, none⟩)] 22)).cell? ⟨g, 0, none⟩ = some x.ptr := (World.cell?_of_block (hba.block g hlg)).trans k0
  have hTx := hT.kid (k := x) (by rw [hk]; simp)
  have hkeep : ∀ W, Below w.heap.size w W → W.cell? ⟨a.b, 3, none⟩ = some (.slice (some ⟨g, 0, none⟩) 1 cp) ∧ W.cell? ⟨g, 0, none⟩ = some (.pointer (some ⟨x.b, 0, none⟩)) ∧ TreeAt W B x := fun W h => ⟨(World.cell?_of_block (h.block a.b hT.lt)).trans c3, (World.cell?_of_block (h.block g hlg)).trans k0, hTx.bel h⟩
  have HKEEP := Lib.hid hkeep
  obtain ⟨w2, hw2⟩ : ∃ w2, w2 = ((w.alloc (.cells #[.bool true, .bool ins] 69)).alloc (.cells #[.pointer (some ⟨a.b, 0, none⟩)] 22)) := ⟨_, rfl⟩
  have hbw : Below w.heap.size w w2 := by rw [hw2]; exact hba
  have hsz2 : w2.heap.size = w.heap.size + 2 := by rw [hw2]; simp
  have B0 := Lib.hid b0'
  have B1 := Lib.hid b1'
  have B3 := Lib.hid b3'
  rw [← hw2] at B0 B1 B3
  have hall : ∀ W, Below w2.heap.size w2 W → W.cell? ⟨w.heap.size, 0, none⟩ = some (.bool true) ∧ W.cell? ⟨w.heap.size, 1, none⟩ = some (.bool ins) ∧ W.cell? ⟨w.heap.size + 1, 0, none⟩ = some (.pointer (some ⟨a.b, 0, none⟩)) ∧ Below w.heap.size w W ∧ TreeAt W B a ∧ W.cell? ⟨a.b, 0, none⟩ = some (.int .i64 34) ∧ W.cell? ⟨a.b, 1, none⟩ = some (.string tx) := fun W h => by
    have h2 := hbw.trans (h.mono hbw.size)
    exact ⟨(World.cell?_of_block (h.block w.heap.size (by omega))).trans B0.out, (World.cell?_of_block (h.block w.heap.size (by omega))).trans B1.out, (World.cell?_of_block (h.block (w.heap.size + 1) (by omega))).trans B3.out, h2, hT.bel h2, (World.cell?_of_block (h2.block a.b hT.lt)).trans c0, (World.cell?_of_block (h2.block a.b hT.lt)).trans c1⟩
  obtain ⟨q0, q1, q3, _, hT2, s0, s1⟩ := hall w2 (Below.refl _ _)
  have HALL := Lib.hid hall
  have HBW := Lib.hid hbw
  have HT2 := Lib.hid hT2
  have HCODE := Lib.hid hcode
  have HW2 := Lib.hid hw2
  have HT := Lib.hid hT
  have HTX := Lib.hid htx
  have x0' := (World.cell?_of_block (hba.block x.b hTx.lt)).trans hTx.c0
  obtain ⟨kx, hkx⟩ : ∃ t, t = x.kind := ⟨_, rfl⟩
  rw [← hkx] at x0' hcode
  have HCODE := Lib.hid hcode
  clear hkx
  clear hK hA hT hm hbig hdef hcode c0 c1 hb0 hba hlt0 hall hbw hT2 hw2 htx
  clear hge hrow hv hk c3 hkeep k0 hTx
  unfold ATree.ptr at HKI k0' ⊢
  by_cases h23 : kx = 23
  · subst h23
    go_enter Tryz.func88, Tryz.ntmps88
    go_wp2
    go_ret
    refine ⟨by rw [HCODE.out]; rfl, ?_⟩
    have h := HBW.out
    rw [HW2.out] at h
    exact h
  · have n23 : (kx == 23) = false := by simpa using h23
    rw [n23] at HCODE
    clear h23
    go_enter Tryz.func88, Tryz.ntmps88
    go_wp2_with fail
    rw [← HW2.out]
    clear c0' c1' b0' b1' b3' c3' k0' x0'
    refine (HKI.out w2 HT2.out).mono ?_
    rintro e w9 ⟨rfl, hb9⟩
    have HB9 := Lib.hid ((HBW.out).trans (hb9.mono (HBW.out).size))
    clear hb9
    go_wp2
    go_ret
    exact ⟨by rw [HCODE.out]; rfl, HB9.out⟩

set_option maxHeartbeats 8000000 in
theorem enode_k34f {B m : Nat} (hK : EKids B m) (a : ATree) (w : World) (ins : Bool) (hm : a.many ≤ m + 1) (hA : WA a) (hbig : a.many < 274877906944) (hT : TreeAt w B a) (h1 : a.kind = 34) (x : ATree) (hk : a.kids = [x]) :
    Calls Tryz.prog 88 #[.agg #[.bool false, .bool ins], a.ptr] w fun e w' => e = .returned (.int .i64 (nodeE a false ins)) ∧ Below w.heap.size w w' := by
  have hmf : ∀ (fn : Fn) (first cap : Array Value) (w : World), (Instr.makeFunc fn first cap).run Tryz.prog w = .ok (.func fn first cap) w := fun _ _ _ _ => rfl
  have hdef : nodeE a false ins = kidsE a.kids false ins := by
    obtain ⟨b, v, k, t, n, ks⟩ := a
    simp only [ATree.kind, ATree.kids] at h1 hk
    subst h1
    subst hk
    rw [nodeE.eq_def]
    rfl
  have HKI := Lib.hid (fun W (h : TreeAt W B a) => hK a W false ins hm (fun k hk => hA.kid hk) hbig h)
  obtain ⟨code, hcode⟩ : ∃ c, c = nodeE a false ins := ⟨_, rfl⟩
  rw [← hcode]
  rw [hdef] at hcode
  have c0 := hT.c0
  have c1 := hT.c1
  rw [h1] at c0
  obtain ⟨tx, htx⟩ : ∃ tx, tx = a.text := ⟨_, rfl⟩
  rw [← htx] at c1
  try rw [← htx] at hcode
  have hb0 : Below w.heap.size w (w.alloc (.cells #[.bool false, .bool ins] 69)) := (Below.refl _ _).alloc (Nat.le_refl _) _
  have hba : Below w.heap.size w ((w.alloc (.cells #[.bool false, .bool ins] 69)).alloc (.cells #[.pointer (some ⟨a.b, 0, none⟩)] 22)) := hb0.alloc hb0.size _
  have c0' : ((w.alloc (.cells #[.bool false, .bool ins] 69)).alloc (.cells #[.pointer (some ⟨a.b, 0, none⟩)] 22)).cell? ⟨a.b, 0, none⟩ = some (.int .i64 34) := (World.cell?_of_block (hba.block a.b hT.lt)).trans c0
  have c1' : ((w.alloc (.cells #[.bool false, .bool ins] 69)).alloc (.cells #[.pointer (some ⟨a.b, 0, none⟩)] 22)).cell? ⟨a.b, 1, none⟩ = some (.string tx) := (World.cell?_of_block (hba.block a.b hT.lt)).trans c1
  have hlt0 : w.heap.size < (w.alloc (.cells #[.bool false, .bool ins] 69)).heap.size := by simp
  have b0' : ((w.alloc (.cells #[.bool false, .bool ins] 69)).alloc (.cells #[.pointer (some ⟨a.b, 0, none⟩)] 22)).cell? ⟨w.heap.size, 0, none⟩ = some (.bool false) := (cell_old (by exact hlt0)).trans (by simp)
  have b1' : ((w.alloc (.cells #[.bool false, .bool ins] 69)).alloc (.cells #[.pointer (some ⟨a.b, 0, none⟩)] 22)).cell? ⟨w.heap.size, 1, none⟩ = some (.bool ins) := (cell_old (by exact hlt0)).trans (by simp)
  have b3' : ((w.alloc (.cells #[.bool false, .bool ins] 69)).alloc (.cells #[.pointer (some ⟨a.b, 0, none⟩)] 22)).cell? ⟨w.heap.size + 1, 0, none⟩ = some (.pointer (some ⟨a.b, 0, none⟩)) := by simp
  obtain ⟨w2, hw2⟩ : ∃ w2, w2 = ((w.alloc (.cells #[.bool false, .bool ins] 69)).alloc (.cells #[.pointer (some ⟨a.b, 0, none⟩)] 22)) := ⟨_, rfl⟩
  have hbw : Below w.heap.size w w2 := by rw [hw2]; exact hba
  have hsz2 : w2.heap.size = w.heap.size + 2 := by rw [hw2]; simp
  have B0 := Lib.hid b0'
  have B1 := Lib.hid b1'
  have B3 := Lib.hid b3'
  rw [← hw2] at B0 B1 B3
  have hall : ∀ W, Below w2.heap.size w2 W → W.cell? ⟨w.heap.size, 0, none⟩ = some (.bool false) ∧ W.cell? ⟨w.heap.size, 1, none⟩ = some (.bool ins) ∧ W.cell? ⟨w.heap.size + 1, 0, none⟩ = some (.pointer (some ⟨a.b, 0, none⟩)) ∧ Below w.heap.size w W ∧ TreeAt W B a ∧ W.cell? ⟨a.b, 0, none⟩ = some (.int .i64 34) ∧ W.cell? ⟨a.b, 1, none⟩ = some (.string tx) := fun W h => by
    have h2 := hbw.trans (h.mono hbw.size)
    exact ⟨(World.cell?_of_block (h.block w.heap.size (by omega))).trans B0.out, (World.cell?_of_block (h.block w.heap.size (by omega))).trans B1.out, (World.cell?_of_block (h.block (w.heap.size + 1) (by omega))).trans B3.out, h2, hT.bel h2, (World.cell?_of_block (h2.block a.b hT.lt)).trans c0, (World.cell?_of_block (h2.block a.b hT.lt)).trans c1⟩
  obtain ⟨q0, q1, q3, _, hT2, s0, s1⟩ := hall w2 (Below.refl _ _)
  have HALL := Lib.hid hall
  have HBW := Lib.hid hbw
  have HT2 := Lib.hid hT2
  have HCODE := Lib.hid hcode
  have HW2 := Lib.hid hw2
  have HT := Lib.hid hT
  have HTX := Lib.hid htx
  clear hK hA hT hm hbig hdef hcode c0 c1 hb0 hba hlt0 hall hbw hT2 hw2 htx
  clear hk
  unfold ATree.ptr at HKI ⊢
  go_enter Tryz.func88, Tryz.ntmps88
  go_wp2_with fail
  rw [← HW2.out]
  clear c0' c1' b0' b1' b3'
  refine (HKI.out w2 HT2.out).mono ?_
  rintro e w9 ⟨rfl, hb9⟩
  have HB9 := Lib.hid ((HBW.out).trans (hb9.mono (HBW.out).size))
  clear hb9
  go_wp2
  go_ret
  exact ⟨by rw [HCODE.out]; rfl, HB9.out⟩

set_option maxHeartbeats 8000000 in
theorem enode_k6 {B m : Nat} (hK : EKids B m) (a : ATree) (w : World) (st : Bool) (ins : Bool) (hm : a.many ≤ m + 1) (hA : WA a) (hbig : a.many < 274877906944) (hT : TreeAt w B a) (h1 : a.kind = 6) :
    Calls Tryz.prog 88 #[.agg #[.bool st, .bool ins], a.ptr] w fun e w' => e = .returned (.int .i64 (nodeE a st ins)) ∧ Below w.heap.size w w' := by
  have hmf : ∀ (fn : Fn) (first cap : Array Value) (w : World), (Instr.makeFunc fn first cap).run Tryz.prog w = .ok (.func fn first cap) w := fun _ _ _ _ => rfl
  have hdef : nodeE a st ins = if scopeF a false then 9 else kidsE a.kids st ins := by
    obtain ⟨b, v, k, t, n, ks⟩ := a
    simp only [ATree.kind] at h1
    subst h1
    rw [nodeE.eq_def]
    rfl
  have HKI := Lib.hid (fun W (h : TreeAt W B a) => hK a W st ins hm (fun k hk => hA.kid hk) hbig h)
  obtain ⟨code, hcode⟩ : ∃ c, c = nodeE a st ins := ⟨_, rfl⟩
  rw [← hcode]
  rw [hdef] at hcode
  have c0 := hT.c0
  have c1 := hT.c1
  rw [h1] at c0
  obtain ⟨tx, htx⟩ : ∃ tx, tx = a.text := ⟨_, rfl⟩
  rw [← htx] at c1
  try rw [← htx] at hcode
  have hb0 : Below w.heap.size w (w.alloc (.cells #[.bool st, .bool ins] 69)) := (Below.refl _ _).alloc (Nat.le_refl _) _
  have hba : Below w.heap.size w ((w.alloc (.cells #[.bool st, .bool ins] 69)).alloc (.cells #[.pointer (some ⟨a.b, 0, none⟩)] 22)) := hb0.alloc hb0.size _
  have c0' : ((w.alloc (.cells #[.bool st, .bool ins] 69)).alloc (.cells #[.pointer (some ⟨a.b, 0, none⟩)] 22)).cell? ⟨a.b, 0, none⟩ = some (.int .i64 6) := (World.cell?_of_block (hba.block a.b hT.lt)).trans c0
  have c1' : ((w.alloc (.cells #[.bool st, .bool ins] 69)).alloc (.cells #[.pointer (some ⟨a.b, 0, none⟩)] 22)).cell? ⟨a.b, 1, none⟩ = some (.string tx) := (World.cell?_of_block (hba.block a.b hT.lt)).trans c1
  have hlt0 : w.heap.size < (w.alloc (.cells #[.bool st, .bool ins] 69)).heap.size := by simp
  have b0' : ((w.alloc (.cells #[.bool st, .bool ins] 69)).alloc (.cells #[.pointer (some ⟨a.b, 0, none⟩)] 22)).cell? ⟨w.heap.size, 0, none⟩ = some (.bool st) := (cell_old (by exact hlt0)).trans (by simp)
  have b1' : ((w.alloc (.cells #[.bool st, .bool ins] 69)).alloc (.cells #[.pointer (some ⟨a.b, 0, none⟩)] 22)).cell? ⟨w.heap.size, 1, none⟩ = some (.bool ins) := (cell_old (by exact hlt0)).trans (by simp)
  have b3' : ((w.alloc (.cells #[.bool st, .bool ins] 69)).alloc (.cells #[.pointer (some ⟨a.b, 0, none⟩)] 22)).cell? ⟨w.heap.size + 1, 0, none⟩ = some (.pointer (some ⟨a.b, 0, none⟩)) := by simp
  obtain ⟨w2, hw2⟩ : ∃ w2, w2 = ((w.alloc (.cells #[.bool st, .bool ins] 69)).alloc (.cells #[.pointer (some ⟨a.b, 0, none⟩)] 22)) := ⟨_, rfl⟩
  have hbw : Below w.heap.size w w2 := by rw [hw2]; exact hba
  have hsz2 : w2.heap.size = w.heap.size + 2 := by rw [hw2]; simp
  have B0 := Lib.hid b0'
  have B1 := Lib.hid b1'
  have B3 := Lib.hid b3'
  rw [← hw2] at B0 B1 B3
  have hall : ∀ W, Below w2.heap.size w2 W → W.cell? ⟨w.heap.size, 0, none⟩ = some (.bool st) ∧ W.cell? ⟨w.heap.size, 1, none⟩ = some (.bool ins) ∧ W.cell? ⟨w.heap.size + 1, 0, none⟩ = some (.pointer (some ⟨a.b, 0, none⟩)) ∧ Below w.heap.size w W ∧ TreeAt W B a ∧ W.cell? ⟨a.b, 0, none⟩ = some (.int .i64 6) ∧ W.cell? ⟨a.b, 1, none⟩ = some (.string tx) := fun W h => by
    have h2 := hbw.trans (h.mono hbw.size)
    exact ⟨(World.cell?_of_block (h.block w.heap.size (by omega))).trans B0.out, (World.cell?_of_block (h.block w.heap.size (by omega))).trans B1.out, (World.cell?_of_block (h.block (w.heap.size + 1) (by omega))).trans B3.out, h2, hT.bel h2, (World.cell?_of_block (h2.block a.b hT.lt)).trans c0, (World.cell?_of_block (h2.block a.b hT.lt)).trans c1⟩
  obtain ⟨q0, q1, q3, _, hT2, s0, s1⟩ := hall w2 (Below.refl _ _)
  have HALL := Lib.hid hall
  have HBW := Lib.hid hbw
  have HT2 := Lib.hid hT2
  have HCODE := Lib.hid hcode
  have HW2 := Lib.hid hw2
  have HT := Lib.hid hT
  have HTX := Lib.hid htx
  have HSC := Lib.hid (fun W (h : TreeAt W B a) => scope_any W B a st ins false h hbig)
  clear hK hA hT hm hbig hdef hcode c0 c1 hb0 hba hlt0 hall hbw hT2 hw2 htx
  obtain ⟨SB, hSB⟩ : ∃ r, r = scopeF a false := ⟨_, rfl⟩
  rw [← hSB] at HSC HCODE
  clear hSB
  unfold ATree.ptr at HSC HKI ⊢
  go_enter Tryz.func88, Tryz.ntmps88
  go_wp2_with fail
  rw [← HW2.out]
  clear c0' c1' b0' b1' b3'
  refine (HSC.out w2 HT2.out).mono ?_
  rintro e w3 ⟨rfl, hb3⟩
  obtain ⟨r0, r1, r3, hb5, hT3, u0, u1⟩ := HALL.out w3 hb3
  have HB5 := Lib.hid hb5
  have HT3 := Lib.hid hT3
  clear hb3 hb5 hT3 q0 q1 q3 s0 s1
  cases SB
  rotate_left
  · simp only [if_true]
    go_wp2
    go_ret
    exact ⟨by rw [HCODE.out]; rfl, HB5.out⟩
  simp only [Bool.false_eq_true, if_false]
  go_wp2_with fail
  refine (HKI.out w3 HT3.out).mono ?_
  rintro e w9 ⟨rfl, hb9⟩
  have HB9 := Lib.hid ((HB5.out).trans (hb9.mono (HB5.out).size))
  clear hb9
  go_wp2
  go_ret
  exact ⟨by rw [HCODE.out]; rfl, HB9.out⟩

set_option maxHeartbeats 8000000 in
theorem enode_k10t {B m : Nat} (hK : EKids B m) (a : ATree) (w : World) (st : Bool) (hm : a.many ≤ m + 1) (hA : WA a) (hbig : a.many < 274877906944) (hT : TreeAt w B a) (h1 : a.kind = 10) :
    Calls Tryz.prog 88 #[.agg #[.bool st, .bool true], a.ptr] w fun e w' => e = .returned (.int .i64 (nodeE a st true)) ∧ Below w.heap.size w w' := by
  have hmf : ∀ (fn : Fn) (first cap : Array Value) (w : World), (Instr.makeFunc fn first cap).run Tryz.prog w = .ok (.func fn first cap) w := fun _ _ _ _ => rfl
  have hdef : nodeE a st true = kidsE a.kids st true := by
    obtain ⟨b, v, k, t, n, ks⟩ := a
    simp only [ATree.kind] at h1
    subst h1
    rw [nodeE.eq_def]
    rfl
  have HKI := Lib.hid (fun W (h : TreeAt W B a) => hK a W st true hm (fun k hk => hA.kid hk) hbig h)
  obtain ⟨code, hcode⟩ : ∃ c, c = nodeE a st true := ⟨_, rfl⟩
  rw [← hcode]
  rw [hdef] at hcode
  have c0 := hT.c0
  have c1 := hT.c1
  rw [h1] at c0
  obtain ⟨tx, htx⟩ : ∃ tx, tx = a.text := ⟨_, rfl⟩
  rw [← htx] at c1
  try rw [← htx] at hcode
  have hb0 : Below w.heap.size w (w.alloc (.cells #[.bool st, .bool true] 69)) := (Below.refl _ _).alloc (Nat.le_refl _) _
  have hba : Below w.heap.size w ((w.alloc (.cells #[.bool st, .bool true] 69)).alloc (.cells #[.pointer (some ⟨a.b, 0, none⟩)] 22)) := hb0.alloc hb0.size _
  have c0' : ((w.alloc (.cells #[.bool st, .bool true] 69)).alloc (.cells #[.pointer (some ⟨a.b, 0, none⟩)] 22)).cell? ⟨a.b, 0, none⟩ = some (.int .i64 10) := (World.cell?_of_block (hba.block a.b hT.lt)).trans c0
  have c1' : ((w.alloc (.cells #[.bool st, .bool true] 69)).alloc (.cells #[.pointer (some ⟨a.b, 0, none⟩)] 22)).cell? ⟨a.b, 1, none⟩ = some (.string tx) := (World.cell?_of_block (hba.block a.b hT.lt)).trans c1
  have hlt0 : w.heap.size < (w.alloc (.cells #[.bool st, .bool true] 69)).heap.size := by simp
  have b0' : ((w.alloc (.cells #[.bool st, .bool true] 69)).alloc (.cells #[.pointer (some ⟨a.b, 0, none⟩)] 22)).cell? ⟨w.heap.size, 0, none⟩ = some (.bool st) := (cell_old (by exact hlt0)).trans (by simp)
  have b1' : ((w.alloc (.cells #[.bool st, .bool true] 69)).alloc (.cells #[.pointer (some ⟨a.b, 0, none⟩)] 22)).cell? ⟨w.heap.size, 1, none⟩ = some (.bool true) := (cell_old (by exact hlt0)).trans (by simp)
  have b3' : ((w.alloc (.cells #[.bool st, .bool true] 69)).alloc (.cells #[.pointer (some ⟨a.b, 0, none⟩)] 22)).cell? ⟨w.heap.size + 1, 0, none⟩ = some (.pointer (some ⟨a.b, 0, none⟩)) := by simp
  obtain ⟨w2, hw2⟩ : ∃ w2, w2 = ((w.alloc (.cells #[.bool st, .bool true] 69)).alloc (.cells #[.pointer (some ⟨a.b, 0, none⟩)] 22)) := ⟨_, rfl⟩
  have hbw : Below w.heap.size w w2 := by rw [hw2]; exact hba
  have hsz2 : w2.heap.size = w.heap.size + 2 := by rw [hw2]; simp
  have B0 := Lib.hid b0'
  have B1 := Lib.hid b1'
  have B3 := Lib.hid b3'
  rw [← hw2] at B0 B1 B3
  have hall : ∀ W, Below w2.heap.size w2 W → W.cell? ⟨w.heap.size, 0, none⟩ = some (.bool st) ∧ W.cell? ⟨w.heap.size, 1, none⟩ = some (.bool true) ∧ W.cell? ⟨w.heap.size + 1, 0, none⟩ = some (.pointer (some ⟨a.b, 0, none⟩)) ∧ Below w.heap.size w W ∧ TreeAt W B a ∧ W.cell? ⟨a.b, 0, none⟩ = some (.int .i64 10) ∧ W.cell? ⟨a.b, 1, none⟩ = some (.string tx) := fun W h => by
    have h2 := hbw.trans (h.mono hbw.size)
    exact ⟨(World.cell?_of_block (h.block w.heap.size (by omega))).trans B0.out, (World.cell?_of_block (h.block w.heap.size (by omega))).trans B1.out, (World.cell?_of_block (h.block (w.heap.size + 1) (by omega))).trans B3.out, h2, hT.bel h2, (World.cell?_of_block (h2.block a.b hT.lt)).trans c0, (World.cell?_of_block (h2.block a.b hT.lt)).trans c1⟩
  obtain ⟨q0, q1, q3, _, hT2, s0, s1⟩ := hall w2 (Below.refl _ _)
  have HALL := Lib.hid hall
  have HBW := Lib.hid hbw
  have HT2 := Lib.hid hT2
  have HCODE := Lib.hid hcode
  have HW2 := Lib.hid hw2
  have HT := Lib.hid hT
  have HTX := Lib.hid htx
  clear hK hA hT hm hbig hdef hcode c0 c1 hb0 hba hlt0 hall hbw hT2 hw2 htx
  unfold ATree.ptr at HKI ⊢
  go_enter Tryz.func88, Tryz.ntmps88
  go_wp2_with fail
  rw [← HW2.out]
  clear c0' c1' b0' b1' b3'
  refine (HKI.out w2 HT2.out).mono ?_
  rintro e w9 ⟨rfl, hb9⟩
  have HB9 := Lib.hid ((HBW.out).trans (hb9.mono (HBW.out).size))
  clear hb9
  go_wp2
  go_ret
  exact ⟨by rw [HCODE.out]; rfl, HB9.out⟩

set_option maxHeartbeats 8000000 in
theorem enode_k10f {B m : Nat} (hK : EKids B m) (a : ATree) (w : World) (st : Bool) (hm : a.many ≤ m + 1) (hA : WA a) (hbig : a.many < 274877906944) (hT : TreeAt w B a) (h1 : a.kind = 10) :
    Calls Tryz.prog 88 #[.agg #[.bool st, .bool false], a.ptr] w fun e w' => e = .returned (.int .i64 (nodeE a st false)) ∧ Below w.heap.size w w' := by
  have hmf : ∀ (fn : Fn) (first cap : Array Value) (w : World), (Instr.makeFunc fn first cap).run Tryz.prog w = .ok (.func fn first cap) w := fun _ _ _ _ => rfl
  have hdef : nodeE a st false = 6 := by
    obtain ⟨b, v, k, t, n, ks⟩ := a
    simp only [ATree.kind] at h1
    subst h1
    rw [nodeE.eq_def]
    rfl
  have HKI := Lib.hid (fun W (h : TreeAt W B a) => hK a W st false hm (fun k hk => hA.kid hk) hbig h)
  obtain ⟨code, hcode⟩ : ∃ c, c = nodeE a st false := ⟨_, rfl⟩
  rw [← hcode]
  rw [hdef] at hcode
  have c0 := hT.c0
  have c1 := hT.c1
  rw [h1] at c0
  obtain ⟨tx, htx⟩ : ∃ tx, tx = a.text := ⟨_, rfl⟩
  rw [← htx] at c1
  try rw [← htx] at hcode
  have hb0 : Below w.heap.size w (w.alloc (.cells #[.bool st, .bool false] 69)) := (Below.refl _ _).alloc (Nat.le_refl _) _
  have hba : Below w.heap.size w ((w.alloc (.cells #[.bool st, .bool false] 69)).alloc (.cells #[.pointer (some ⟨a.b, 0, none⟩)] 22)) := hb0.alloc hb0.size _
  have c0' : ((w.alloc (.cells #[.bool st, .bool false] 69)).alloc (.cells #[.pointer (some ⟨a.b, 0, none⟩)] 22)).cell? ⟨a.b, 0, none⟩ = some (.int .i64 10) := (World.cell?_of_block (hba.block a.b hT.lt)).trans c0
  have c1' : ((w.alloc (.cells #[.bool st, .bool false] 69)).alloc (.cells #[.pointer (some ⟨a.b, 0, none⟩)] 22)).cell? ⟨a.b, 1, none⟩ = some (.string tx) := (World.cell?_of_block (hba.block a.b hT.lt)).trans c1
  have hlt0 : w.heap.size < (w.alloc (.cells #[.bool st, .bool false] 69)).heap.size := by simp
  have b0' : ((w.alloc (.cells #[.bool st, .bool false] 69)).alloc (.cells #[.pointer (some ⟨a.b, 0, none⟩)] 22)).cell? ⟨w.heap.size, 0, none⟩ = some (.bool st) := (cell_old (by exact hlt0)).trans (by simp)
  have b1' : ((w.alloc (.cells #[.bool st, .bool false] 69)).alloc (.cells #[.pointer (some ⟨a.b, 0, none⟩)] 22)).cell? ⟨w.heap.size, 1, none⟩ = some (.bool false) := (cell_old (by exact hlt0)).trans (by simp)
  have b3' : ((w.alloc (.cells #[.bool st, .bool false] 69)).alloc (.cells #[.pointer (some ⟨a.b, 0, none⟩)] 22)).cell? ⟨w.heap.size + 1, 0, none⟩ = some (.pointer (some ⟨a.b, 0, none⟩)) := by simp
  obtain ⟨w2, hw2⟩ : ∃ w2, w2 = ((w.alloc (.cells #[.bool st, .bool false] 69)).alloc (.cells #[.pointer (some ⟨a.b, 0, none⟩)] 22)) := ⟨_, rfl⟩
  have hbw : Below w.heap.size w w2 := by rw [hw2]; exact hba
  have hsz2 : w2.heap.size = w.heap.size + 2 := by rw [hw2]; simp
  have B0 := Lib.hid b0'
  have B1 := Lib.hid b1'
  have B3 := Lib.hid b3'
  rw [← hw2] at B0 B1 B3
  have hall : ∀ W, Below w2.heap.size w2 W → W.cell? ⟨w.heap.size, 0, none⟩ = some (.bool st) ∧ W.cell? ⟨w.heap.size, 1, none⟩ = some (.bool false) ∧ W.cell? ⟨w.heap.size + 1, 0, none⟩ = some (.pointer (some ⟨a.b, 0, none⟩)) ∧ Below w.heap.size w W ∧ TreeAt W B a ∧ W.cell? ⟨a.b, 0, none⟩ = some (.int .i64 10) ∧ W.cell? ⟨a.b, 1, none⟩ = some (.string tx) := fun W h => by
    have h2 := hbw.trans (h.mono hbw.size)
    exact ⟨(World.cell?_of_block (h.block w.heap.size (by omega))).trans B0.out, (World.cell?_of_block (h.block w.heap.size (by omega))).trans B1.out, (World.cell?_of_block (h.block (w.heap.size + 1) (by omega))).trans B3.out, h2, hT.bel h2, (World.cell?_of_block (h2.block a.b hT.lt)).trans c0, (World.cell?_of_block (h2.block a.b hT.lt)).trans c1⟩
  obtain ⟨q0, q1, q3, _, hT2, s0, s1⟩ := hall w2 (Below.refl _ _)
  have HALL := Lib.hid hall
  have HBW := Lib.hid hbw
  have HT2 := Lib.hid hT2
  have HCODE := Lib.hid hcode
  have HW2 := Lib.hid hw2
  have HT := Lib.hid hT
  have HTX := Lib.hid htx
  clear hK hA hT hm hbig hdef hcode c0 c1 hb0 hba hlt0 hall hbw hT2 hw2 htx
  unfold ATree.ptr at HKI ⊢
  go_enter Tryz.func88, Tryz.ntmps88
  go_wp2
  go_ret
  refine ⟨by rw [HCODE.out]; rfl, ?_⟩
  have h := HBW.out
  rw [HW2.out] at h
  exact h

set_option maxHeartbeats 8000000 in
theorem enode_def {B m : Nat} (hK : EKids B m) (a : ATree) (w : World) (st : Bool) (ins : Bool) (hm : a.many ≤ m + 1) (hA : WA a) (hbig : a.many < 274877906944) (hT : TreeAt w B a) (h2 : a.kind ≠ 2) (h3 : a.kind ≠ 3) (h4 : a.kind ≠ 4) (h13 : a.kind ≠ 13) (h5 : a.kind ≠ 5) (h37 : a.kind ≠ 37) (h6 : a.kind ≠ 6) (h7 : a.kind ≠ 7) (h8 : a.kind ≠ 8) (h9 : a.kind ≠ 9) (h10 : a.kind ≠ 10) (h24 : a.kind ≠ 24) (h34 : a.kind ≠ 34) :
    Calls Tryz.prog 88 #[.agg #[.bool st, .bool ins], a.ptr] w fun e w' => e = .returned (.int .i64 (nodeE a st ins)) ∧ Below w.heap.size w w' := by
  have hmf : ∀ (fn : Fn) (first cap : Array Value) (w : World), (Instr.makeFunc fn first cap).run Tryz.prog w = .ok (.func fn first cap) w := fun _ _ _ _ => rfl
  have hdef : nodeE a st ins = kidsE a.kids st ins := by
    obtain ⟨b, v, k, t, n, ks⟩ := a
    simp only [ATree.kind] at h2 h3 h4 h13 h5 h37 h6 h7 h8 h9 h10 h24 h34
    rw [nodeE.eq_def]
    simp only [h2, h3, h4, h13, h5, h37, h6, h7, h8, h9, h10, h24, h34, or_self, if_false, ATree.kids]
  have HKI := Lib.hid (fun W (h : TreeAt W B a) => hK a W st ins hm (fun k hk => hA.kid hk) hbig h)
  obtain ⟨code, hcode⟩ : ∃ c, c = nodeE a st ins := ⟨_, rfl⟩
  rw [← hcode]
  rw [hdef] at hcode
  have c0 := hT.c0
  have c1 := hT.c1
  obtain ⟨kd, hkd⟩ : ∃ kd, kd = a.kind := ⟨_, rfl⟩
  rw [← hkd] at c0 h2 h3 h4 h13 h5 h37 h6 h7 h8 h9 h10 h24 h34
  obtain ⟨tx, htx⟩ : ∃ tx, tx = a.text := ⟨_, rfl⟩
  rw [← htx] at c1
  try rw [← htx] at hcode
  have hb0 : Below w.heap.size w (w.alloc (.cells #[.bool st, .bool ins] 69)) := (Below.refl _ _).alloc (Nat.le_refl _) _
  have hba : Below w.heap.size w ((w.alloc (.cells #[.bool st, .bool ins] 69)).alloc (.cells #[.pointer (some ⟨a.b, 0, none⟩)] 22)) := hb0.alloc hb0.size _
  have c0' : ((w.alloc (.cells #[.bool st, .bool ins] 69)).alloc (.cells #[.pointer (some ⟨a.b, 0, none⟩)] 22)).cell? ⟨a.b, 0, none⟩ = some (.int .i64 kd) := (World.cell?_of_block (hba.block a.b hT.lt)).trans c0
  have c1' : ((w.alloc (.cells #[.bool st, .bool ins] 69)).alloc (.cells #[.pointer (some ⟨a.b, 0, none⟩)] 22)).cell? ⟨a.b, 1, none⟩ = some (.string tx) := (World.cell?_of_block (hba.block a.b hT.lt)).trans c1
  have hlt0 : w.heap.size < (w.alloc (.cells #[.bool st, .bool ins] 69)).heap.size := by simp
  have b0' : ((w.alloc (.cells #[.bool st, .bool ins] 69)).alloc (.cells #[.pointer (some ⟨a.b, 0, none⟩)] 22)).cell? ⟨w.heap.size, 0, none⟩ = some (.bool st) := (cell_old (by exact hlt0)).trans (by simp)
  have b1' : ((w.alloc (.cells #[.bool st, .bool ins] 69)).alloc (.cells #[.pointer (some ⟨a.b, 0, none⟩)] 22)).cell? ⟨w.heap.size, 1, none⟩ = some (.bool ins) := (cell_old (by exact hlt0)).trans (by simp)
  have b3' : ((w.alloc (.cells #[.bool st, .bool ins] 69)).alloc (.cells #[.pointer (some ⟨a.b, 0, none⟩)] 22)).cell? ⟨w.heap.size + 1, 0, none⟩ = some (.pointer (some ⟨a.b, 0, none⟩)) := by simp
  obtain ⟨w2, hw2⟩ : ∃ w2, w2 = ((w.alloc (.cells #[.bool st, .bool ins] 69)).alloc (.cells #[.pointer (some ⟨a.b, 0, none⟩)] 22)) := ⟨_, rfl⟩
  have hbw : Below w.heap.size w w2 := by rw [hw2]; exact hba
  have hsz2 : w2.heap.size = w.heap.size + 2 := by rw [hw2]; simp
  have B0 := Lib.hid b0'
  have B1 := Lib.hid b1'
  have B3 := Lib.hid b3'
  rw [← hw2] at B0 B1 B3
  have hall : ∀ W, Below w2.heap.size w2 W → W.cell? ⟨w.heap.size, 0, none⟩ = some (.bool st) ∧ W.cell? ⟨w.heap.size, 1, none⟩ = some (.bool ins) ∧ W.cell? ⟨w.heap.size + 1, 0, none⟩ = some (.pointer (some ⟨a.b, 0, none⟩)) ∧ Below w.heap.size w W ∧ TreeAt W B a ∧ W.cell? ⟨a.b, 0, none⟩ = some (.int .i64 kd) ∧ W.cell? ⟨a.b, 1, none⟩ = some (.string tx) := fun W h => by
    have h2 := hbw.trans (h.mono hbw.size)
    exact ⟨(World.cell?_of_block (h.block w.heap.size (by omega))).trans B0.out, (World.cell?_of_block (h.block w.heap.size (by omega))).trans B1.out, (World.cell?_of_block (h.block (w.heap.size + 1) (by omega))).trans B3.out, h2, hT.bel h2, (World.cell?_of_block (h2.block a.b hT.lt)).trans c0, (World.cell?_of_block (h2.block a.b hT.lt)).trans c1⟩
  obtain ⟨q0, q1, q3, _, hT2, s0, s1⟩ := hall w2 (Below.refl _ _)
  have HALL := Lib.hid hall
  have HBW := Lib.hid hbw
  have HT2 := Lib.hid hT2
  have HCODE := Lib.hid hcode
  have HW2 := Lib.hid hw2
  have HT := Lib.hid hT
  have HTX := Lib.hid htx
  clear hK hA hT hm hbig hdef hcode c0 c1 hb0 hba hlt0 hall hbw hT2 hw2 htx
  have n2 : (kd == 2) = false := by simpa using h2
  have n3 : (kd == 3) = false := by simpa using h3
  have n4 : (kd == 4) = false := by simpa using h4
  have n13 : (kd == 13) = false := by simpa using h13
  have n5 : (kd == 5) = false := by simpa using h5
  have n37 : (kd == 37) = false := by simpa using h37
  have n6 : (kd == 6) = false := by simpa using h6
  have n7 : (kd == 7) = false := by simpa using h7
  have n8 : (kd == 8) = false := by simpa using h8
  have n9 : (kd == 9) = false := by simpa using h9
  have n10 : (kd == 10) = false := by simpa using h10
  have n24 : (kd == 24) = false := by simpa using h24
  have n34 : (kd == 34) = false := by simpa using h34
  clear hkd h2 h3 h4 h13 h5 h37 h6 h7 h8 h9 h10 h24 h34
  unfold ATree.ptr at HKI ⊢
  go_enter Tryz.func88, Tryz.ntmps88
  go_wp2_with fail
  rw [← HW2.out]
  clear c0' c1' b0' b1' b3'
  refine (HKI.out w2 HT2.out).mono ?_
  rintro e w9 ⟨rfl, hb9⟩
  have HB9 := Lib.hid ((HBW.out).trans (hb9.mono (HBW.out).size))
  clear hb9
  go_wp2
  go_ret
  exact ⟨by rw [HCODE.out]; rfl, HB9.out⟩

end Go.Proofs.YtgifgiipojedbaaGreatDoor
