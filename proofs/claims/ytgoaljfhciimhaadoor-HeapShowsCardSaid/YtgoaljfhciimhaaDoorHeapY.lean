/- Walks of package heap that change it: slices.Delete over properties, Cut. -/
import Derived.Test.YtgoaljfhciimhaaDoorHeapX
namespace Go.Proofs.YtgoaljfhciimhaaDoor
open Go Go.RowKit
set_option maxRecDepth 100000

/-- append(s[:k], s[k+1:]...) on a row of one's own -/
theorem wpList_close {P : Program} {w : World} {ops : Array Oper} {rest : List Oper} {o : Oper} {a : Act} {Q : Exit → Act → World → Prop} (hgd : o.guard = none) (s x : Operand) (t : TypeId)
    (ho : o.op = .call { callee := .builtin .append, args := #[s, x], argTypes := #[t, t] })
    (e : TypeId) (i : TypeInfo) (m : Nat) (ht : P.underlying t = some (.slice e)) (hi : P.info? e = some i) (hsize : i.size = m)
    (g cap k : Nat) {α : Type} (f : α → List Value) (l : List α) (hf : ∀ a, (f a).length = m) (h1 : ∀ a, ∀ v ∈ f a, v.oneCell' = true)
    (hown : w.ownsRow 0 e m (.slice (some ⟨g, 0, none⟩) l.length cap) l.length (l.flatMap f)) (hk : k < l.length)
    (hs : a.eval s = .slice (some ⟨g, 0, none⟩) k cap) (ad : Addr) (c : Nat) (hx : a.eval x = .slice (some ad) (l.length - (k + 1)) c) (had : k + 1 < l.length → ad = ⟨g, (k + 1) * m, none⟩)
    (h : ∀ w', w'.ownsRow 0 e m (.slice (some ⟨g, 0, none⟩) l.length cap) l.length ((l.take k ++ l.drop (k + 1) ++ l.drop (l.length - 1)).flatMap f) → w.grownBy w' (some g) → wpList P ops Q rest (a.put o.dst (.slice (some ⟨g, 0, none⟩) (k + (l.length - (k + 1))) cap)) w') :
    wpList P ops Q (o :: rest) a w := by
  refine wpList_plain hgd fun K hK => ?_
  rcases hown.2 with ⟨h', _⟩ | ⟨g', cap', cur, h', hb, hg, hnc, hcm, hcs, htake⟩
  · simp at h'
  simp only [Value.slice.injEq, Option.some.injEq, Addr.mk.injEq, and_true, true_and] at h'
  obtain ⟨rfl, rfl⟩ := h'
  subst hsize
  have hmul : l.length * i.size ≤ cap * i.size := Nat.mul_le_mul_right _ hnc
  have hnl : ((l.drop (k + 1)).flatMap f).length = (l.length - (k + 1)) * i.size := by rw [flatMap_len hf, List.length_drop]
  have hfit : k * i.size + (l.length - (k + 1)) * i.size + i.size = l.length * i.size := by
    rw [← Nat.add_mul, ← Nat.succ_mul]; congr 1; omega
  have hr := run_append_room (P := P) w t o.type e i ht hi g k cap cur hg ad (l.length - (k + 1)) c ((l.drop (k + 1)).flatMap f) hnl (by
    intro j u hu
    have hj : j < (l.length - (k + 1)) * i.size := by rw [← hnl]; exact (List.getElem?_eq_some_iff.1 hu).1
    have hlt : k + 1 < l.length := by
      rcases Nat.lt_or_ge (k + 1) l.length with h | h
      · exact h
      · rw [show l.length - (k + 1) = 0 by omega] at hj; omega
    rw [had hlt]
    have e1 : (⟨g, (k + 1) * i.size, none⟩ : Addr).add j = ⟨g, (k + 1) * i.size + j, none⟩ := by unfold Addr.add; split <;> simp_all
    rw [e1, hown.cellAt ((k + 1) * i.size + j) (by
      have : (k + 1) * i.size + (l.length - (k + 1)) * i.size = l.length * i.size := by rw [← Nat.add_mul]; congr 1; omega
      omega)]
    have e2 : (l.drop (k + 1)).flatMap f = (l.flatMap f).drop ((k + 1) * i.size) := by
      have := flatMap_take hf l (k + 1)
      have h2 : l.flatMap f = (l.take (k + 1)).flatMap f ++ (l.drop (k + 1)).flatMap f := by rw [← List.flatMap_append, List.take_append_drop]
      rw [h2, List.drop_left' (by rw [flatMap_len hf, List.length_take]; congr 1; omega)]
    rw [e2, List.getElem?_drop] at hu
    exact hu) (by
    intro v hv
    obtain ⟨a', _, ha⟩ := List.mem_flatMap.1 hv
    exact h1 a' v ha) (by omega) (by rw [hnl, hcs]; omega)
  unfold Oper.wp execOp
  simp only [ho, resolve, invoke, builtin, Sem.run_bind, Sem.run_pure, Result.andThen_ok, List.map_toArray, List.map_cons, List.map_nil, hs, hx, hr]
  refine hK _ _ (h _ ⟨?_, .inr ⟨g, cap, _, rfl, Nat.zero_le _, setRow_heap w g cur _ e (0, 0) hg, hnc, hcm, ?_, ?_⟩⟩ ⟨rfl, rfl, rfl, by simp, fun k' hk' hne => setRow_other w g k' _ (fun e => hne (by rw [e]))⟩)
  · rw [flatMap_len hf]; congr 1; simp; omega
  · simp only [List.size_toArray, List.length_append, List.length_take, List.length_drop, Array.length_toList, hcs, hnl]
    omega
  · rw [hnl]
    have hcl : cur.toList.length = cap * i.size := by rw [Array.length_toList, hcs]
    have d1 : cur.toList = l.flatMap f ++ cur.toList.drop (l.length * i.size) := by rw [← htake, List.take_append_drop]
    have t1 : cur.toList.take (k * i.size) = (l.take k).flatMap f := by
      rw [flatMap_take hf, ← htake, List.take_take, Nat.min_eq_left (Nat.mul_le_mul_right _ (by omega))]
    have t2 : (cur.toList.drop (k * i.size + (l.length - (k + 1)) * i.size)).take i.size = (l.drop (l.length - 1)).flatMap f := by
      have e3 : k * i.size + (l.length - (k + 1)) * i.size = (l.length - 1) * i.size := by rw [← Nat.add_mul]; congr 1; omega
      have h2 : l.flatMap f = (l.take (l.length - 1)).flatMap f ++ (l.drop (l.length - 1)).flatMap f := by rw [← List.flatMap_append, List.take_append_drop]
      rw [e3, d1, h2, List.append_assoc, List.drop_left' (by rw [flatMap_len hf, List.length_take]; congr 1; omega), List.take_left' (by rw [flatMap_len hf, List.length_drop, show l.length - (l.length - 1) = 1 by omega, Nat.one_mul])]
    rw [t1]
    simp only [List.flatMap_append]
    rw [List.take_append, List.take_of_length_le (by simp only [List.length_append, flatMap_len hf, List.length_take, List.length_drop]; rw [Nat.min_eq_left (by omega)]; omega)]
    congr 1
    rw [← t2]
    congr 1
    simp only [List.length_append, flatMap_len hf, List.length_take, List.length_drop]
    rw [Nat.min_eq_left (by omega)]
    omega

theorem zeroProp (w : World) : (zeroValue 139).run Tryd.prog w = .ok (.agg #[.string ⟨#[]⟩, .int .i64 0, .int .i64 0, .string ⟨#[]⟩, .bool false]) w := by kernel_rfl

set_option maxHeartbeats 1600000 in
theorem delete_any (w : World) (g c k : Nat) (l : List LProp) (hk : k < l.length) (hown : w.ownsRow 0 139 5 (.slice (some ⟨g, 0, none⟩) l.length c) l.length (l.flatMap LProp.cells)) :
    Calls Tryd.prog 86 #[.slice (some ⟨g, 0, none⟩) l.length c, .int .i64 k, .int .i64 (k + 1)] w fun e w' => e = .returned (.slice (some ⟨g, 0, none⟩) (l.length - 1) c) ∧ w'.ownsRow 0 139 5 (.slice (some ⟨g, 0, none⟩) (l.length - 1) c) (l.length - 1) ((l.eraseIdx k).flatMap LProp.cells) ∧ w.grownBy w' (some g) := by
  obtain ⟨i0, hi, hz0, hz1, hz2⟩ := info_parts Tryd.infoProp
  obtain ⟨h1, h2⟩ : l.length ≤ c ∧ c ≤ maxLen := by
    rcases ownsRow_cases hown with ⟨hv, _⟩ | ⟨g', c', hv, h1, h2, _⟩
    · cases hv
    · cases hv; exact ⟨h1, h2⟩
  unfold maxLen at h2
  obtain ⟨n, hn⟩ : ∃ n, l.length = n + 1 := ⟨l.length - 1, by omega⟩
  have hown' := hown
  rw [hn] at hown' h1 hk ⊢
  simp only [Nat.add_sub_cancel]
  have HO := Lib.hid hown
  have HO' := Lib.hid hown'
  have HN := Lib.hid hn
  clear hown hown' hn
  have hne : ((k : Int) == (k : Int) + 1) = false := beq_eq_false_iff_ne.2 (by omega)
  have hkc : k < c := by omega
  have hnc : n < c := by omega
  have hkc2 : k ≤ c := by omega
  have hkn2 : k ≤ n := by omega
  have hclr : ∀ w1 : World, w1.ownsRow 0 139 5 (.slice (some ⟨g, 0, none⟩) l.length c) l.length ((l.take k ++ l.drop (k + 1) ++ l.drop (l.length - 1)).flatMap LProp.cells) →
      ∃ w2, (Builtin.clear_ #[130] 0 #[.slice (some ⟨g, n * 5, none⟩) 1 (c - n)]).run Tryd.prog w1 = .ok (.tuple #[]) w2 ∧ w2.ownsRow 0 139 5 (.slice (some ⟨g, 0, none⟩) n c) n ((l.eraseIdx k).flatMap LProp.cells) ∧ w1.grownBy w2 (some g) := by
    intro w1 ho
    have hl2 : (l.take k ++ l.drop (k + 1) ++ l.drop (l.length - 1)).length = n + 1 := by have := HN.out; simp; omega
    have ho' : w1.ownsRow 0 139 5 (.slice (some ⟨g, 0, none⟩) (n + 1) c) (n + 1) ((l.take k ++ l.drop (k + 1) ++ l.drop (l.length - 1)).flatMap LProp.cells) := by
      have := HN.out
      rw [this] at ho ⊢
      exact ho
    have := clear_own (P := Tryd.prog) (f := LProp.cells) (m := 5) (l := l.take k ++ l.drop (k + 1) ++ l.drop (l.length - 1)) (t := 130) (g := g) (cap := c) (w := w1) (fun _ => rfl) (by decide) _ Tryd.underlying130 zeroProp rfl (by intro v hv; simp [Value.cells] at hv; rcases hv with rfl | rfl | rfl | rfl <;> rfl) (by rw [hl2]; exact ho') (i := n) (by omega) 0
    rw [hl2, Nat.add_sub_cancel_left] at this
    obtain ⟨w2, e1, e2, e3⟩ := this
    have hl3 : (l.take k ++ l.drop (k + 1)).length = n := by have := HN.out; simp; omega
    rw [List.take_left' hl3, ← List.eraseIdx_eq_take_drop_succ] at e2
    exact ⟨w2, e1, e2, e3⟩
  have HCl := Lib.hid hclr
  clear hclr
  have hkn : k + (n - k) = n := by omega
  have hks : n + 1 - (k + 1) = n - k := by omega
  have HKN := Lib.hid hkn
  have HKS := Lib.hid hks
  clear hkn hks
  have hk0 : (0 : Int) ≤ (k : Int) + 1 := by omega
  rcases Nat.lt_or_ge (k + 1) c with hc | hc
  · have hcne : ¬ c = k + 1 := by omega
    have hk1c : k + 1 ≤ c := by omega
    go_enter Tryd.func86, Tryd.ntmps86
    go_wp2_with fail
    refine wp_region_plan [(true, 0), (true, 1), (true, 2), (true, 3), (true, 4), (true, 5)] [6, 7] (fun _ => True) (by kernel_rfl) (by kernel_rfl) (fun _ _ d _ _ h => by cases d <;> exact h) trivial (fun hS0 => ?_)
    simp only [planOps, List.filterMap_cons, List.filterMap_nil, List.getElem?_toArray, List.getElem?_cons_zero, List.getElem?_cons_succ, Option.map_some]
    iterate 6
      first
        | (refine wpPlan_take ?_ (by rfl) (fun w' _ => ?_) ?_; rotate_left; (go_simp; first | done | with_reducible rfl); simp only [Act.put, List.setIfInBounds_toArray, List.set_cons_zero, List.set_cons_succ])
        | (refine wpPlan_skip (by rfl) ?_; simp only [Act.put, List.setIfInBounds_toArray, List.set_cons_zero, List.set_cons_succ])
    refine wpPlan_end ?_
    refine wpList_close rfl (.tmp 22) (.tmp 25) 130 rfl 139 i0 5 Tryd.underlying130 hi hz1 g c k LProp.cells l (fun _ => rfl) ?_ HO.out.drew (by rw [HN.out]; omega) (by rfl) ⟨g, (k + 1) * 5, none⟩ (c - (k + 1)) ?_ (fun _ => rfl) ?_
    · intro a v hv; simp [LProp.cells] at hv; rcases hv with rfl | rfl | rfl | rfl | rfl <;> rfl
    · rw [HN.out, HKS.out]; rfl
    intro w1 ho hg
    obtain ⟨w2, hrun, ho2, hg2⟩ := HCl.out w1 ho
    have HO2 := Lib.hid ho2
    have HG2 := Lib.hid hg2
    have HG := Lib.hid hg
    clear ho ho2 hg hg2
    rw [HN.out, HKS.out, HKN.out]
    simp only [Act.put, List.setIfInBounds_toArray, List.set_cons_zero, List.set_cons_succ]
    go_wp2
    go_ret
    exact ⟨rfl, HO2.out, ⟨HG2.out.os.trans HG.out.os, HG2.out.tape.trans HG.out.tape, HG2.out.output.trans HG.out.output, Nat.le_trans HG.out.size HG2.out.size, fun b h1 h2 => (HG2.out.block b (Nat.lt_of_lt_of_le h1 HG.out.size) h2).trans (HG.out.block b h1 h2)⟩⟩
  · obtain rfl : n = k := by omega
    obtain rfl : c = n + 1 := by omega
    have hI : (n : Int) ≤ (n : Int) + 1 := by omega
    go_enter Tryd.func86, Tryd.ntmps86
    go_wp2_with fail
    refine wp_region_plan [(true, 0), (true, 1), (true, 2), (true, 3), (true, 4), (true, 5)] [6, 7] (fun _ => True) (by kernel_rfl) (by kernel_rfl) (fun _ _ d _ _ h => by cases d <;> exact h) trivial (fun hS0 => ?_)
    simp only [planOps, List.filterMap_cons, List.filterMap_nil, List.getElem?_toArray, List.getElem?_cons_zero, List.getElem?_cons_succ, Option.map_some]
    iterate 6
      first
        | (refine wpPlan_take ?_ (by rfl) (fun w' _ => ?_) ?_; rotate_left; (go_simp; first | done | with_reducible rfl); simp only [Act.put, List.setIfInBounds_toArray, List.set_cons_zero, List.set_cons_succ])
        | (refine wpPlan_skip (by rfl) ?_; simp only [Act.put, List.setIfInBounds_toArray, List.set_cons_zero, List.set_cons_succ])
    refine wpPlan_end ?_
    refine wpList_close rfl (.tmp 22) (.tmp 25) 130 rfl 139 i0 5 Tryd.underlying130 hi hz1 g (n + 1) n LProp.cells l (fun _ => rfl) ?_ HO.out.drew (by rw [HN.out]; omega) (by rfl) ⟨g, 0, none⟩ 0 ?_ (fun h => by rw [HN.out] at h; omega) ?_
    · intro a v hv; simp [LProp.cells] at hv; rcases hv with rfl | rfl | rfl | rfl | rfl <;> rfl
    · rw [HN.out, Nat.sub_self]; rfl
    intro w1 ho hg
    obtain ⟨w2, hrun, ho2, hg2⟩ := HCl.out w1 ho
    have HO2 := Lib.hid ho2
    have HG2 := Lib.hid hg2
    have HG := Lib.hid hg
    clear ho ho2 hg hg2
    rw [HN.out, Nat.sub_self, Nat.add_zero]
    simp only [Nat.add_sub_cancel_left] at hrun
    simp only [Act.put, List.setIfInBounds_toArray, List.set_cons_zero, List.set_cons_succ]
    go_wp2
    go_ret
    exact ⟨rfl, HO2.out, ⟨HG2.out.os.trans HG.out.os, HG2.out.tape.trans HG.out.tape, HG2.out.output.trans HG.out.output, Nat.le_trans HG.out.size HG2.out.size, fun b h1 h2 => (HG2.out.block b (Nat.lt_of_lt_of_le h1 HG.out.size) h2).trans (HG.out.block b h1 h2)⟩⟩
end Go.Proofs.YtgoaljfhciimhaaDoor
