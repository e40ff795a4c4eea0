/- Package early: scope. -/
import Derived.Test.YtgifgiipojedbaaGreatDoorJ14
namespace Go.Proofs.YtgifgiipojedbaaGreatDoor
open Go Go.RowKit
set_option maxRecDepth 100000
set_option linter.unusedVariables false

theorem twice_step {T : List ByteArray} {k : Nat} {s : ByteArray} (h : T[k]? = some s) : twiceF (T.take k) (T.drop k) = (Lib.containsS (T.take k) s || twiceF (T.take (k + 1)) (T.drop (k + 1))) := by
  obtain ⟨hk, he⟩ := List.getElem?_eq_some_iff.1 h
  rw [List.drop_eq_getElem_cons hk, List.take_succ_eq_append_getElem hk, he]
  rfl
theorem funcs_step {L V T : List ByteArray} {b : Bool} {k : Nat} {s : ByteArray} (h : T[k]? = some s) : funcsF L V b (T.take k) (T.drop k) = (Lib.containsS L s || (!b && ((T.take k).any (fun o => sameS o s) || Lib.containsS V s)) || funcsF L V b (T.take (k + 1)) (T.drop (k + 1))) := by
  obtain ⟨hk, he⟩ := List.getElem?_eq_some_iff.1 h
  rw [List.drop_eq_getElem_cons hk, List.take_succ_eq_append_getElem hk, he]
  rfl
/-- the names that scope has seen: a cell that holds a row -/
structure SInv (w0 : World) (c : Nat) (l : List ByteArray) (w : World) : Prop where
  cell : ∃ v, w.heap[c]? = some (.cells #[v] 45 (0, 0)) ∧ Texts w (c + 1) v l
  bel : Below w0.heap.size w0 w
theorem SInv.on {w0 w w1 : World} {c : Nat} {l : List ByteArray} (h : SInv w0 c l w) (g : Below w.heap.size w w1) : SInv w0 c l w1 := by
  obtain ⟨v, h1, h2⟩ := h.cell
  exact ⟨⟨v, (g.block c (Array.getElem?_eq_some_iff.1 h1).1).trans h1, h2.bel g⟩, h.bel.trans (g.mono h.bel.size)⟩
theorem SInv.push {w0 w w1 w2 : World} {c : Nat} {l : List ByteArray} {v v2 : Value} {s : ByteArray} (hcell : w.heap[c]? = some (.cells #[v] 45 (0, 0))) (ht : Texts w (c + 1) v l) (hbel : Below w0.heap.size w0 w) (hc : w0.heap.size ≤ c)
    (hB : Below w.heap.size w w1) (hg : w1.grownBy w2 v.ownBlock) (hown : w2.ownsRow (c + 1) 9 1 v2 (l.length + 1) (l.map Value.string ++ [.string s])) :
    SInv w0 c (l ++ [s]) (w2.setCell ⟨c, 0, none⟩ v2) ∧ ∀ k, k < w.heap.size → k ≠ c → v.ownBlock ≠ some k → (w2.setCell ⟨c, 0, none⟩ v2).heap[k]? = w.heap[k]? := by
  have hcl := (Array.getElem?_eq_some_iff.1 hcell).1
  have hne : v.ownBlock ≠ some c := fun e => by have := (World.ownsRow.lt ht c e).1; omega
  have step : ∀ k, k < w.heap.size → v.ownBlock ≠ some k → w2.heap[k]? = w.heap[k]? := fun k hk hv => (hg.block k (Nat.lt_of_lt_of_le hk hB.size) (fun e => hv e.symm)).trans (hB.block k hk)
  refine ⟨⟨⟨v2, setCell_block (o := 0) v2 ((step c hcl hne).trans hcell), ?_⟩, ?_⟩, fun k hk h1 h2 => (Below.heap_setCell _ _ _ _ h1).trans (step k hk h2)⟩
  · refine ownsRow_block (texts_push hown) fun k hk => Below.heap_setCell _ _ _ _ ?_
    have := (World.ownsRow.lt hown k hk).1
    simp only
    omega
  · refine Below.setCell (Below.grown (hbel.trans (hB.mono hbel.size)) hg (Nat.le_trans hbel.size hB.size) ?_) (p := ⟨c, 0, none⟩) hc _
    exact fun k hk => by have := (World.ownsRow.lt ht k hk).1; omega
theorem Nodes.off {w w' : World} {B B' c : Nat} {v v' cv : Value} {L : List ATree} {l : List ByteArray} (h : Nodes w B v L) (hcell : w.heap[c]? = some (.cells #[cv] 45 (0, 0))) (ht : Texts w B' v' l)
    (hf : ∀ k, k < w.heap.size → k ≠ c → v'.ownBlock ≠ some k → w'.heap[k]? = w.heap[k]?) : Nodes w' B v L := by
  refine ownsRow_block h fun k hk => hf k (World.ownsRow.lt h k hk).2 ?_ ?_
  · intro e
    obtain ⟨c1, f1, h1⟩ := Lib.ownsRow_kind h k hk
    rw [e, hcell] at h1
    simp only [Option.some.injEq, Obj.cells.injEq] at h1
    exact absurd h1.2.1 (by decide)
  · intro e
    obtain ⟨c1, f1, h1⟩ := Lib.ownsRow_kind h k hk
    obtain ⟨c2, f2, h2⟩ := Lib.ownsRow_kind ht k e
    rw [h1] at h2
    simp only [Option.some.injEq, Obj.cells.injEq] at h2
    exact absurd h2.2.1 (by decide)
theorem Nodes.slice {w : World} {B : Nat} {v : Value} {l : List ATree} (h : Nodes w B v l) : ∃ p cp, v = .slice p l.length cp ∧ l.length ≤ cp ∧ cp ≤ maxLen ∧ ∀ (i : Nat) x, l[i]? = some x → ∃ g, p = some ⟨g, 0, none⟩ := by
  rcases h.form with ⟨h1, h2⟩ | ⟨g, cap, h1, h2, h3⟩
  · exact ⟨none, 0, by rw [h1, h2]; rfl, by rw [h2]; exact Nat.le_refl _, by unfold maxLen; omega, fun i x hx => by rw [h2] at hx; simp at hx⟩
  · exact ⟨_, _, h1, h2, h3, fun i x hx => ⟨g, rfl⟩⟩
theorem Texts.form2 {w : World} {B : Nat} {v : Value} {l : List ByteArray} (h : Texts w B v l) : ∃ p cp, v = .slice p l.length cp ∧ l.length ≤ cp ∧ cp ≤ maxLen ∧ ∀ (i : Nat) x, l[i]? = some x → ∃ g, p = some ⟨g, 0, none⟩ := by
  rcases h.form with ⟨h1, h2⟩ | ⟨g, cap, h1, h2, h3⟩
  · exact ⟨none, 0, by rw [h1, h2]; rfl, by rw [h2]; exact Nat.le_refl _, by unfold maxLen; omega, fun i x hx => by rw [h2] at hx; simp at hx⟩
  · exact ⟨_, _, h1, h2, h3, fun i x hx => ⟨g, rfl⟩⟩

set_option maxHeartbeats 16000000 in
theorem scope_any (w : World) (B : Nat) (a : ATree) (st ins body : Bool) (hT : TreeAt w B a) (hm : a.many < 274877906944) :
    Calls Tryz.prog 46 #[.agg #[.bool st, .bool ins], a.ptr, .bool body] w fun e w' => e = .returned (.int .i64 (if scopeF a body then 9 else 0)) ∧ Below w.heap.size w w' := by
  obtain ⟨i0, hi, hz0, hz1, hz2⟩ := info_parts Tryz.infoStr
  have hmf : ∀ (fn : Fn) (first cap : Array Value) (w : World), (Instr.makeFunc fn first cap).run Tryz.prog w = .ok (.func fn first cap) w := fun _ _ _ _ => rfl
  have hkl := kids_le a
  have HT := Lib.hid hT
  have HL := Lib.hid (fun W (h : TreeAt W B a) => lets_any W B a h (by omega))
  have HFU := Lib.hid (fun W (h : TreeAt W B a) => funcs_any W B a h (by omega))
  have HV := Lib.hid (fun W (h : TreeAt W B a) => vars_any W B a h (by omega))
  have hfu : (a.kids.filter isFunc).length ≤ a.kids.length := List.length_filter_le _ _
  have hle : (a.kids.filter isLet).length ≤ a.kids.length := List.length_filter_le _ _
  have hfk : ∀ x, x ∈ a.kids.filter isFunc → x ∈ a.kids := fun x hx => (List.mem_filter.1 hx).1
  have hlk : ∀ x, x ∈ a.kids.filter isLet → x ∈ a.kids := fun x hx => (List.mem_filter.1 hx).1
  have HFK := Lib.hid hfk
  have HLK := Lib.hid hlk
  have hsc : scopeF a body = (twiceF [] (letsT a) || funcsF (letsT a) (varsF a) body [] (funcsT a) || (varsF a).any (fun s => Lib.containsS (letsT a) s)) := rfl
  obtain ⟨P, hP⟩ : ∃ P, P = a.kids.filter isLet := ⟨_, rfl⟩
  obtain ⟨Q, hQ⟩ : ∃ Q, Q = a.kids.filter isFunc := ⟨_, rfl⟩
  obtain ⟨V, hVd⟩ : ∃ V, V = varsF a := ⟨_, rfl⟩
  have hlT : letsT a = P.map ATree.text := by rw [hP]; rfl
  have hfT : funcsT a = Q.map ATree.text := by rw [hQ]; rfl
  rw [hlT, hfT, ← hVd] at hsc
  rw [← hP] at hle HLK
  rw [← hQ] at hfu HFK
  simp only [← hP] at HL
  simp only [← hQ] at HFU
  simp only [← hVd] at HV
  obtain ⟨T, hTT⟩ : ∃ T, T = P.map ATree.text := ⟨_, rfl⟩
  rw [← hTT] at hsc
  obtain ⟨R1, hR1⟩ : ∃ R, R = twiceF [] T := ⟨_, rfl⟩
  obtain ⟨R2, hR2⟩ : ∃ R, R = funcsF T V body [] (Q.map ATree.text) := ⟨_, rfl⟩
  rw [← hR1, ← hR2] at hsc
  obtain ⟨code, hcode⟩ : ∃ c : Int, c = if scopeF a body then 9 else 0 := ⟨_, rfl⟩
  rw [← hcode]
  rw [hsc] at hcode
  have HSC := Lib.hid hcode
  have HR1 := Lib.hid hR1
  have HR2 := Lib.hid hR2
  have HTT := Lib.hid hTT
  have hb0 : Below w.heap.size w (w.alloc (.cells #[.bool st, .bool ins] 69)) := (Below.refl _ _).alloc (Nat.le_refl _) _
  have hs0 : SInv w (w.heap.size + 1) [] ((w.alloc (.cells #[.bool st, .bool ins] 69)).alloc (.cells #[.slice none 0 0] 45)) :=
    ⟨⟨_, by simpa using (Go.MapKept.heap_alloc (w.alloc (.cells #[.bool st, .bool ins] 69)) (.cells #[.slice none 0 0] 45)).1, Texts.nil _ _⟩, hb0.alloc hb0.size _⟩
  have HS0 := Lib.hid hs0
  have hkl2 : a.kids.length < 274877906944 := by omega
  clear hT hkl hfk hlk hsc hcode hP hQ hVd hlT hfT hTT hR1 hR2 hb0 hs0
  unfold ATree.ptr at HL HFU HV ⊢
  go_enter Tryz.func46, Tryz.ntmps46
  go_wp2_with fail
  refine (HL.out _ (HT.out.bel HS0.out.bel)).mono ?_
  rintro e w2 ⟨v2, rfl, hn2, hb2⟩
  have hs2 := HS0.out.on hb2
  have HS2 := Lib.hid hs2
  obtain ⟨zn, hzn⟩ : ∃ z, z = ((w.alloc (.cells #[.bool st, .bool ins] 69)).alloc (.cells #[.slice none 0 0] 45)).heap.size := ⟨_, rfl⟩
  rw [← hzn] at hn2
  obtain ⟨p2, cp2, rfl, hge2, hmx2, hpp2⟩ := hn2.slice
  have N2 := Lib.hid hn2
  have HPP2 := Lib.hid hpp2
  obtain ⟨q, hq1⟩ : ∃ q, q = P.length := ⟨_, rfl⟩
  have hqq : q ≤ 9223372036854775807 := by unfold maxLen at hmx2; omega
  rw [← hq1] at hge2 N2 hle ⊢
  have HQ1 := Lib.hid hq1
  clear hs2 hn2 hb2 hzn hq1 HS0 hpp2
  go_wp2_with fail
  go_loopw [19] (fun i wr => ∃ (k : Nat), k ≤ q ∧ i = .int .i64 k ∧ Hid (SInv w (w.heap.size + 1) (T.take k) wr) ∧ Hid (Nodes wr zn (.slice p2 q cp2) P) ∧ Hid (twiceF (T.take k) (T.drop k) = R1)) (fun i _ => q - (intOf i).toNat)
  case atStart => exact ⟨0, Nat.zero_le _, rfl, HS2, N2, Lib.hid HR1.out.symm⟩
  case round =>
    obtain ⟨k, hk, rfl, HS, NO, HR⟩ := hrel
    clear HS2 N2
    by_cases hkn : k < q
    · obtain ⟨x, hx⟩ : ∃ x, P[k]? = some x := ⟨_, List.getElem?_eq_getElem (by rw [← HQ1.out]; exact hkn)⟩
      obtain ⟨g0, hp⟩ := HPP2.out k x hx
      subst hp
      have cx := NO.out.cell rfl hx
      have hTx := (HT.out.bel HS.out.bel).kid (HLK.out x (List.mem_of_getElem? hx))
      have c1 := hTx.c1
      obtain ⟨v, hcell, htx⟩ := HS.out.cell
      have sv : wr.cell? ⟨w.heap.size + 1, 0, none⟩ = some v := by simp [World.cell?, hcell]
      have svz : wr.frozen? ⟨w.heap.size + 1, 0, none⟩ = false := by simp [World.frozen?, hcell]
      have hscl := (Array.getElem?_eq_some_iff.1 hcell).1
      have hxl := hTx.lt
      have hTk : T[k]? = some x.text := by rw [HTT.out, List.getElem?_map, hx]; rfl
      have hstep := twice_step hTk
      rw [HR.out] at hstep
      have htl : (T.take k).length = k := by rw [List.length_take, HTT.out, List.length_map, ← HQ1.out]; omega
      have htk : T.take k ++ [x.text] = T.take (k + 1) := by
        obtain ⟨hkl, hke⟩ := List.getElem?_eq_some_iff.1 hTk
        rw [List.take_succ_eq_append_getElem hkl, hke]
      obtain ⟨pv, nv, cv, rfl⟩ := htx.slice
      obtain ⟨tx, htxx⟩ : ∃ t, t = x.text := ⟨_, rfl⟩
      rw [← htxx] at c1 hstep htk
      obtain ⟨l, hl⟩ : ∃ l, l = T.take k := ⟨_, rfl⟩
      rw [← hl] at htx hstep htl htk
      have HC := Lib.hid (contains_texts (w := wr.drew) (ownsRow_block htx fun k _ => rfl) tx)
      obtain ⟨cb, hcb⟩ : ∃ b, b = Lib.containsS l tx := ⟨_, rfl⟩
      rw [← hcb] at HC hstep
      have TX := Lib.hid htx
      have HCELL := Lib.hid hcell
      have STEP := Lib.hid hstep
      have HTK := Lib.hid htk
      have HBE := Lib.hid HS.out.bel
      have hszl : l.length < 1099511627776 := by omega
      clear hTx hcell htx hTk hstep htk htxx hl hcb hx
      go_wp2_with fail
      refine wp_region_plan [(true, 0), (true, 1), (true, 2), (true, 3), (true, 4)] [5] (fun W => W.cell? ⟨w.heap.size + 1, 0, none⟩ = some (.slice pv nv cv) ∧ W.cell? ⟨x.b, 1, none⟩ = some (.string tx)) (by kernel_rfl) (by kernel_rfl) (fun _ _ d _ _ h => by cases d <;> exact h) ⟨sv, c1⟩ (fun hS0 => ?_)
      simp only [planOps, List.filterMap_cons, List.filterMap_nil, List.getElem?_toArray, List.getElem?_cons_zero, List.getElem?_cons_succ, Option.map_some]
      iterate 5
        first
          | (refine wpPlan_take ?_ (by rfl) (fun w' hS' => ?_) ?_; rotate_left; (obtain ⟨s0, s1⟩ := hS'; go_simp; first | done | with_reducible rfl); simp only [Act.put, List.setIfInBounds_toArray, List.set_cons_zero, List.set_cons_succ])
          | (refine wpPlan_skip (by rfl) ?_; simp only [Act.put, List.setIfInBounds_toArray, List.set_cons_zero, List.set_cons_succ])
      refine wpPlan_end ?_
      go_wp2_with fail
      refine HC.out.mono ?_
      rintro e w' ⟨rfl, hww⟩
      rw [hww]
      clear hww w' HC
      cases cb
      · have sv' : wr.drew.cell? ⟨w.heap.size + 1, 0, none⟩ = some (.slice pv nv cv) := sv
        have c1' : wr.drew.cell? ⟨x.b, 1, none⟩ = some (.string tx) := c1
        have svz' : wr.drew.frozen? ⟨w.heap.size + 1, 0, none⟩ = false := svz
        go_wp2_with fail
        refine wp_region_plan [(true, 0), (true, 1), (true, 2), (true, 3), (true, 4), (false, 5)] [6, 7] (fun W => W.cell? ⟨w.heap.size + 1, 0, none⟩ = some (.slice pv nv cv) ∧ W.cell? ⟨x.b, 1, none⟩ = some (.string tx)) (by kernel_rfl) (by kernel_rfl) (fun _ _ d _ _ h => by cases d <;> exact h) ⟨sv', c1'⟩ (fun hS0 => ?_)
        simp only [planOps, List.filterMap_cons, List.filterMap_nil, List.getElem?_toArray, List.getElem?_cons_zero, List.getElem?_cons_succ, Option.map_some]
        iterate 5
          first
            | (refine wpPlan_take ?_ (by rfl) (fun w' hS' => ?_) ?_; rotate_left; (obtain ⟨s0, s1⟩ := hS'; go_simp; first | done | with_reducible rfl); simp only [Act.put, List.setIfInBounds_toArray, List.set_cons_zero, List.set_cons_succ])
            | (refine wpPlan_skip (by rfl) ?_; simp only [Act.put, List.setIfInBounds_toArray, List.set_cons_zero, List.set_cons_succ])
        refine wpPlan_go (fun K hK => ?_)
        go_simp
        refine hK _ _ ⟨(cell_old (by show w.heap.size + 1 < _; exact hscl)).trans sv', (cell_old (by show x.b < _; exact hxl)).trans c1'⟩ ?_
        clear hK K
        refine wpPlan_end ?_
        have svq : (wr.alloc (.cells #[.string tx] 9)).drew.drew.frozen? ⟨w.heap.size + 1, 0, none⟩ = false := (frozen_old (by show w.heap.size + 1 < _; exact hscl)).trans svz
        have TX2 := TX
        unfold Texts at TX2
        have htd : (wr.alloc (.cells #[.string tx] 9)).drew.drew.ownsRow (w.heap.size + 1 + 1) 9 1 (.slice pv nv cv) l.length (l.map Value.string) := ownsRow_block (TX2.out.alloc _) fun k _ => rfl
        have HTD := Lib.hid htd
        clear htd
        refine wpList_append_lies _ rfl (.tmp 29) (.tmp 34) 45 rfl (w.heap.size + 1 + 1) 9 i0 (.string ByteArray.empty) 1 16 Tryz.underlying45 hi hz0 hz1 hz2 rfl (by decide) (.slice pv nv cv) l.length (l.map Value.string) rfl HTD.out ⟨wr.heap.size, 0, none⟩ 1 1 [.string tx] rfl rfl (fun j u hu => cell_one_new wr _ _ j u hu) (by intro u hu; simp at hu; subst hu; rfl) (by decide) (by unfold maxLen; omega) (by omega) (by simp; omega) (wr.heap.size + 1) (by simp) ?_
        intro g cap w3 hown2 hgrow2 hat2 hgl2
        have HG := Lib.hid hgrow2
        have HW := Lib.hid hown2
        have hne : (Value.slice pv nv cv).ownBlock ≠ some (w.heap.size + 1) := fun e => by have := (World.ownsRow.lt TX.out _ e).1; omega
        have sz3 : w3.frozen? ⟨w.heap.size + 1, 0, none⟩ = false := (hgrow2.frozen_far ⟨w.heap.size + 1, 0, none⟩ (by simp; omega) (fun e => hne e.symm)).trans svq
        have cz3 : w3.cell? ⟨w.heap.size + 1, 0, none⟩ = some (.slice pv nv cv) := (hgrow2.cell_far ⟨w.heap.size + 1, 0, none⟩ (by simp; omega) (fun e => hne e.symm)).trans ((cell_old (w := wr) (by show w.heap.size + 1 < _; exact hscl)).trans sv)
        clear hgrow2 hown2 hat2 hgl2 hne svq
        simp only [Act.put, List.setIfInBounds_toArray, List.set_cons_zero, List.set_cons_succ]
        go_wp2
        have hpush := SInv.push HCELL.out TX.out HBE.out (by omega) (((Below.refl wr.heap.size wr).alloc (Nat.le_refl _) (.cells #[.string tx] 9)).drew.drew) HG.out HW.out
        rw [HTK.out, htl] at hpush
        have HPUSH := Lib.hid hpush
        clear hpush
        go_roundw
        case rel =>
          refine ⟨k + 1, by omega, by go_num, Lib.hid HPUSH.out.1, Lib.hid (NO.out.off HCELL.out TX.out HPUSH.out.2), Lib.hid ?_⟩
          have h1 := STEP.out
          simp only [Bool.false_or] at h1
          exact h1.symm
        case measure => simp [intOf]; omega
      · go_wp2
        go_ret
        refine ⟨?_, HBE.out.drew⟩
        have h1 := STEP.out
        simp only [Bool.true_or] at h1
        rw [HSC.out, h1]
        rfl
    · have hk2 : k = q := by omega
      subst hk2
      have hTl : T.length = k := by rw [HTT.out, List.length_map, ← HQ1.out]
      have hs1 : SInv w (w.heap.size + 1) T wr := by
        have := HS.out
        rwa [List.take_of_length_le (by omega)] at this
      have hr1 : R1 = false := by
        have := HR.out
        rw [List.take_of_length_le (by omega), List.drop_of_length_le (by omega)] at this
        rw [← this]
        rfl
      subst hr1
      have HS1 := Lib.hid hs1
      clear hs1 HS NO HR HR1 hTl
      go_wp2_with fail
      refine (HV.out _ (HT.out.bel HS1.out.bel)).mono ?_
      rintro e w4 ⟨vv, rfl, ht4, hb4, hvl⟩
      obtain ⟨pv, cpv, rfl, hgv, hmv, hpv⟩ := ht4.form2
      have hs4 := HS1.out.on hb4
      have HS4 := Lib.hid hs4
      have HT4 := Lib.hid ht4
      obtain ⟨zv, hzv⟩ : ∃ z, z = wr.heap.size := ⟨_, rfl⟩
      rw [← hzv] at HT4
      clear ht4 hb4 hs4 HS1 HV hzv
      go_wp2_with fail
      refine (HFU.out _ (HT.out.bel HS4.out.bel)).mono ?_
      rintro e w5 ⟨v5, rfl, hn5, hb5⟩
      obtain ⟨p5, cp5, rfl, hge5, hmx5, hpp5⟩ := hn5.slice
      have HS5 := Lib.hid (HS4.out.on hb5)
      have HT5 := Lib.hid (HT4.out.bel hb5)
      have N5 := Lib.hid hn5
      have HPP5 := Lib.hid hpp5
      obtain ⟨zf, hzf⟩ : ∃ z, z = w4.heap.size := ⟨_, rfl⟩
      rw [← hzf] at N5
      obtain ⟨m, hm1⟩ : ∃ m, m = Q.length := ⟨_, rfl⟩
      have hmq : m ≤ 9223372036854775807 := by unfold maxLen at hmx5; omega
      rw [← hm1] at hge5 N5 hfu ⊢
      have HM1 := Lib.hid hm1
      have HPV := Lib.hid hpv
      obtain ⟨nV, hnV⟩ : ∃ n, n = V.length := ⟨_, rfl⟩
      rw [← hnV] at hgv HT5 hvl ⊢
      have HNV := Lib.hid hnV
      clear hn5 hb5 hpp5 hzf hm1 hpv HS4 HT4 hnV
      go_wp2_with fail
      go_loopw [42] (fun i wr => ∃ (k : Nat), k ≤ m ∧ i = .int .i64 k ∧ Hid (SInv w (w.heap.size + 1) T wr) ∧ Hid (Texts wr zv (.slice pv nV cpv) V) ∧ Hid (Nodes wr zf (.slice p5 m cp5) Q) ∧ Hid (funcsF T V body ((Q.map ATree.text).take k) ((Q.map ATree.text).drop k) = R2)) (fun i _ => m - (intOf i).toNat)
      case atStart => exact ⟨0, Nat.zero_le _, rfl, HS5, HT5, N5, Lib.hid HR2.out.symm⟩
      case round =>
        obtain ⟨k, hk, rfl, HS, TV, NO, HR⟩ := hrel
        clear HS5 HT5 N5
        by_cases hkn : k < m
        · obtain ⟨x, hx⟩ : ∃ x, Q[k]? = some x := ⟨_, List.getElem?_eq_getElem (by rw [← HM1.out]; exact hkn)⟩
          obtain ⟨g0, hp⟩ := HPP5.out k x hx
          subst hp
          have cx := NO.out.cell rfl hx
          have hTx := (HT.out.bel HS.out.bel).kid (HFK.out x (List.mem_of_getElem? hx))
          have c1 := hTx.c1
          obtain ⟨v, hcell, htx⟩ := HS.out.cell
          have sv : wr.cell? ⟨w.heap.size + 1, 0, none⟩ = some v := by simp [World.cell?, hcell]
          have hscl := (Array.getElem?_eq_some_iff.1 hcell).1
          have hxl := hTx.lt
          have hTk : (Q.map ATree.text)[k]? = some x.text := by rw [List.getElem?_map, hx]; rfl
          have hstep := funcs_step (L := T) (V := V) (b := body) hTk
          rw [HR.out] at hstep
          obtain ⟨ps, ns, cs, rfl⟩ := htx.slice
          obtain ⟨tx, htxx⟩ : ∃ t, t = x.text := ⟨_, rfl⟩
          rw [← htxx] at c1 hstep
          have hba : Below wr.heap.size wr (wr.alloc (.cells #[.pointer (some ⟨x.b, 0, none⟩)] 22)) := (Below.refl _ _).alloc (Nat.le_refl _) _
          have HC := Lib.hid (contains_texts (w := (wr.alloc (.cells #[.pointer (some ⟨x.b, 0, none⟩)] 22)).drew) (htx.bel hba.drew) tx)
          obtain ⟨cb, hcb⟩ : ∃ b, b = Lib.containsS T tx := ⟨_, rfl⟩
          rw [← hcb] at HC hstep
          have hagain : ((Q.map ATree.text).take k).any (fun o => sameS o tx) = (Q.take k).any (fun o => sameS o.text tx) := by
            rw [← List.map_take, List.any_map]
            rfl
          rw [hagain] at hstep
          have STEP := Lib.hid hstep
          have TX := Lib.hid htx
          have HBA := Lib.hid hba
          have HTX := Lib.hid hTx
          have HTXX := Lib.hid htxx
          have HX := Lib.hid hx
          have sva : (wr.alloc (.cells #[.pointer (some ⟨x.b, 0, none⟩)] 22)).cell? ⟨w.heap.size + 1, 0, none⟩ = some (.slice ps ns cs) := (cell_old (by show w.heap.size + 1 < _; exact hscl)).trans sv
          have c1a : (wr.alloc (.cells #[.pointer (some ⟨x.b, 0, none⟩)] 22)).cell? ⟨x.b, 1, none⟩ = some (.string tx) := (cell_old (by show x.b < _; exact hxl)).trans c1
          have cka : (wr.alloc (.cells #[.pointer (some ⟨x.b, 0, none⟩)] 22)).cell? ⟨wr.heap.size, 0, none⟩ = some (.pointer (some ⟨x.b, 0, none⟩)) := by simp
          clear hTx hcell htx hTk hstep htxx hcb hx hagain hba
          go_wp2_with fail
          refine wp_region_plan [(true, 0), (true, 1), (true, 2), (true, 3), (true, 4)] [5] (fun W => W.cell? ⟨w.heap.size + 1, 0, none⟩ = some (.slice ps ns cs) ∧ W.cell? ⟨wr.heap.size, 0, none⟩ = some (.pointer (some ⟨x.b, 0, none⟩)) ∧ W.cell? ⟨x.b, 1, none⟩ = some (.string tx)) (by kernel_rfl) (by kernel_rfl) (fun _ _ d _ _ h => by cases d <;> exact h) ⟨sva, cka, c1a⟩ (fun hS0 => ?_)
          simp only [planOps, List.filterMap_cons, List.filterMap_nil, List.getElem?_toArray, List.getElem?_cons_zero, List.getElem?_cons_succ, Option.map_some]
          iterate 5
            first
              | (refine wpPlan_take ?_ (by rfl) (fun w' hS' => ?_) ?_; rotate_left; (obtain ⟨s0, s1, s2⟩ := hS'; go_simp; first | done | with_reducible rfl); simp only [Act.put, List.setIfInBounds_toArray, List.set_cons_zero, List.set_cons_succ])
              | (refine wpPlan_skip (by rfl) ?_; simp only [Act.put, List.setIfInBounds_toArray, List.set_cons_zero, List.set_cons_succ])
          refine wpPlan_end ?_
          go_wp2_with fail
          refine HC.out.mono ?_
          rintro e w' ⟨rfl, hww⟩
          rw [hww]
          clear hww w' HC
          cases cb
          · have HT6 := Lib.hid (HT.out.bel ((HS.out.on HBA.out.drew).bel))
            go_wp2_with fail
            refine (HFU.out _ HT6.out).mono ?_
            rintro e w6 ⟨v6, rfl, hn6, hb6⟩
            obtain ⟨p6, cp6, rfl, hge6, hmx6, hpp6⟩ := hn6.slice
            obtain ⟨g6, rfl⟩ := hpp6 k x HX.out
            rw [← HM1.out] at hge6 ⊢
            have hb7 : Below wr.heap.size wr w6 := HBA.out.drew.trans (hb6.mono HBA.out.drew.size)
            have HS6 := Lib.hid (HS.out.on hb7)
            have TV6 := Lib.hid (TV.out.bel hb7)
            have NO6 := Lib.hid (NO.out.bel hb7)
            have HB7 := Lib.hid hb7
            have c16 : w6.cell? ⟨x.b, 1, none⟩ = some (.string tx) := (World.cell?_of_block (hb7.block x.b hxl)).trans c1
            have cck : w6.cell? ⟨wr.heap.size, 0, none⟩ = some (.pointer (some ⟨x.b, 0, none⟩)) := (World.cell?_of_block (hb6.block wr.heap.size (by show wr.heap.size < (wr.alloc _).heap.size; simp))).trans cka
            have hlk : (Q.take k).length = k := by rw [List.length_take, ← HM1.out]; omega
            have hgl6 := (World.ownsRow.lt hn6 g6 rfl).2
            have hxw : TreeAt w6 B x := HTX.out.bel hb7
            have hckl : wr.heap.size < w6.heap.size := by
              have := hb6.size
              have h2 : (wr.alloc (.cells #[.pointer (some ⟨x.b, 0, none⟩)] 22)).drew.heap.size = wr.heap.size + 1 := by simp
              omega
            have han := any_s1 ⟨wr.heap.size, 0, none⟩ ATree.ptr (fun o => sameS o.text tx) (Below w6.heap.size w6) (some ⟨g6, 0, none⟩) cp6 (Q.take k) w6 (by omega) (by omega)
              (fun i y hy => ⟨g6, 0, rfl, fun w1 h => by
                rw [Nat.zero_add]
                have hq : Q[i]? = some y := by
                  rw [List.getElem?_take] at hy
                  split at hy
                  · exact hy
                  · cases hy
                exact (World.cell?_of_block (h.block g6 hgl6)).trans (hn6.cell rfl hq)⟩)
              (fun y hy w1 h => by
                have hyQ : y ∈ Q := List.mem_of_mem_take hy
                have hyw : TreeAt w1 B y := ((HT.out.bel HS6.out.bel).kid (HFK.out y hyQ)).bel h
                rw [HTXX.out]
                exact (scope1_any w1 B wr.heap.size y x hyw (hxw.bel h) ((World.cell?_of_block (h.block wr.heap.size hckl)).trans cck)).mono fun e w2 ⟨h1, h2⟩ => ⟨h1, h.trans (h2.mono h.size)⟩)
              (Below.refl _ _)
            rw [hlk] at han
            have HAN := Lib.hid han
            obtain ⟨ag, hag⟩ : ∃ b, b = (Q.take k).any (fun o => sameS o.text tx) := ⟨_, rfl⟩
            rw [← hag] at HAN STEP
            have hkm : k ≤ cp6 := by omega
            have hkmI : (k : Int) ≤ (cp6 : Int) := by omega
            have hkmI2 : (k : Int) ≤ (m : Int) := by omega
            unfold maxLen at hmx6
            clear hn6 hb6 hpp6 han hag hlk hxw hb7
            go_wp2_with fail
            refine HAN.out.mono ?_
            rintro e w7 ⟨rfl, hb8⟩
            have HS7 := Lib.hid (HS6.out.on hb8)
            have TV7 := Lib.hid (TV6.out.bel hb8)
            have NO7 := Lib.hid (NO6.out.bel hb8)
            have hxl6 : x.b < w6.heap.size := Nat.lt_of_lt_of_le hxl HB7.out.size
            have c17 : w7.cell? ⟨x.b, 1, none⟩ = some (.string tx) := (World.cell?_of_block (hb8.block x.b hxl6)).trans c16
            have ck7 : w7.cell? ⟨wr.heap.size, 0, none⟩ = some (.pointer (some ⟨x.b, 0, none⟩)) := (World.cell?_of_block (hb8.block wr.heap.size hckl)).trans cck
            clear hb8 HAN HS6 TV6 NO6 HS TV NO c16 cck c1 cka c1a sva sv
            cases body
            · cases ag
              · have HCV := Lib.hid (contains_texts TV7.out tx)
                obtain ⟨cv2, hcv2⟩ : ∃ b, b = Lib.containsS V tx := ⟨_, rfl⟩
                rw [← hcv2] at HCV STEP
                clear hcv2
                go_wp2_with fail
                refine HCV.out.mono ?_
                rintro e w' ⟨rfl, hww⟩
                rw [hww]
                clear hww w' HCV
                cases cv2
                · go_wp2
                  go_roundw
                  case rel =>
                    have h1 := STEP.out
                    simp only [Bool.not_false, Bool.true_and, Bool.or_self, Bool.false_or] at h1
                    exact ⟨k + 1, by omega, by go_num, HS7, TV7, NO7, Lib.hid h1.symm⟩
                  case measure => simp [intOf]; omega
                · go_wp2
                  go_ret
                  refine ⟨?_, HS7.out.bel⟩
                  have h1 := STEP.out
                  simp only [Bool.not_false, Bool.true_and, Bool.or_true, Bool.true_or] at h1
                  rw [HSC.out, h1]
                  rfl
              · go_wp2
                go_ret
                refine ⟨?_, HS7.out.bel⟩
                have h1 := STEP.out
                simp only [Bool.not_false, Bool.true_and, Bool.or_true, Bool.true_or] at h1
                rw [HSC.out, h1]
                rfl
            · go_wp2
              go_roundw
              case rel =>
                have h1 := STEP.out
                simp only [Bool.not_true, Bool.false_and, Bool.or_self, Bool.false_or] at h1
                exact ⟨k + 1, by omega, by go_num, HS7, TV7, NO7, Lib.hid h1.symm⟩
              case measure => simp [intOf]; omega
          · go_wp2
            go_ret
            refine ⟨?_, (HS.out.on HBA.out.drew).bel⟩
            have h1 := STEP.out
            simp only [Bool.true_or] at h1
            rw [HSC.out, h1]
            rfl
        · have hk2 : k = m := by omega
          subst hk2
          have hr2 : R2 = false := by
            have := HR.out
            have hl : (Q.map ATree.text).length = k := by rw [List.length_map, ← HM1.out]
            rw [List.take_of_length_le (by omega), List.drop_of_length_le (by omega)] at this
            rw [← this]
            rfl
          subst hr2
          obtain ⟨v, hcell, htx⟩ := HS.out.cell
          have sv : wr.cell? ⟨w.heap.size + 1, 0, none⟩ = some v := by simp [World.cell?, hcell]
          have hscl := (Array.getElem?_eq_some_iff.1 hcell).1
          have hgt : ∀ g, pv = some ⟨g, 0, none⟩ → g < wr.heap.size := fun g h => (World.ownsRow.lt TV.out g (by rw [h]; rfl)).2
          have han := any_s2 ⟨w.heap.size + 1, 0, none⟩ Value.string (fun s => Lib.containsS T s) (Below wr.heap.size wr) pv cpv V wr (by unfold maxLen at hmv; rw [← HNV.out]; omega) (by rw [← HNV.out]; exact hgv)
            (fun i y hy => by
              obtain ⟨g, hg⟩ := HPV.out i y hy
              refine ⟨g, 0, hg, fun w1 h => ?_⟩
              rw [Nat.zero_add]
              exact (World.cell?_of_block (h.block g (hgt g hg))).trans (TV.out.cells (by rw [hg]; rfl) hy))
            (fun y hy w1 h => (scope2_any w1 (w.heap.size + 1 + 1) (w.heap.size + 1) v T y (htx.bel h) ((World.cell?_of_block (h.block _ hscl)).trans sv)).mono fun e w2 ⟨h1, h2⟩ => ⟨h1, by rw [h2]; exact h⟩)
            (Below.refl _ _)
          rw [← HNV.out] at han
          have HAN := Lib.hid han
          obtain ⟨r3, hr3⟩ : ∃ b, b = V.any (fun s => Lib.containsS T s) := ⟨_, rfl⟩
          rw [← hr3] at HAN HSC
          have HBE := Lib.hid HS.out.bel
          clear hcell htx han hr3 hgt HS TV NO HR HR2
          go_wp2_with fail
          refine HAN.out.mono ?_
          rintro e w7 ⟨rfl, hb8⟩
          have HB8 := Lib.hid (HBE.out.trans (hb8.mono HBE.out.size))
          clear hb8 HAN
          cases r3
          · go_wp2
            go_ret
            exact ⟨by rw [HSC.out]; rfl, HB8.out⟩
          · go_wp2
            go_ret
            exact ⟨by rw [HSC.out]; rfl, HB8.out⟩
end Go.Proofs.YtgifgiipojedbaaGreatDoor
