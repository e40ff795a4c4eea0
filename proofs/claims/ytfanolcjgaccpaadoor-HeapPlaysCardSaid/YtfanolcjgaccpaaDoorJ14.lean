/- Walks of the reference's heap that change it: Declare. Walks of the reference's heap: Keys, Read. Walks of the reference's heap that change it: Start, Write. -/
import Derived.Test.YtfanolcjgaccpaaDoorJ13
import Derived.Test.YtfanolcjgaccpaaDoorJ08
namespace Go.Proofs.YtfanolcjgaccpaaDoor
open Go Go.RowKit
set_option maxRecDepth 100000
set_option linter.unusedVariables false

theorem Tryd.infoRCell : (Tryd.prog.info? 98).map (fun i => (i.zero, i.size, i.bytes)) = some (some (.agg #[.string ⟨#[]⟩, .int .i64 0, .int .i64 0, .bool false]), 4, 40) := by kernel_rfl

section
variable {w : World} {rb : Nat} {V : RV} {H : LHeap}

set_option maxHeartbeats 3200000 in
theorem rdeclare_any (h : RAt w rb V H) (n : Int) (name : ByteArray) (kind : Int) (v : LVal) (hlen : ∀ (m : Nat) (s : LScope), H.scopes[m]? = some s → s.names.length < 1099511627776) :
    Calls Tryd.prog 13 #[.pointer (some ⟨rb, 0, none⟩), .int .i64 n, .string name, .int .i64 kind, .int .i64 v.n] w fun e w' => e = .returned (.int .i64 (H.declare n name kind v).2) ∧
      ∃ V', RAt w' rb V' (H.declare n name kind v).1 ∧ RFr V V' rb w w' := by
  obtain ⟨vk, vn, vs⟩ := v
  dsimp only
  have HC := Lib.hid (room_any h n)
  rcases hob : H.scope? n with _ | s
  · rw [hob] at HC
    have hd : H.declare n name kind ⟨vk, vn, vs⟩ = (H, 7) := by simp [LHeap.declare, hob]
    rw [hd]
    have HH := Lib.hid h
    clear h hob hlen hd
    go_enter Tryd.func13, Tryd.ntmps13
    go_wp2_with fail
    refine HC.out.mono ?_
    rintro e w1 ⟨rfl, rfl⟩
    go_wp2
    go_ret
    exact ⟨rfl, V, HH.out, RFr.refl _ _ _⟩
  · rw [hob] at HC
    obtain ⟨m, rfl, hm⟩ := LHeap.scope?_some hob
    have hln := hlen m s hm
    obtain ⟨g, c, d0, hvr, d1, d2, d3, d4, d5, d6⟩ := h.roomAt hm
    by_cases hso : 0 ≤ s.object
    · have hd : H.declare m name kind ⟨vk, vn, vs⟩ = (H, 1) := by simp only [LHeap.declare, hob, if_pos hso]
      rw [hd]
      have hn0 : decide (0 ≤ s.object) = true := by simpa using hso
      have HH := Lib.hid h
      generalize s.object = oo at *
      generalize H.scopes.length = q at *
      clear h hob hlen hd hm d6 hvr
      go_enter Tryd.func13, Tryd.ntmps13
      go_wp2_with fail
      refine HC.out.mono ?_
      rintro e w1 ⟨rfl, rfl⟩
      go_wp2
      go_ret
      exact ⟨rfl, V, HH.out, RFr.refl _ _ _⟩
    · have hn0 : decide (0 ≤ s.object) = false := by simpa using hso
      have HD := rhas_any h (m : Int) name
      cases hq : H.has (m : Int) name with
      | true =>
        rw [hq] at HD
        have hd : H.declare m name kind ⟨vk, vn, vs⟩ = (H, 9) := by simp only [LHeap.declare, hob, if_neg hso, hq, if_true]
        rw [hd]
        have HD := Lib.hid HD
        have HH := Lib.hid h
        generalize s.object = oo at *
        generalize H.scopes.length = q at *
        clear h hob hlen hd hm d6 hvr hq
        go_enter Tryd.func13, Tryd.ntmps13
        go_wp2_with fail
        refine HC.out.mono ?_
        rintro e w1 ⟨rfl, rfl⟩
        go_wp2_with fail
        refine HD.out.mono ?_
        rintro e w1 ⟨rfl, hB⟩
        have HB := Lib.hid hB
        clear hB
        go_wp2
        go_ret
        exact ⟨rfl, V, HH.out.below HB.out, RFr.of_below HB.out⟩
      | false =>
        rw [hq] at HD
        obtain ⟨rd, hrd⟩ : ∃ rd, rd = (!decide (kind = 1) && !decide (kind = 2)) := ⟨_, rfl⟩
        have hd : H.declare m name kind ⟨vk, vn, vs⟩ = ({ H with scopes := H.scopes.set m { s with names := s.names ++ [⟨name, ⟨vk, vn, vs⟩, kind, rd⟩] } }, 0) := by
          simp only [LHeap.declare, hob, if_neg hso, hq, Bool.false_eq_true, if_false, Int.toNat_natCast, hrd]
        rw [hd]
        have hk : (((kind : Int) != 1) = false ∧ rd = false) ∨ (((kind : Int) != 1) = true ∧ ((kind : Int) != 2) = false ∧ rd = false) ∨ (((kind : Int) != 1) = true ∧ ((kind : Int) != 2) = true ∧ rd = true) := by
          subst hrd
          by_cases k1 : kind = 1
          · simp [k1]
          · by_cases k2 : kind = 2
            · simp [k2]
            · simp [k1, k2]
        obtain ⟨i0, hi, hz0, hz1, hz2⟩ := info_parts Tryd.infoRCell
        have HD := Lib.hid HD
        have HH := Lib.hid h
        have HM := Lib.hid hm
        have HVR := Lib.hid hvr
        obtain ⟨oo, hoo⟩ : ∃ v, v = s.object := ⟨_, rfl⟩
        rw [← hoo] at d5 hn0
        have hrb := h.rbLt
        clear h hob hlen hd hm hvr hq d6 hoo hso hrd
        rcases hk with ⟨k1, rfl⟩ | ⟨k1, k2, rfl⟩ | ⟨k1, k2, rfl⟩ <;>
        · go_enter Tryd.func13, Tryd.ntmps13
          go_wp2_with fail
          refine HC.out.mono ?_
          rintro e w1 ⟨rfl, rfl⟩
          go_wp2_with fail
          refine HD.out.mono ?_
          rintro e w1 ⟨rfl, hB⟩
          have h1 := HH.out.below hB
          obtain ⟨_, _, t0, hvr1, _, _, _, _, _, t6⟩ := h1.roomAt HM.out
          have hvq := HVR.out.symm.trans hvr1
          simp only [Value.slice.injEq, Option.some.injEq, Addr.mk.injEq, and_true, true_and] at hvq
          obtain ⟨rfl, rfl⟩ := hvq
          have hown := h1.cel m s HM.out
          obtain ⟨a1, c1, hv, ha⟩ := ownsRow_any hown
          have hfp := ownsRow_frozen h1.rowR (g := g) (by rw [hvr1]; rfl) (m * 3 + 2)
          have hgpl : g < w1.heap.size := h1.live (.inr ⟨.roms, by show V.vr.ownBlock = _; rw [hvr1]; rfl⟩)
          have hrb1 := h1.rbLt
          have hngp : (V.row (.cel m)).ownBlock ≠ some g := fun e => absurd (h1.apart (.cel m) .roms g e (by show V.vr.ownBlock = _; rw [hvr1]; rfl)) (by simp)
          have hnrb := h1.off (.cel m)
          rw [hv] at t6
          obtain ⟨n, hn⟩ : ∃ n, n = s.names.length := ⟨_, rfl⟩
          rw [← hn] at hln ha t6 hown hv
          obtain ⟨rv, hrv⟩ : ∃ v, v = V.row (.cel m) := ⟨_, rfl⟩
          rw [← hrv] at hown hv hnrb hngp
          obtain ⟨q, hqq⟩ : ∃ v, v = H.scopes.length := ⟨_, rfl⟩
          rw [← hqq] at t0 hvr1 d0 d1 d3
          have HH1 := Lib.hid h1
          have HB := Lib.hid hB
          have HN := Lib.hid hn
          have HRV := Lib.hid hrv
          have HQ := Lib.hid hqq
          have HVP := Lib.hid hvr1
          have HV := Lib.hid hv
          have HO := Lib.hid hown
          have HNG := Lib.hid hngp
          have HNR := Lib.hid hnrb
          clear h1 hB hn hrv hqq hvr1 hv hown hngp hnrb ha HVR
          go_wp2_with fail
          refine wp_region_plan [(true, 0), (true, 1), (true, 2), (true, 3), (true, 4), (true, 5), (true, 6), (true, 7), (true, 8), (true, 9), (true, 10), (true, 11), (true, 12), (true, 13), (true, 14), (true, 15), (true, 16), (true, 17), (true, 18), (true, 19), (true, 20), (true, 21), (true, 22), (false, 23), (false, 24)] [25, 26, 27] (fun W => W.cell? ⟨rb, 2, none⟩ = some (.slice (some ⟨g, 0, none⟩) q c) ∧ W.cell? ⟨g, m * 3 + 2, none⟩ = some (.slice a1 n c1)) (by kernel_rfl) (by kernel_rfl) (fun _ _ d _ _ h => by cases d <;> exact h) ⟨t0, t6⟩ (fun hS0 => ?_)
          simp only [planOps, List.filterMap_cons, List.filterMap_nil, List.getElem?_toArray, List.getElem?_cons_zero, List.getElem?_cons_succ, Option.map_some]
          iterate 23
            first
              | (refine wpPlan_take ?_ (by rfl) (fun w' hS' => ?_) ?_; rotate_left; (obtain ⟨s0, s1⟩ := hS'; go_simp; first | done | with_reducible rfl); simp only [Act.put, List.setIfInBounds_toArray, List.set_cons_zero, List.set_cons_succ])
              | (refine wpPlan_skip (by rfl) ?_; simp only [Act.put, List.setIfInBounds_toArray, List.set_cons_zero, List.set_cons_succ])
          refine wpPlan_go (fun K hK => ?_)
          go_simp
          refine hK _ _ ⟨(cell_old hrb1).trans t0, (cell_old hgpl).trans t6⟩ ?_
          clear hK K
          refine wpPlan_go (fun K hK => ?_)
          refine step_append_lies _ (by rfl) (.tmp 43) (.tmp 54) 40 (by rfl) 0 98 i0 _ 4 40 Tryd.underlying40 hi hz0 hz1 hz2 rfl (by decide) rv n (s.names.flatMap LBind.rcells) (by rw [HV.out]; rfl) ((HO.out.alloc _).drew) ⟨w1.heap.size, 0, none⟩ 1 1 (LBind.rcells ⟨name, ⟨vk, vn, vs⟩, kind, _⟩) (by rfl) rfl (World.news_of_block (cs := (LBind.rcells ⟨name, ⟨vk, vn, vs⟩, kind, _⟩).toArray) (t := 98) (fr := (0, 0)) (heap_alloc_new w1 _)) (by simp [LBind.rcells, Value.oneCell']) (by decide) (by unfold maxLen; omega) (by omega) (by omega) (w1.heap.size + 1) (by simp) ?_
          intro gg cap w2 hown2 hgrow2 hat2 hlt2
          have far2 : ∀ b o, b < w1.heap.size → rv.ownBlock ≠ some b → w2.cell? ⟨b, o, none⟩ = w1.cell? ⟨b, o, none⟩ := fun b o hb1 hb2 => (hgrow2.cell_far ⟨b, o, none⟩ (by simp; omega) (fun e => hb2 e.symm)).trans (cell_old hb1)
          have fz2 : w2.frozen? ⟨g, m * 3 + 2, none⟩ = false := (hgrow2.frozen_far ⟨g, m * 3 + 2, none⟩ (by simp; omega) (fun e => HNG.out e.symm)).trans ((frozen_old hgpl).trans hfp)
          have u0 := (far2 _ 2 hrb1 HNR.out).trans t0
          have u4 := (far2 _ (m * 3 + 2) hgpl HNG.out).trans t6
          refine hK _ _ ⟨u0, u4⟩ ?_
          clear hK K
          simp only [Act.put, List.setIfInBounds_toArray, List.set_cons_zero, List.set_cons_succ]
          have HG := Lib.hid hgrow2
          have HW := Lib.hid hown2
          have HT := Lib.hid hat2
          clear hgrow2 hown2 hat2 hlt2 far2
          refine wpPlan_end ?_
          go_wp2
          go_ret
          have hn := HN.out
          subst hn
          refine ⟨rfl, ?_⟩
          have hrv := HRV.out
          subst hrv
          have hq := HQ.out
          subst hq
          obtain ⟨V', hA, hF⟩ := HH1.out.pushCell (b := ⟨name, ⟨vk, vn, vs⟩, kind, _⟩) HM.out HVP.out (((Below.refl _ _).alloc (Nat.le_refl _) _).drew) HG.out HW.out (HT.out.imp id (fun e => by omega))
          exact ⟨V', hA, (RFr.of_below HB.out).trans hF⟩
end
end Go.Proofs.YtfanolcjgaccpaaDoor

namespace Go.Proofs.YtfanolcjgaccpaaDoor
open Go Go.RowKit
set_option maxRecDepth 100000
set_option linter.unusedVariables false

section
variable {w : World} {rb : Nat} {V : RV} {H : LHeap}

set_option maxHeartbeats 1600000 in
theorem rkeys_any (h : RAt w rb V H) (n : Int) (hlen : (H.keys n).length ≤ 1000) (hjl : (joinS (H.keys n) ⟨#[32]⟩).size ≤ 140737488355328) :
    Calls Tryd.prog 33 #[.pointer (some ⟨rb, 0, none⟩), .int .i64 n] w fun e w' => e = .returned (.string (joinS (H.keys n) ⟨#[32]⟩)) ∧ Below w.heap.size w w' := by
  have HC := Lib.hid (robject_any h n)
  have HJ0 := Lib.hid (fun w1 => join_row (w := w1) (l := []) (World.ownsRow_nil w1 0 9 1) ⟨#[32]⟩ (by simp) (by rw [joinS_nil]; decide))
  rcases hob : H.object? n with _ | o
  · rw [hob] at HC
    have hd : H.keys n = [] := by simp [LHeap.keys, hob]
    rw [hd]
    clear h hob hd hlen hjl
    go_enter Tryd.func33, Tryd.ntmps33
    go_wp2_with fail
    refine HC.out.mono ?_
    rintro e w1 ⟨rfl, rfl⟩
    go_wp2_with fail
    refine (HJ0.out _).mono ?_
    rintro e w1 ⟨rfl, hB⟩
    have HB := Lib.hid hB
    clear hB
    go_wp2
    go_ret
    exact ⟨rfl, HB.out⟩
  · rw [hob] at HC
    obtain ⟨m, rfl, hm⟩ := LHeap.object?_some hob
    have hd : H.keys m = o.props.map (·.name) := by simp [LHeap.keys, hob]
    rw [hd] at hlen hjl ⊢
    obtain ⟨g, c, d0, _, d1, d2, d3, d4⟩ := h.objAt hm
    have hown := h.prp m o hm
    generalize H.objects.length = q at *
    generalize o.props = l at *
    obtain ⟨i0, hi, hz0, hz1, hz2⟩ := info_parts Tryd.infoStrK
    rcases ownsRow_cases hown with ⟨hv, hz⟩ | ⟨g1, c1, hv, h1, h2, hg⟩
    · rw [hv] at d4
      have : l = [] := List.eq_nil_of_length_eq_zero hz
      subst this
      clear hown h hob hz hm hv hlen hd hjl
      go_enter Tryd.func33, Tryd.ntmps33
      go_wp2_with fail
      refine HC.out.mono ?_
      rintro e w1 ⟨rfl, rfl⟩
      go_wp2
      go_loop [5, 19] (fun v i => i = .int .i64 0 ∧ v = .slice none 0 0) (fun _ _ => 0)
      case atStart => exact ⟨rfl, rfl⟩
      case round =>
        obtain ⟨rfl, rfl⟩ := hrel
        go_wp2_with fail
        refine (HJ0.out _).mono ?_
        rintro e w1 ⟨rfl, hB⟩
        have HB := Lib.hid hB
        clear hB
        go_wp2
        go_ret
        exact ⟨rfl, HB.out⟩
    · have hrow := fun i j a x => row_cell (f := LProp.rcells) (m := 3) (fun _ => rfl) hown (g := g1) (by rw [hv]; rfl) (i := i) (j := j) (a := a) (x := x)
      rw [hv] at d4
      obtain ⟨n, hn⟩ : ∃ n, n = l.length := ⟨_, rfl⟩
      rw [List.length_map] at hlen
      rw [← hn] at h1 d4 hlen
      unfold maxLen at h2
      have HN := Lib.hid hn
      have HR := Lib.hid hrow
      have HJL := Lib.hid hjl
      clear hn hown h hob hm hrow hv hd hjl
      go_enter Tryd.func33, Tryd.ntmps33
      go_wp2_with fail
      refine HC.out.mono ?_
      rintro e w1 ⟨rfl, rfl⟩
      go_wp2
      go_loopw [5, 7, 19] (fun v _ i wr => ∃ k : Nat, i = .int .i64 k ∧ k ≤ n ∧ Hid (wr.ownsRow w.heap.size 9 1 v k (((l.take k).map (·.name)).map Value.string)) ∧ Hid (Below w.heap.size w wr)) (fun _ _ i _ => n - (intOf i).toNat)
      case atStart => exact ⟨0, rfl, by omega, Lib.hid (World.ownsRow_nil _ _ _ _), Lib.hid (Below.refl _ _)⟩
      case round =>
        obtain ⟨k, rfl, hk, HO, HB⟩ := hrel
        have hB := HB.out
        have hs := hB.size
        by_cases hlt : k < n
        · have hkl : k < l.length := by have := HN.out; omega
          have hget : l[k]? = some l[k] := List.getElem?_eq_getElem hkl
          generalize l[k] = b at hget
          obtain ⟨bn, ⟨bk, bm, bs⟩, brd⟩ := b
          have cc0 : wr.cell? ⟨g1, k * 3, none⟩ = some (.string bn) := (hB.cell (p := ⟨g1, k * 3, none⟩) hg).trans (HR.out k 0 _ _ hget rfl)
          have cc1 : wr.cell? ⟨g1, k * 3 + 1, none⟩ = some (.int .i64 bm) := (hB.cell (p := ⟨g1, k * 3 + 1, none⟩) hg).trans (HR.out k 1 _ _ hget rfl)
          have cc2 : wr.cell? ⟨g1, k * 3 + 2, none⟩ = some (.bool brd) := (hB.cell (p := ⟨g1, k * 3 + 2, none⟩) hg).trans (HR.out k 2 _ _ hget rfl)
          have HG := Lib.hid hget
          have HO1 := HO
          clear hget hB hkl HO
          go_wp2_with (at_builtin; go_must (refine wpList_append_lies _ rfl (.tmp 23) (.tmp 26) 66 rfl w.heap.size 9 i0 (.string ByteArray.empty) 1 16 Tryd.underlying66 hi hz0 hz1 hz2 rfl (by decide) _ k (((l.take k).map (·.name)).map Value.string) rfl ((HO1.out.alloc _).alloc _) ⟨wr.heap.size + 1, 0, none⟩ 1 1 [.string bn] rfl rfl (news1 _ _ _ _) (by intro u hu; simp at hu; subst hu; rfl) (by omega) (by unfold maxLen; omega) (by omega) (by simp; omega) (wr.heap.size + 2) (by simp) ?_); intro g cap w2 hown2 hgrow2 hat2 hgl2; have HG2 := Lib.hid hgrow2; have HW := Lib.hid hown2; clear hgrow2 hown2 hat2 hgl2)
          go_roundw
          case rel =>
            refine ⟨k + 1, by go_num, by omega, Lib.hid ?_, Lib.hid ?_⟩
            · rw [List.take_succ_eq_append_getElem (by have := HN.out; omega), List.map_append, List.map_append]
              have e : l[k]'(by have := HN.out; omega) = ⟨bn, ⟨bk, bm, bs⟩, brd⟩ := by
                have := HG.out
                rw [List.getElem?_eq_getElem (by have := HN.out; omega)] at this
                exact Option.some.inj this
              rw [e]
              exact HW.out
            · exact ((HB.out.alloc hs _).alloc (by simp; omega) _).grown HG2.out (by simp; omega) fun j hj => (World.ownsRow.lt HO1.out j hj).1
          case measure => simp [intOf]; omega
        · have hkn : k = n := by omega
          subst hkn
          have hj : TextsK wr w.heap.size u5 (l.map (·.name)) := by
            have := HO.out
            rw [HN.out, List.take_length] at this
            unfold TextsK
            rw [List.length_map]
            exact this
          have HJ := Lib.hid (join_row hj ⟨#[32]⟩ (by rw [List.length_map, ← HN.out]; exact hlen) HJL.out)
          clear hB hj
          go_wp2_with fail
          refine HJ.out.mono ?_
          rintro e w2 ⟨rfl, hB2⟩
          have HB2 := Lib.hid (HB.out.trans (hB2.mono hs))
          clear hB2
          go_wp2
          go_ret
          exact ⟨rfl, HB2.out⟩

theorem read_no {n : Int} {name : ByteArray} (h : H.has n name = false) : H.read n name = (LVal.zero, 7) := by
  unfold LHeap.has at h
  unfold LHeap.read
  rcases hob : H.scope? n with _ | s
  · rfl
  · rw [hob] at h
    dsimp only at h ⊢
    by_cases h0 : s.object < 0
    · rw [if_pos h0] at h ⊢
      have : s.idx name = none := by simpa using h
      rw [this]; rfl
    · rw [if_neg h0] at h ⊢
      have : H.get s.object name = none := by simpa using h
      rw [this]
/-- a name that a scope has lies in a binding of its own, or in its object -/
theorem has_parts {n : Int} {name : ByteArray} (h : H.has n name = true) :
    (∃ (m : Nat) (s : LScope) (k : Nat) (b : LBind), n = m ∧ H.scope? (m : Int) = some s ∧ H.scopes[m]? = some s ∧ s.object < 0 ∧ s.idx name = some k ∧ s.names[k]? = some b ∧ H.cellI (m : Int) name = k) ∨
    (∃ (m : Nat) (s : LScope) (v : LVal), n = m ∧ H.scope? (m : Int) = some s ∧ H.scopes[m]? = some s ∧ ¬ s.object < 0 ∧ H.get s.object name = some v ∧ H.cellI (m : Int) name = -1) := by
  rcases hob : H.scope? n with _ | s
  · simp [LHeap.has, hob] at h
  · rw [has_eq hob] at h
    obtain ⟨m, rfl, hm⟩ := LHeap.scope?_some hob
    by_cases h0 : s.object < 0
    · rw [if_pos h0] at h
      obtain ⟨k, hk⟩ := Option.isSome_iff_exists.1 h
      obtain ⟨b, hb, _⟩ := LScope.idx_some hk
      exact .inl ⟨m, s, k, b, rfl, hob, hm, h0, hk, hb, by rw [cellI_ge hob h0, hk]; rfl⟩
    · rw [if_neg h0] at h
      obtain ⟨v, hv⟩ := Option.isSome_iff_exists.1 h
      exact .inr ⟨m, s, v, rfl, hob, hm, h0, hv, by simp only [LHeap.cellI, hob, if_neg h0]⟩

set_option maxHeartbeats 1600000 in
theorem rread_any (h : RAt w rb V H) (n : Int) (name : ByteArray) :
    Calls Tryd.prog 21 #[.pointer (some ⟨rb, 0, none⟩), .int .i64 n, .string name] w fun e w' => e = .returned (.tuple #[.int .i64 (H.read n name).1.n, .int .i64 (H.read n name).2]) ∧ Below w.heap.size w w' := by
  have HC := rhas_any h n name
  cases hq : H.has n name with
  | false =>
    rw [hq] at HC
    rw [read_no hq]
    have HC := Lib.hid HC
    clear h hq
    go_enter Tryd.func21, Tryd.ntmps21
    go_wp2_with fail
    refine HC.out.mono ?_
    rintro e w1 ⟨rfl, hB⟩
    have HB := Lib.hid hB
    clear hB
    go_wp2
    go_ret2
    exact ⟨rfl, HB.out⟩
  | true =>
    rw [hq] at HC
    have HC := Lib.hid HC
    rcases has_parts hq with ⟨m, s, k, b, rfl, hob, hm, hso, hk, hb, hci⟩ | ⟨m, s, v, rfl, hob, hm, hso, hv, hci⟩
    · have HD := Lib.hid (fun w1 (hB1 : Below w.heap.size w w1) => rcell_any (h.below hB1) (m : Int) name)
      rw [hci] at HD
      have hr : H.read (m : Int) name = if b.ready then (b.v, 0) else (LVal.zero, 6) := by
        simp only [LHeap.read, hob, if_pos hso, hk, Option.bind_some, hb]
      rw [hr]
      have HRm := Lib.hid (fun w1 (hB1 : Below w.heap.size w w1) => (h.below hB1).roomAt hm)
      have HRc := Lib.hid (fun w1 (hB1 : Below w.heap.size w w1) => (h.below hB1).cellAt hm hb)
      generalize H.scopes.length = q at *
      generalize s.names.length = q1 at *
      generalize V.row (.cel m) = v at *
      clear h hq hob hm hk hb hci hr
      obtain ⟨bn, ⟨bk, bm, bs⟩, bkd, brd⟩ := b
      dsimp only at HRc ⊢
      cases brd <;>
      · go_enter Tryd.func21, Tryd.ntmps21
        go_wp2_with fail
        refine HC.out.mono ?_
        rintro e w1 ⟨rfl, hB⟩
        have HD1 := Lib.hid (HD.out w1 hB)
        have HB := Lib.hid hB
        clear hB
        go_wp2_with fail
        refine HD1.out.mono ?_
        rintro e w2 ⟨rfl, hB⟩
        have hB2 := HB.out.trans (hB.mono HB.out.size)
        obtain ⟨g, c, d0, _, d1, d2, d3, d4, d5, d6⟩ := HRm.out w2 hB2
        obtain ⟨g1, c1, rfl, f1, f2, f3, f4, f5, f6, f7, f8⟩ := HRc.out w2 hB2
        have HB2 := Lib.hid hB2
        clear hB hB2 HD1
        go_wp2
        go_ret2
        exact ⟨rfl, HB2.out.alloc HB2.out.size _⟩
    · have HD := Lib.hid (fun w1 (hB1 : Below w.heap.size w w1) => rcell_any (h.below hB1) (m : Int) name)
      rw [hci] at HD
      have hr : H.read (m : Int) name = (v, 0) := by
        simp only [LHeap.read, hob, if_neg hso, hv]
      rw [hr]
      have HRm := Lib.hid (fun w1 (hB1 : Below w.heap.size w w1) => (h.below hB1).roomAt hm)
      have HG := Lib.hid (fun w1 (hB1 : Below w.heap.size w w1) => rget_any (h.below hB1) s.object name)
      rw [hv] at HG
      generalize H.scopes.length = q at *
      generalize s.object = oo at *
      clear h hq hob hm hv hci hr
      obtain ⟨vk, vn, vs⟩ := v
      simp only [Option.getD_some, Option.isSome_some] at HG
      go_enter Tryd.func21, Tryd.ntmps21
      go_wp2_with fail
      refine HC.out.mono ?_
      rintro e w1 ⟨rfl, hB⟩
      have HD1 := Lib.hid (HD.out w1 hB)
      have HB := Lib.hid hB
      clear hB
      go_wp2_with fail
      refine HD1.out.mono ?_
      rintro e w2 ⟨rfl, hB⟩
      have hB2 := HB.out.trans (hB.mono HB.out.size)
      obtain ⟨g, c, d0, _, d1, d2, d3, d4, d5, d6⟩ := HRm.out w2 hB2
      have HG1 := Lib.hid (HG.out w2 hB2)
      have HB2 := Lib.hid hB2
      clear hB hB2 HD1 d6
      go_wp2_with fail
      refine HG1.out.mono ?_
      rintro e w3 ⟨rfl, hB⟩
      have HB3 := Lib.hid (HB2.out.trans (hB.mono HB2.out.size))
      clear hB
      go_wp2
      go_ret2
      exact ⟨rfl, HB3.out⟩
end
end Go.Proofs.YtfanolcjgaccpaaDoor

namespace Go.Proofs.YtfanolcjgaccpaaDoor
open Go Go.RowKit
set_option maxRecDepth 100000
set_option linter.unusedVariables false

section
variable {w : World} {rb : Nat} {V : RV} {H : LHeap}

theorem cellI_parts {n : Int} {name : ByteArray} : (H.cellI n name = -1 ∧ ∀ v, H.start n name v = (H, 7)) ∨
    (∃ (m : Nat) (s : LScope) (k : Nat) (b : LBind), n = m ∧ H.scope? (m : Int) = some s ∧ H.scopes[m]? = some s ∧ s.object < 0 ∧ s.idx name = some k ∧ s.names[k]? = some b ∧ H.cellI (m : Int) name = k) := by
  rcases hob : H.scope? n with _ | s
  · exact .inl ⟨by simp [LHeap.cellI, hob], fun v => by simp [LHeap.start, hob]⟩
  · obtain ⟨m, rfl, hm⟩ := LHeap.scope?_some hob
    by_cases h0 : s.object < 0
    · rcases hk : s.idx name with _ | k
      · exact .inl ⟨by rw [cellI_ge hob h0, hk]; rfl, fun v => by simp only [LHeap.start, hob, if_neg (show ¬ 0 ≤ s.object by omega), hk]⟩
      · obtain ⟨b, hb, _⟩ := LScope.idx_some hk
        exact .inr ⟨m, s, k, b, rfl, hob, hm, h0, hk, hb, by rw [cellI_ge hob h0, hk]; rfl⟩
    · exact .inl ⟨by simp only [LHeap.cellI, hob, if_neg h0], fun v => by simp only [LHeap.start, hob, if_pos (show 0 ≤ s.object by omega)]⟩

set_option maxHeartbeats 3200000 in
theorem rstart_any (h : RAt w rb V H) (n : Int) (name : ByteArray) (v : LVal) :
    Calls Tryd.prog 17 #[.pointer (some ⟨rb, 0, none⟩), .int .i64 n, .string name, .int .i64 v.n] w fun e w' => e = .returned (.int .i64 (H.start n name v).2) ∧
      ∃ V', RAt w' rb V' (H.start n name v).1 ∧ RFr V V' rb w w' := by
  obtain ⟨vk, vn, vs⟩ := v
  dsimp only
  have HC := rcell_any h n name
  rcases cellI_parts (H := H) (n := n) (name := name) with ⟨hci, hst⟩ | ⟨m, s, k, b, rfl, hob, hm, hso, hk, hb, hci⟩
  · rw [hci] at HC
    rw [hst]
    have HC := Lib.hid HC
    have HH := Lib.hid h
    clear h hst hci
    go_enter Tryd.func17, Tryd.ntmps17
    go_wp2_with fail
    refine HC.out.mono ?_
    rintro e w1 ⟨rfl, hB⟩
    have HB := Lib.hid hB
    clear hB
    go_wp2
    go_ret
    exact ⟨rfl, V, HH.out.below HB.out, RFr.of_below HB.out⟩
  · rw [hci] at HC
    have hd : H.start (m : Int) name ⟨vk, vn, vs⟩ = (H.setNames m s (s.names.set k { b with v := ⟨vk, vn, vs⟩, ready := true }), 0) := by
      simp only [LHeap.start, hob, if_neg (show ¬ 0 ≤ s.object by omega), hk, hb, Int.toNat_natCast]
    rw [hd]
    have HC := Lib.hid HC
    have HH := Lib.hid h
    have HM := Lib.hid hm
    have HBB := Lib.hid hb
    clear h hob hm hk hb hci hd
    go_enter Tryd.func17, Tryd.ntmps17
    go_wp2_with fail
    refine HC.out.mono ?_
    rintro e w1 ⟨rfl, hB⟩
    have h1 := HH.out.below hB
    obtain ⟨g, c, d0, hvr, d1, d2, d3, d4, d5, d6⟩ := h1.roomAt HM.out
    obtain ⟨g1, c1, hv, f1, f2, f3, f4, f5, f6, f7, f8⟩ := h1.cellAt HM.out HBB.out
    have hown := h1.cel m s HM.out
    have z1 := ownsRow_frozen hown (g := g1) (by rw [hv]; rfl) (k * 4 + 1)
    have z3 := ownsRow_frozen hown (g := g1) (by rw [hv]; rfl) (k * 4 + 3)
    have hg1 : (V.row (.cel m)).ownBlock = some g1 := by rw [hv]; rfl
    have hrg : rb ≠ g1 := fun e => h1.off (.cel m) (by rw [hg1, e])
    have hgg : g ≠ g1 := fun e => by
      subst e
      exact absurd (h1.apart .roms (.cel m) g (by show V.vr.ownBlock = _; rw [hvr]; rfl) hg1) (by simp)
    rw [hv] at d6 hown
    obtain ⟨n, hn⟩ : ∃ n, n = s.names.length := ⟨_, rfl⟩
    rw [← hn] at f1 f3 d6
    obtain ⟨q, hqq⟩ : ∃ v, v = H.scopes.length := ⟨_, rfl⟩
    rw [← hqq] at d0 d1 d3
    have HH1 := Lib.hid h1
    have HB := Lib.hid hB
    have HN := Lib.hid hn
    have HO := Lib.hid hown
    have HV := Lib.hid hv
    clear h1 hB hn hown hv hqq hvr hg1
    go_wp2_with fail
    refine wp_region_plan [(true, 0), (true, 1), (true, 2), (true, 3), (true, 4), (true, 5), (true, 6), (true, 7), (true, 8), (true, 9), (true, 10), (true, 11), (true, 12), (true, 13), (true, 14), (true, 15), (true, 16), (true, 17), (true, 18), (true, 19), (true, 20), (false, 21)] [22, 23, 24] (fun W => W.cell? ⟨rb, 2, none⟩ = some (.slice (some ⟨g, 0, none⟩) q c) ∧ W.cell? ⟨g, m * 3 + 2, none⟩ = some (.slice (some ⟨g1, 0, none⟩) n c1)) (by kernel_rfl) (by kernel_rfl) (fun _ _ d _ _ h => by cases d <;> exact h) ⟨d0, d6⟩ (fun hS0 => ?_)
    simp only [planOps, List.filterMap_cons, List.filterMap_nil, List.getElem?_toArray, List.getElem?_cons_zero, List.getElem?_cons_succ, Option.map_some]
    iterate 21
      first
        | (refine wpPlan_take ?_ (by rfl) (fun w' hS' => ?_) ?_; rotate_left; (obtain ⟨s0, s1⟩ := hS'; go_simp; first | done | with_reducible rfl); simp only [Act.put, List.setIfInBounds_toArray, List.set_cons_zero, List.set_cons_succ])
        | (refine wpPlan_skip (by rfl) ?_; simp only [Act.put, List.setIfInBounds_toArray, List.set_cons_zero, List.set_cons_succ])
    refine wpPlan_go (fun K hK => ?_)
    go_simp
    have t0 : (w1.setCell ⟨g1, k * 4 + 1, none⟩ (.int .i64 vn)).cell? ⟨rb, 2, none⟩ = some (.slice (some ⟨g, 0, none⟩) q c) := (World.cell?_setCell_other _ _ _ _ (by intro e; exact hrg (congrArg Addr.block e).symm)).trans d0
    have t6 : (w1.setCell ⟨g1, k * 4 + 1, none⟩ (.int .i64 vn)).cell? ⟨g, m * 3 + 2, none⟩ = some (.slice (some ⟨g1, 0, none⟩) n c1) := (World.cell?_setCell_other _ _ _ _ (by intro e; exact hgg (congrArg Addr.block e).symm)).trans d6
    refine hK _ _ ⟨t0, t6⟩ ?_
    clear hK K
    refine wpPlan_end ?_
    go_wp2
    go_ret
    refine ⟨rfl, ?_⟩
    have hn := HN.out
    subst hn
    have hst := ((HO.out.stored (k * 4 + 1) (.int .i64 vn)).1.stored (k * 4 + 3) (.bool true)).1
    have hg := ((HO.out.stored (k * 4 + 1) (.int .i64 vn)).2)
    have hst2 := (HO.out.stored (k * 4 + 1) (.int .i64 vn)).1
    rw [set_flatMap (f := LBind.rcells) (m := 4) (fun _ => rfl) HBB.out (j := 1) (by omega) (a' := { b with v := ⟨vk, vn, vs⟩ }) rfl,
      set_flatMap (f := LBind.rcells) (m := 4) (fun _ => rfl) (a := { b with v := ⟨vk, vn, vs⟩ }) (List.getElem?_set_self f3) (j := 3) (by omega) (a' := { b with v := ⟨vk, vn, vs⟩, ready := true }) rfl, List.set_set] at hst
    obtain ⟨V', hA, hF⟩ := HH1.out.storeCell (ps := s.names.set k { b with v := ⟨vk, vn, vs⟩, ready := true }) HM.out (by simp) HV.out hst (grow_set hg _)
    exact ⟨V', hA.drew, ((RFr.of_below HB.out).trans hF).drew⟩

theorem write_no {n : Int} {name : ByteArray} (h : H.has n name = false) (v : LVal) : H.write n name v = (H, 7) := by
  unfold LHeap.has at h
  unfold LHeap.write
  rcases hob : H.scope? n with _ | s
  · rfl
  · rw [hob] at h
    dsimp only at h ⊢
    by_cases h0 : s.object < 0
    · rw [if_pos h0] at h ⊢
      have : s.idx name = none := by simpa using h
      rw [this]
    · rw [if_neg h0] at h ⊢
      have : H.get s.object name = none := by simpa using h
      rw [this]; rfl

set_option maxHeartbeats 3200000 in
theorem rwrite_any (h : RAt w rb V H) (n : Int) (name : ByteArray) (v : LVal) (hlen : ∀ (m : Nat) (o : LObj), H.objects[m]? = some o → o.props.length < 1099511627776) :
    Calls Tryd.prog 15 #[.pointer (some ⟨rb, 0, none⟩), .int .i64 n, .string name, .int .i64 v.n] w fun e w' => e = .returned (.int .i64 (H.write n name v).2) ∧
      ∃ V', RAt w' rb V' (H.write n name v).1 ∧ RFr V V' rb w w' := by
  have HC := rhas_any h n name
  cases hq : H.has n name with
  | false =>
    rw [hq] at HC
    rw [write_no hq]
    have HC := Lib.hid HC
    have HH := Lib.hid h
    clear h hq
    go_enter Tryd.func15, Tryd.ntmps15
    go_wp2_with fail
    refine HC.out.mono ?_
    rintro e w1 ⟨rfl, hB⟩
    have HB := Lib.hid hB
    clear hB
    go_wp2
    go_ret
    exact ⟨rfl, V, HH.out.below HB.out, RFr.of_below HB.out⟩
  | true =>
    rw [hq] at HC
    have HC := Lib.hid HC
    have HH := Lib.hid h
    rcases has_parts hq with ⟨m, s, k, b, rfl, hob, hm, hso, hk, hb, hci⟩ | ⟨m, s, x, rfl, hob, hm, hso, hv, hci⟩
    · have HD := Lib.hid (fun w1 (hB1 : Below w.heap.size w w1) => rcell_any (h.below hB1) (m : Int) name)
      rw [hci] at HD
      have hr : H.write (m : Int) name v = if b.ready = false then (H, 6) else if b.kind = 2 then (H, 1) else if b.kind = 3 then (H, 5) else (H.setNames m s (s.names.set k { b with v := v }), 0) := by
        simp only [LHeap.write, hob, if_pos hso, hk, hb, Int.toNat_natCast]
      rw [hr]
      have HRm := Lib.hid (fun w1 (hB1 : Below w.heap.size w w1) => (h.below hB1).roomAt hm)
      have HRc := Lib.hid (fun w1 (hB1 : Below w.heap.size w w1) => (h.below hB1).cellAt hm hb)
      have HZ := Lib.hid (fun w1 (hB1 : Below w.heap.size w w1) (g1 : Nat) (c1 : Nat) (e : V.row (.cel m) = .slice (some ⟨g1, 0, none⟩) s.names.length c1) => ownsRow_frozen ((h.below hB1).cel m s hm) (g := g1) (by rw [e]; rfl) (k * 4 + 1))
      have HM := Lib.hid hm
      have HBB := Lib.hid hb
      obtain ⟨q, hqq⟩ : ∃ v, v = H.scopes.length := ⟨_, rfl⟩
      obtain ⟨n, hn⟩ : ∃ n, n = s.names.length := ⟨_, rfl⟩
      rw [← hqq] at HRm
      rw [← hn] at HRc HZ
      have HN := Lib.hid hn
      clear h hq hob hm hk hb hci hr hqq hn
      have hcase : (b.ready = false) ∨ (b.ready = true ∧ (b.kind == 2) = true) ∨ (b.ready = true ∧ (b.kind == 2) = false ∧ (b.kind == 3) = true) ∨ (b.ready = true ∧ (b.kind == 2) = false ∧ (b.kind == 3) = false) := by
        cases b.ready <;> cases (b.kind == 2) <;> cases (b.kind == 3) <;> simp
      obtain ⟨vk, vn, vs⟩ := v
      obtain ⟨bn, ⟨bk, bm, bs⟩, bkd, brd⟩ := b
      dsimp only at HRc hcase ⊢
      rcases hcase with rfl | ⟨rfl, k2⟩ | ⟨rfl, k2, k3⟩ | ⟨rfl, k2, k3⟩
      · rw [if_pos rfl]
        go_enter Tryd.func15, Tryd.ntmps15
        go_wp2_with fail
        refine HC.out.mono ?_
        rintro e w1 ⟨rfl, hB⟩
        have HD1 := Lib.hid (HD.out w1 hB)
        have HB := Lib.hid hB
        clear hB
        go_wp2_with fail
        refine HD1.out.mono ?_
        rintro e w2 ⟨rfl, hB⟩
        have hB2 := HB.out.trans (hB.mono HB.out.size)
        obtain ⟨g, c, d0, _, d1, d2, d3, d4, d5, d6⟩ := HRm.out w2 hB2
        obtain ⟨g1, c1, hv, f1, f2, f3, f4, f5, f6, f7, f8⟩ := HRc.out w2 hB2
        rw [hv] at d6
        have HB2 := Lib.hid hB2
        clear hB hB2 HD1 hv
        go_wp2
        go_ret
        exact ⟨rfl, V, HH.out.below HB2.out, RFr.of_below HB2.out⟩
      · rw [if_neg (by simp), if_pos (by simpa using k2)]
        go_enter Tryd.func15, Tryd.ntmps15
        go_wp2_with fail
        refine HC.out.mono ?_
        rintro e w1 ⟨rfl, hB⟩
        have HD1 := Lib.hid (HD.out w1 hB)
        have HB := Lib.hid hB
        clear hB
        go_wp2_with fail
        refine HD1.out.mono ?_
        rintro e w2 ⟨rfl, hB⟩
        have hB2 := HB.out.trans (hB.mono HB.out.size)
        obtain ⟨g, c, d0, _, d1, d2, d3, d4, d5, d6⟩ := HRm.out w2 hB2
        obtain ⟨g1, c1, hv, f1, f2, f3, f4, f5, f6, f7, f8⟩ := HRc.out w2 hB2
        rw [hv] at d6
        have HB2 := Lib.hid hB2
        clear hB hB2 HD1 hv
        go_wp2
        go_ret
        exact ⟨rfl, V, HH.out.below HB2.out, RFr.of_below HB2.out⟩
      · rw [if_neg (by simp), if_neg (by simpa using k2), if_pos (by simpa using k3)]
        go_enter Tryd.func15, Tryd.ntmps15
        go_wp2_with fail
        refine HC.out.mono ?_
        rintro e w1 ⟨rfl, hB⟩
        have HD1 := Lib.hid (HD.out w1 hB)
        have HB := Lib.hid hB
        clear hB
        go_wp2_with fail
        refine HD1.out.mono ?_
        rintro e w2 ⟨rfl, hB⟩
        have hB2 := HB.out.trans (hB.mono HB.out.size)
        obtain ⟨g, c, d0, _, d1, d2, d3, d4, d5, d6⟩ := HRm.out w2 hB2
        obtain ⟨g1, c1, hv, f1, f2, f3, f4, f5, f6, f7, f8⟩ := HRc.out w2 hB2
        rw [hv] at d6
        have HB2 := Lib.hid hB2
        clear hB hB2 HD1 hv
        go_wp2
        go_ret
        exact ⟨rfl, V, HH.out.below HB2.out, RFr.of_below HB2.out⟩
      · rw [if_neg (by simp), if_neg (by simpa using k2), if_neg (by simpa using k3)]
        go_enter Tryd.func15, Tryd.ntmps15
        go_wp2_with fail
        refine HC.out.mono ?_
        rintro e w1 ⟨rfl, hB⟩
        have HD1 := Lib.hid (HD.out w1 hB)
        have HB := Lib.hid hB
        clear hB
        go_wp2_with fail
        refine HD1.out.mono ?_
        rintro e w2 ⟨rfl, hB⟩
        have hB2 := HB.out.trans (hB.mono HB.out.size)
        obtain ⟨g, c, d0, _, d1, d2, d3, d4, d5, d6⟩ := HRm.out w2 hB2
        obtain ⟨g1, c1, hv, f1, f2, f3, f4, f5, f6, f7, f8⟩ := HRc.out w2 hB2
        have z1 := HZ.out w2 hB2 g1 c1 hv
        rw [hv] at d6
        have HB2 := Lib.hid hB2
        have HV := Lib.hid hv
        clear hB hB2 HD1 hv
        go_wp2
        go_ret
        refine ⟨rfl, ?_⟩
        have hn := HN.out
        subst hn
        have h2 := HH.out.below HB2.out
        have hown := h2.cel m s HM.out
        rw [HV.out] at hown
        have hst := (hown.stored (k * 4 + 1) (.int .i64 vn))
        rw [set_flatMap (f := LBind.rcells) (m := 4) (fun _ => rfl) HBB.out (j := 1) (by omega) (a' := ⟨bn, ⟨vk, vn, vs⟩, bkd, true⟩) rfl] at hst
        obtain ⟨V', hA, hF⟩ := h2.storeCell (ps := s.names.set k ⟨bn, ⟨vk, vn, vs⟩, bkd, true⟩) HM.out (by simp) HV.out hst.1 hst.2
        exact ⟨V', hA, (RFr.of_below HB2.out).trans hF⟩
    · have HD := Lib.hid (fun w1 (hB1 : Below w.heap.size w w1) => rcell_any (h.below hB1) (m : Int) name)
      rw [hci] at HD
      have hr : H.write (m : Int) name v = H.put s.object name v false := by
        simp only [LHeap.write, hob, if_neg hso, hv, Option.isSome_some, if_true]
      rw [hr]
      have HRm := Lib.hid (fun w1 (hB1 : Below w.heap.size w w1) => (h.below hB1).roomAt hm)
      have HG := Lib.hid (fun w1 (hB1 : Below w.heap.size w w1) => rput_any (h.below hB1) s.object name v false hlen)
      generalize H.scopes.length = q at *
      generalize s.object = oo at *
      obtain ⟨r, hrr⟩ : ∃ r, r = H.put oo name v false := ⟨_, rfl⟩
      rw [← hrr] at HG ⊢
      obtain ⟨vk, vn, vs⟩ := v
      dsimp only at HG ⊢
      clear h hq hob hm hv hci hr hrr hlen
      go_enter Tryd.func15, Tryd.ntmps15
      go_wp2_with fail
      refine HC.out.mono ?_
      rintro e w1 ⟨rfl, hB⟩
      have HD1 := Lib.hid (HD.out w1 hB)
      have HB := Lib.hid hB
      clear hB
      go_wp2_with fail
      refine HD1.out.mono ?_
      rintro e w2 ⟨rfl, hB⟩
      have hB2 := HB.out.trans (hB.mono HB.out.size)
      obtain ⟨g, c, d0, _, d1, d2, d3, d4, d5, d6⟩ := HRm.out w2 hB2
      have HG1 := Lib.hid (HG.out w2 hB2)
      have HB2 := Lib.hid hB2
      clear hB hB2 HD1 d6
      go_wp2_with fail
      refine HG1.out.mono ?_
      rintro e w3 ⟨rfl, hA⟩
      have HA := Lib.hid hA
      clear hA
      go_wp2
      go_ret
      obtain ⟨V', hA, hF⟩ := HA.out
      exact ⟨rfl, V', hA, (RFr.of_below HB2.out).trans hF⟩
end
end Go.Proofs.YtfanolcjgaccpaaDoor
