/- Walks of the reference's heap that change it: Drop. A heap of one's own: the empty one, what lies outside of it. errors.As at a target of type Errno, after the guide's worked text for a pointer target. api.Tell at the errors that package heap hands back. -/
import Derived.Test.YtfanolcjgaccpaaDoorJ13
import Derived.Test.YtfanolcjgaccpaaDoorJ14
import Derived.IntWalk
import Derived.Test.YtfanolcjgaccpaaDoorJ12
import Derived.Test.YtfanolcjgaccpaaDoorProg
import Derived.WalkKit
import Derived.LaidEql
import Derived.Stop.Asserts
import Derived.RowKitTokens
import Derived.Test.YtfanolcjgaccpaaDoorJ03
namespace Go.Proofs.YtfanolcjgaccpaaDoor
open Go Go.RowKit
set_option maxRecDepth 100000
set_option linter.unusedVariables false

theorem run_append_empty {P : Program} (w : World) (base : Nat) (t ty e : TypeId) (i : TypeInfo) (size : Nat) (ht : P.underlying t = some (.slice e)) (hi : P.info? e = some i)
    (v : Value) (n : Nat) (xs : List Value) (hown : w.ownsRow base e size v n xs) (p : Option Addr) (c : Nat) :
    (Builtin.append_ #[t, t] ty #[v, .slice p 0 c]).run P w = .ok v w := by
  rcases hown.2 with ⟨rfl, rfl⟩ | ⟨g, cap, cur, rfl, _, _, hnc, _⟩
  · cases p <;> simp [Builtin.append_, run_underlying ht, sizeOf, typeInfo, hi, Builtin.lenOf, Builtin.firstCells, loadCells, loadCellsFrom, Result.andThen]
  · cases p <;> simp [Builtin.append_, run_underlying ht, sizeOf, typeInfo, hi, Builtin.lenOf, Builtin.firstCells, hnc, storeCells, loadCells, loadCellsFrom, Result.andThen]

/-- 'append' of a row that may be empty, at a step of a region that draws its order -/
theorem step_append_src {P : Program} {w : World} {ops : Array Oper} {o : Oper} {a : Act} {K : Act → World → Prop} {Q : Exit → Act → World → Prop} {E : Prop} (hgd : o.guard = none) (s x : Operand) (t : TypeId)
    (ho : o.op = .call { callee := .builtin .append, args := #[s, x], argTypes := #[t, t] })
    (base : Nat) (e : TypeId) (i : TypeInfo) (z : Value) (size bytes : Nat) (ht : P.underlying t = some (.slice e)) (hi : P.info? e = some i) (hz : i.zero = some z)
    (hsize : i.size = size) (hby : i.bytes = bytes) (hzs : z.cells.size = size) (hsz : 0 < size)
    (v : Value) (n : Nat) (xs : List Value) (hs : a.eval s = v) (hown : w.ownsRow base e size v n xs)
    (ad : Option Addr) (m c : Nat) (news : List Value) (hx : a.eval x = .slice ad m c) (hl : news.length = m * size) (hnews : 0 < m → ∃ b, ad = some b ∧ ∀ j u, news[j]? = some u → w.cell? (b.add j) = some u) (h1 : ∀ u ∈ news, u.oneCell' = true)
    (h63 : n + m ≤ maxLen) (hbytes : (n + m) * bytes ≤ 140737488355328) (hbase : base ≤ w.heap.size)
    (h : ∀ v' w', w'.ownsRow base e size v' (n + m) (xs ++ news) → w.grownBy w' v.ownBlock → (∀ g, v'.ownBlock = some g → v.ownBlock = some g ∨ w.heap.size ≤ g) → K (a.put o.dst v') w') :
    if Region.wanted o (yielded ops a.tmps) = true then Oper.wp P o a w K Q else E := by
  rcases Nat.eq_zero_or_pos m with h0 | h0
  · subst h0
    have hn : news = [] := List.eq_nil_of_length_eq_zero (by simpa using hl)
    subst hn
    have hw : Region.wanted o (yielded ops a.tmps) = true := by simp [Region.wanted, hgd]
    rw [if_pos hw]
    have hrun := run_append_empty (P := P) w base t o.type e i size ht hi v n xs hown ad c
    unfold Oper.wp
    simp [execOp, ho, resolve, invoke, builtin, hs, hx, hrun, Result.andThen]
    exact h v w (by simpa using hown) ⟨rfl, rfl, rfl, Nat.le_refl _, fun _ _ _ => rfl⟩ fun g hg => .inl hg
  · obtain ⟨b, rfl, hb⟩ := hnews h0
    refine step_append_lies w hgd s x t ho base e i z size bytes ht hi hz hsize hby hzs hsz v n xs hs hown b m c news hx hl hb h1 h0 h63 hbytes hbase w.heap.size rfl ?_
    intro g cap w' q1 q2 q3 _
    refine h _ w' q1 q2 fun g' hg' => ?_
    simp only [Value.ownBlock, Option.some.injEq] at hg'
    subst hg'
    rcases q3 with q | q
    · exact .inl q
    · exact .inr (by omega)

theorem add_plain (g o j : Nat) : (⟨g, o, none⟩ : Addr).add j = ⟨g, o + j, none⟩ := by unfold Addr.add; split <;> simp_all
theorem flatMap_drop {α : Type} {f : α → List Value} {m : Nat} (hf : ∀ a, (f a).length = m) (l : List α) (i : Nat) : (l.drop i).flatMap f = (l.flatMap f).drop (i * m) := by
  induction l generalizing i with
  | nil => simp
  | cons a l ih =>
    cases i with
    | zero => simp
    | succ i =>
      rw [List.drop_succ_cons, List.flatMap_cons, ih, show (i + 1) * m = (f a).length + i * m by rw [hf, Nat.succ_mul]; omega, List.drop_append]
      simp

section
variable {w : World} {rb : Nat} {V : RV} {H : LHeap}

theorem drop_no {n : Int} {name : ByteArray} (h : H.has n name = false) : H.drop n name = (H, true) := by
  unfold LHeap.has at h
  unfold LHeap.drop
  rcases hob : H.scope? n with _ | s
  · rfl
  · rw [hob] at h
    dsimp only at h ⊢
    by_cases h0 : s.object < 0
    · rw [if_pos h0] at h ⊢
      have : s.idx name = none := by simpa using h
      rw [this]
    · rw [if_neg h0] at h ⊢
      have : H.get s.object name = none := by simpa using h
      rw [this]; rfl

set_option maxHeartbeats 3200000 in
theorem rdrop_any (h : RAt w rb V H) (n : Int) (name : ByteArray) (hu : ∀ (m : Nat) (o : LObj), H.objects[m]? = some o → ApartN LProp.name o.props ∧ o.props.length < 1099511627776)
    (hus : ∀ (m : Nat) (s : LScope), H.scopes[m]? = some s → ApartN LBind.name s.names ∧ s.names.length < 1099511627776) :
    Calls Tryd.prog 19 #[.pointer (some ⟨rb, 0, none⟩), .int .i64 n, .string name] w fun e w' => e = .returned (.bool (H.drop n name).2) ∧
      ∃ V', RAt w' rb V' (H.drop n name).1 ∧ RFr V V' rb w w' := by
  have HC := rhas_any h n name
  cases hq : H.has n name with
  | false =>
    rw [hq] at HC
    rw [drop_no hq]
    have HC := Lib.hid HC
    have HH := Lib.hid h
    clear h hq hu hus
    go_enter Tryd.func19, Tryd.ntmps19
    go_wp2_with fail
    refine HC.out.mono ?_
    rintro e w1 ⟨rfl, hB⟩
    have HB := Lib.hid hB
    clear hB
    go_wp2
    go_ret
    exact ⟨rfl, V, HH.out.below HB.out, RFr.of_below HB.out⟩
  | true =>
    rw [hq] at HC
    have HC := Lib.hid HC
    have HH := Lib.hid h
    rcases has_parts hq with ⟨m, s, k, b, rfl, hob, hm, hso, hk, hb, hci⟩ | ⟨m, s, x, rfl, hob, hm, hso, hv, hci⟩
    · have HD := Lib.hid (fun w1 (hB1 : Below w.heap.size w w1) => rcell_any (h.below hB1) (m : Int) name)
      rw [hci] at HD
      obtain ⟨hap, hln⟩ := hus m s hm
      have hr : H.drop (m : Int) name = if b.kind = 4 then (H.setNames m s (s.names.take k ++ s.names.drop (k + 1)), true) else (H, false) := by
        simp only [LHeap.drop, hob, if_pos hso, hk, hb, Int.toNat_natCast]
        rw [unnamed_erase hap hk]
      rw [hr]
      have HRm := Lib.hid (fun w1 (hB1 : Below w.heap.size w w1) => (h.below hB1).roomAt hm)
      have HRc := Lib.hid (fun w1 (hB1 : Below w.heap.size w w1) => (h.below hB1).cellAt hm hb)
      have HM := Lib.hid hm
      obtain ⟨q, hqq⟩ : ∃ v, v = H.scopes.length := ⟨_, rfl⟩
      obtain ⟨n, hn⟩ : ∃ n, n = s.names.length := ⟨_, rfl⟩
      have hkn : k < n := by rw [hn]; exact getElem?_lt hb
      rw [← hqq] at HRm
      rw [← hn] at HRc hln
      have HN := Lib.hid hn
      have HQ := Lib.hid hqq
      obtain ⟨i0, hi, hz0, hz1, hz2⟩ := info_parts Tryd.infoRCell
      clear h hq hob hm hk hb hci hr hqq hn hu hus hap
      obtain ⟨bn, ⟨bk, bm, bs⟩, bkd, brd⟩ := b
      dsimp only at HRc ⊢
      by_cases hkd : bkd = 4
      · rw [if_pos hkd]
        subst hkd
        go_enter Tryd.func19, Tryd.ntmps19
        go_wp2_with fail
        refine HC.out.mono ?_
        rintro e w1 ⟨rfl, hB⟩
        have HD1 := Lib.hid (HD.out w1 hB)
        have HB := Lib.hid hB
        clear hB
        go_wp2_with fail
        refine HD1.out.mono ?_
        rintro e w2 ⟨rfl, hB⟩
        have hB2 := HB.out.trans (hB.mono HB.out.size)
        obtain ⟨g, c, d0, hvr, d1, d2, d3, d4, d5, d6⟩ := HRm.out w2 hB2
        obtain ⟨g1, c1, hv, f1, f2, f3, f4, f5, f6, f7, f8⟩ := HRc.out w2 hB2
        have h2 := HH.out.below hB2
        have hown := h2.cel m s HM.out
        have hfp := ownsRow_frozen h2.rowR (g := g) (by rw [hvr]; rfl) (m * 3 + 2)
        have hgpl : g < w2.heap.size := h2.live (.inr ⟨.roms, by show V.vr.ownBlock = _; rw [hvr]; rfl⟩)
        have hrb2 := h2.rbLt
        rw [hv] at d6 hown
        have hcells := fun j u (hu : (s.names.flatMap LBind.rcells)[j]? = some u) => hown.cells (g := g1) rfl j u hu
        have HB2 := Lib.hid hB2
        have HH2 := Lib.hid h2
        have HV := Lib.hid hv
        have HO := Lib.hid hown
        have HCE := Lib.hid hcells
        have HVR := Lib.hid hvr
        clear hB hB2 HD1 hv h2 hown hcells hvr
        have w0 : k ≤ c1 := by omega
        have w2' : k + 1 ≤ c1 := by omega
        have w3 : k + 1 ≤ n := by omega
        have w7 : (k : Int) + 1 ≤ (n : Int) := by omega
        have w4 : IntKind.i64.wrap ((k : Int) + 1) = (k : Int) + 1 := IntWalk.i64_in _ (by omega)
        have w5 : (0 : Int) ≤ (k : Int) + 1 := by omega
        have w6 : ((k : Int) + 1).toNat = k + 1 := by omega
        go_wp2_with fail
        refine wp_region_plan [(true, 0), (true, 1), (true, 2), (true, 3), (true, 4), (true, 6), (true, 7), (true, 8), (true, 10), (true, 11), (true, 12), (true, 13), (false, 5), (false, 9), (false, 14)] [15, 16, 17] (fun W => W.cell? ⟨rb, 2, none⟩ = some (.slice (some ⟨g, 0, none⟩) q c)) (by kernel_rfl) (by kernel_rfl) (fun _ _ d _ _ h => by cases d <;> exact h) d0 (fun hS0 => ?_)
        simp only [planOps, List.filterMap_cons, List.filterMap_nil, List.getElem?_toArray, List.getElem?_cons_zero, List.getElem?_cons_succ, Option.map_some]
        iterate 12
          first
            | (refine wpPlan_take ?_ (by rfl) (fun w' hS' => ?_) ?_; rotate_left; (have s0 := hS'; go_simp; first | done | with_reducible rfl); simp only [Act.put, List.setIfInBounds_toArray, List.set_cons_zero, List.set_cons_succ])
            | (refine wpPlan_skip (by rfl) ?_; simp only [Act.put, List.setIfInBounds_toArray, List.set_cons_zero, List.set_cons_succ])
        clear w4 w5 w6 w7
        refine wpPlan_go (fun K hK => ?_)
        go_simp
        refine hK _ _ ((cell_old hrb2).trans d0) ?_
        clear hK K
        refine wpPlan_go (fun K hK => ?_)
        have hlt : (s.names.take k).length = k := by rw [List.length_take, ← HN.out]; omega
        have hld : (s.names.drop (k + 1)).length = n - (k + 1) := by rw [List.length_drop, ← HN.out]
        refine step_append_src (by rfl) (.tmp 50) (.tmp 53) 40 (by rfl) w2.heap.size 98 i0 _ 4 40 Tryd.underlying40 hi hz0 hz1 hz2 rfl (by decide) (.slice (some ⟨w2.heap.size, 0, none⟩) 0 0) 0 [] (by rfl) (World.ownsRow_made (size := 4) (e := 98) w2 #[] 0 (Nat.le_refl _) (by decide) (by simp)).drew (some ⟨g1, 0, none⟩) k c1 ((s.names.take k).flatMap LBind.rcells) (by rfl) (by rw [flatMap_len (m := 4) (fun _ => rfl), hlt]) (fun _ => ⟨_, rfl, fun j u hu => ?_⟩) (by intro u hu; obtain ⟨b, _, hb⟩ := List.mem_flatMap.1 hu; simp only [LBind.rcells, List.mem_cons, List.not_mem_nil, or_false] at hb; rcases hb with rfl | rfl | rfl | rfl <;> rfl) (by unfold maxLen; omega) (by omega) (by simp) ?_
        · rw [flatMap_take (m := 4) (fun _ => rfl), List.getElem?_take] at hu
          split at hu
          · refine Eq.trans ?_ (HCE.out j u hu)
            rw [add_plain]
            exact cell_old (p := ⟨g1, 0 + j, none⟩) f4
          · cases hu
        intro v1 w3 hown3 hgrow3 hat3
        have hB3 : Below w2.heap.size w2 w3 := (((Below.refl _ _).alloc (Nat.le_refl _) _).drew).grown hgrow3 (by simp) (fun j hj => by simp only [Value.ownBlock, Option.some.injEq] at hj; omega)
        refine hK _ _ ((hB3.cell (p := ⟨rb, 2, none⟩) hrb2).trans d0) ?_
        clear hK K
        simp only [Act.put, List.setIfInBounds_toArray, List.set_cons_zero, List.set_cons_succ]
        refine wpPlan_go (fun K hK => ?_)
        refine step_append_src (by rfl) (.tmp 54) (.tmp 58) 40 (by rfl) w2.heap.size 98 i0 _ 4 40 Tryd.underlying40 hi hz0 hz1 hz2 rfl (by decide) v1 (0 + k) ([] ++ (s.names.take k).flatMap LBind.rcells) (by rfl) hown3 (if c1 = k + 1 then some ⟨g1, 0, none⟩ else some ⟨g1, (k + 1) * 4, none⟩) (n - (k + 1)) (c1 - (k + 1)) ((s.names.drop (k + 1)).flatMap LBind.rcells) (by rfl) (by rw [flatMap_len (m := 4) (fun _ => rfl), hld]) (fun hpos => ⟨⟨g1, (k + 1) * 4, none⟩, if_neg (by omega), fun j u hu => ?_⟩) (by intro u hu; obtain ⟨b, _, hb⟩ := List.mem_flatMap.1 hu; simp only [LBind.rcells, List.mem_cons, List.not_mem_nil, or_false] at hb; rcases hb with rfl | rfl | rfl | rfl <;> rfl) (by unfold maxLen; omega) (by omega) hB3.size ?_
        · rw [flatMap_drop (m := 4) (fun _ => rfl), List.getElem?_drop] at hu
          have := HCE.out _ u hu
          rw [add_plain] at this ⊢
          rw [Nat.zero_add] at this
          exact (hB3.cell (p := ⟨g1, (k + 1) * 4 + j, none⟩) f4).trans this
        intro v2 w4 hown4 hgrow4 hat4
        have hB4 : Below w2.heap.size w2 w4 := hB3.grown hgrow4 hB3.size (fun j hj => (World.ownsRow.lt hown3 j hj).1)
        refine hK _ _ ((hB4.cell (p := ⟨rb, 2, none⟩) hrb2).trans d0) ?_
        clear hK K
        simp only [Act.put, List.setIfInBounds_toArray, List.set_cons_zero, List.set_cons_succ]
        have t0 := (hB4.cell (p := ⟨rb, 2, none⟩) hrb2).trans d0
        have tf := (hB4.frozen (p := ⟨g, m * 3 + 2, none⟩) hgpl).trans hfp
        have t6 := (hB4.cell (p := ⟨g, m * 3 + 2, none⟩) hgpl).trans d6
        obtain ⟨nn, hnn⟩ : ∃ x, x = 0 + k + (n - (k + 1)) := ⟨_, rfl⟩
        rw [← hnn] at hown4
        obtain ⟨a9, c9, rfl⟩ := ownsRow_slice hown4
        have HO4 := Lib.hid hown4
        have HB4 := Lib.hid hB4
        have HNN := Lib.hid hnn
        have HLT := Lib.hid hlt
        have HLD := Lib.hid hld
        clear hown3 hgrow3 hat3 hown4 hgrow4 hat4 hB3 hB4 hnn hlt hld
        generalize (if c1 = k + 1 then (some ⟨g1, 0, none⟩ : Option Addr) else some ⟨g1, (k + 1) * 4, none⟩) = ad9
        refine wpPlan_end ?_
        go_wp2
        go_ret
        refine ⟨rfl, ?_⟩
        have hq := HQ.out
        subst hq
        have ho := HO4.out
        rw [List.nil_append, ← List.flatMap_append, show nn = (s.names.take k ++ s.names.drop (k + 1)).length by rw [List.length_append, HLT.out, HLD.out, HNN.out]; omega] at ho
        obtain ⟨V', hA, hF⟩ := HH2.out.newCells (ps := s.names.take k ++ s.names.drop (k + 1)) HM.out HVR.out HB4.out ho
        rw [show (s.names.take k ++ s.names.drop (k + 1)).length = nn by rw [List.length_append, HLT.out, HLD.out, HNN.out]; omega] at hA hF
        exact ⟨V', hA, (RFr.of_below HB2.out).trans hF⟩
      · rw [if_neg hkd]
        have hk1 : ((bkd : Int) != 4) = true := by simpa using hkd
        have hk2 : ((bkd : Int) == 4) = false := by simpa using hkd
        go_enter Tryd.func19, Tryd.ntmps19
        go_wp2_with fail
        refine HC.out.mono ?_
        rintro e w1 ⟨rfl, hB⟩
        have HD1 := Lib.hid (HD.out w1 hB)
        have HB := Lib.hid hB
        clear hB
        go_wp2_with fail
        refine HD1.out.mono ?_
        rintro e w2 ⟨rfl, hB⟩
        have hB2 := HB.out.trans (hB.mono HB.out.size)
        obtain ⟨g, c, d0, hvr, d1, d2, d3, d4, d5, d6⟩ := HRm.out w2 hB2
        obtain ⟨g1, c1, hv, f1, f2, f3, f4, f5, f6, f7, f8⟩ := HRc.out w2 hB2
        rw [hv] at d6
        have HB2 := Lib.hid hB2
        clear hB hB2 HD1 hv hvr
        go_wp2
        go_ret
        exact ⟨rfl, V, HH.out.below HB2.out, RFr.of_below HB2.out⟩
    · have HD := Lib.hid (fun w1 (hB1 : Below w.heap.size w w1) => rcell_any (h.below hB1) (m : Int) name)
      rw [hci] at HD
      have hr : H.drop (m : Int) name = H.cut s.object name := by
        simp only [LHeap.drop, hob, if_neg hso, hv, Option.isSome_some, if_true]
      rw [hr]
      have HRm := Lib.hid (fun w1 (hB1 : Below w.heap.size w w1) => (h.below hB1).roomAt hm)
      have HG := Lib.hid (fun w1 (hB1 : Below w.heap.size w w1) => rcut_any (h.below hB1) s.object name hu)
      generalize H.scopes.length = q at *
      generalize s.object = oo at *
      obtain ⟨r, hrr⟩ : ∃ r, r = H.cut oo name := ⟨_, rfl⟩
      rw [← hrr] at HG ⊢
      clear h hq hob hm hv hci hr hrr hu hus
      go_enter Tryd.func19, Tryd.ntmps19
      go_wp2_with fail
      refine HC.out.mono ?_
      rintro e w1 ⟨rfl, hB⟩
      have HD1 := Lib.hid (HD.out w1 hB)
      have HB := Lib.hid hB
      clear hB
      go_wp2_with fail
      refine HD1.out.mono ?_
      rintro e w2 ⟨rfl, hB⟩
      have hB2 := HB.out.trans (hB.mono HB.out.size)
      obtain ⟨g, c, d0, _, d1, d2, d3, d4, d5, d6⟩ := HRm.out w2 hB2
      have HG1 := Lib.hid (HG.out w2 hB2)
      have HB2 := Lib.hid hB2
      clear hB hB2 HD1 d6
      go_wp2_with fail
      refine HG1.out.mono ?_
      rintro e w3 ⟨rfl, hA⟩
      have HA := Lib.hid hA
      clear hA
      go_wp2
      go_ret
      obtain ⟨V', hA, hF⟩ := HA.out
      exact ⟨rfl, V', hA, (RFr.of_below HB2.out).trans hF⟩
end
end Go.Proofs.YtfanolcjgaccpaaDoor

namespace Go.Proofs.YtfanolcjgaccpaaDoor
open Go Go.RowKit
set_option maxRecDepth 100000

def LHeap.empty : LHeap := ⟨[], []⟩

theorem heap_new (w : World) (T : TypeId) :
    ∃ ρ L, HeapAt ρ (w.alloc (.cells #[.slice none 0 0, .slice none 0 0] T)) w.heap.size 0 L .empty ∧ ∀ b, b ≠ w.heap.size → ρ b = none := by
  refine ⟨fun b => if b = w.heap.size then some .hp else none, ⟨.slice none 0 0, .slice none 0 0, fun _ => 0, fun _ => .nilIface, fun _ => 0, fun _ => .nilIface⟩, ?_, fun b hb => if_neg hb⟩
  constructor
  · exact World.cell?_alloc_new _ _ _ 0
  · exact World.cell?_alloc_new _ _ _ 1
  · exact World.frozen?_alloc_new _ _ _ _
  · exact World.frozen?_alloc_new _ _ _ _
  · exact ⟨rfl, .inl ⟨rfl, rfl⟩⟩
  · exact ⟨rfl, .inl ⟨rfl, rfl⟩⟩
  · intro i o h; cases h
  · intro i o h; cases h
  · simp
  · intro g h; cases h
  · intro g h; cases h
  · intro i h; exact absurd h (Nat.not_lt_zero i)
  · intro i g h; exact absurd h (Nat.not_lt_zero i)
  · intro i h; exact absurd h (Nat.not_lt_zero i)
  · intro i g h; exact absurd h (Nat.not_lt_zero i)
  · intro b hb
    by_cases e : b = w.heap.size
    · simp [e]
    · exact absurd (if_neg e) hb

/-- what lay there ahead of the heap stays -/
theorem Fr.far {ρ ρ' : Nat → Option Role} {hb ho n : Nat} {w w' : World} (a : Fr ρ ρ' hb ho w w') (hn : n ≤ w.heap.size) (hr : ∀ b, b < n → ρ b = none) : Below n w w' ∧ ∀ b, b < n → ρ' b = none :=
  ⟨⟨a.os, a.tape, a.output, a.size, fun k hk => a.block k (by omega) (hr k hk)⟩, fun b hb => a.role b (by omega) (hr b hb)⟩

/-- a block beside the heap -/
theorem Fr.beside {ρ ρ' : Nat → Option Role} {hb : Nat} {w w' : World} (f : Fr ρ ρ' hb 0 w w') {b : Nat} (hr : ρ b = none) (hl : b < w.heap.size) : w'.heap[b]? = w.heap[b]? ∧ ρ' b = none ∧ b < w'.heap.size :=
  ⟨f.block b hl hr, f.role b hl hr, Nat.lt_of_lt_of_le hl f.size⟩
theorem HeapAt.fresh {ρ : Nat → Option Role} {w : World} {hb ho : Nat} {L : HL} {H : LHeap} (h : HeapAt ρ w hb ho L H) {b : Nat} (hb : w.heap.size ≤ b) : ρ b = none := by
  cases hr : ρ b with
  | none => rfl
  | some r => exact absurd (h.live b (by simp [hr])) (by omega)

/-! ### what the laws call -/
theorem of_any (w : World) (n : Int) :
    Calls Tryd.prog 4 #[.int .i64 n] w fun e w' => e = .returned (LVal.agg ⟨3, n, ⟨#[]⟩⟩) ∧ Below w.heap.size w w' := by
  go_enter Tryd.func4, Tryd.ntmps4
  go_wp2
  exact bodyPost_ret (v := LVal.agg ⟨3, n, ⟨#[]⟩⟩) (by simp [results, Tryd.results4, go_sem, LVal.agg]) rfl ⟨rfl, (Below.refl _ _).alloc (Nat.le_refl _) _⟩
end Go.Proofs.YtfanolcjgaccpaaDoor

namespace Go.Proofs.YtfanolcjgaccpaaDoor
open Go.RowKit Go.Extern.Stop Go.Stop Go.Extern
set_option maxRecDepth 100000

/-- errors.As(nil, target). -/
theorem as_nil (t : Value) (w : World) :
    Calls Tryd.prog 62 #[.nilIface, t] w fun e w' => e = .returned (.bool false) ∧ w' = w := by
  go_enter Tryd.func62, Tryd.ntmps62
  go_wp2
  go_ret
  exact ⟨rfl, rfl⟩

theorem Tryd.valueOf27 (t : Addr) (w : World) : (ReflectliteValue.unpack (.iface 129 (.pointer (some t)))).run Tryd.prog w
    = .ok (.agg #[.pointer (some ⟨2, 129, none⟩), .pointer (some ⟨w.heap.size, 0, none⟩), .int .u64 150]) (w.alloc (.cells #[.pointer (some t)] 129)) := by kernel_rfl
theorem Tryd.type27 (a : Addr) (w : World) : (ReflectliteValue.methodAny (ReflectliteValue.valueError "reflectlite.Value.Type" 0) (fun t _ _ _ => ReflectliteType.toType t) #[.agg #[.pointer (some ⟨2, 129, none⟩), .pointer (some a), .int .u64 150]]).run Tryd.prog w
    = .ok (.iface 143 (.agg #[.pointer (some ⟨2, 129, none⟩)])) w := by kernel_rfl
theorem Tryd.methodKind (h : Value) (w : World) : (Go.method 282 143 (.agg #[h]) "Kind").run Tryd.prog w = .ok (84, h) w := by kernel_rfl
theorem Tryd.kind27 (w : World) : ((ReflectliteType.abiMethod fun t => (fun a : Nat => Value.int IntKind.u8 (a : Int)) <$> Rtype.kind t) #[.pointer (some ⟨2, 129, none⟩)]).run Tryd.prog w = .ok (.int .u8 22) w := by kernel_rfl
theorem Tryd.kind25 (w : World) : ((ReflectliteType.abiMethod fun t => (fun a : Nat => Value.int IntKind.u8 (a : Int)) <$> Rtype.kind t) #[.pointer (some ⟨2, 47, none⟩)]).run Tryd.prog w = .ok (.int .u8 2) w := by kernel_rfl

/-! ### THE ENTRIES THAT READ OR WRITE MEMORY: laws with a premise on the cell (after Derived/Lib/ReflectliteSlice.lean's manner: each unfolding a lemma of its own, by rfl) -/
theorem rlm (z : Sem Value) (f : TypeId → Addr → Nat → Nat → Sem Value) (v : Value) :
    ReflectliteValue.method z f #[v] = (do match ← ReflectliteValue.parts v with | none => z | some (t, a, fl) => f t a fl (fl % 32)) := rfl
theorem Tryd.parts27 (a : Addr) (w : World) : (ReflectliteValue.parts (.agg #[.pointer (some ⟨2, 129, none⟩), .pointer (some a), .int .u64 150])).run Tryd.prog w = .ok (some (129, a, 150)) w := by kernel_rfl
/-- (Value).IsNil at the Value of a **p.E that is not nil. -/
theorem Tryd.isNil27 (a p : Addr) (W : World) (ha : W.cell? a = some (.pointer (some p))) :
    (ReflectliteValue.method (ReflectliteValue.valueError "reflectlite.Value.IsNil" 0) ReflectliteValue.isNil #[.agg #[.pointer (some ⟨2, 129, none⟩), .pointer (some a), .int .u64 150]]).run Tryd.prog W = .ok (.bool false) W := by
  rw [rlm]
  simp only [Sem.run_bind, Tryd.parts27, Result.andThen]
  simp [ReflectliteValue.isNil, loadVar, isAgg, underlying, Tryd.underlying129, ha, Result.andThen]

theorem Tryd.methodElem (h : Value) (w : World) : (Go.method 282 143 (.agg #[h]) "Elem").run Tryd.prog w = .ok (98, .agg #[h]) w := by kernel_rfl
theorem Tryd.methodImplements (h : Value) (w : World) : (Go.method 282 143 (.agg #[h]) "Implements").run Tryd.prog w = .ok (99, .agg #[h]) w := by kernel_rfl
theorem Tryd.methodAssignableTo (h : Value) (w : World) : (Go.method 282 143 (.agg #[h]) "AssignableTo").run Tryd.prog w = .ok (96, .agg #[h]) w := by kernel_rfl
theorem Tryd.elem27 (w : World) : (ReflectliteType.method ReflectliteType.elem #[.agg #[.pointer (some ⟨2, 129, none⟩)]]).run Tryd.prog w = .ok (.iface 143 (.agg #[.pointer (some ⟨2, 47, none⟩)])) w := by kernel_rfl
theorem Tryd.implements25 (w : World) : (ReflectliteType.relation "Implements" ReflectliteType.implements_ #[.agg #[.pointer (some ⟨2, 47, none⟩)], .iface 143 (.agg #[.pointer (some ⟨2, 45, none⟩)])]).run Tryd.prog w = .ok (.bool true) w := by kernel_rfl
theorem Tryd.typeOf25 (v : Value) (w : World) : (ReflectliteType.typeOf #[.iface 47 v]).run Tryd.prog w = .ok (.iface 143 (.agg #[.pointer (some ⟨2, 47, none⟩)])) w := by kernel_rfl
theorem Tryd.assignable25 (w : World) : (ReflectliteType.relation "AssignableTo" ReflectliteType.assignableTo #[.agg #[.pointer (some ⟨2, 47, none⟩)], .iface 143 (.agg #[.pointer (some ⟨2, 47, none⟩)])]).run Tryd.prog w = .ok (.bool true) w := by kernel_rfl
theorem Tryd.valueOf25 (e : Int) (w : World) : (ReflectliteValue.unpack (.iface 47 (.int .i64 e))).run Tryd.prog w
    = .ok (.agg #[.pointer (some ⟨2, 47, none⟩), .pointer (some ⟨w.heap.size, 0, none⟩), .int .u64 130]) (w.alloc (.cells #[.int .i64 e] 47)) := by kernel_rfl

theorem Tryd.elemOf27 (w : World) : (Rtype.elem? 129).run Tryd.prog w = .ok (some 47) w := by kernel_rfl
theorem Tryd.mk25 (p : Addr) (w : World) : (ReflectliteValue.mk 47 p ReflectliteValue.flagAddr).run Tryd.prog w = .ok (.agg #[.pointer (some ⟨2, 47, none⟩), .pointer (some p), .int .u64 386]) w := by kernel_rfl
/-- (Value).Elem at the Value of a **p.E that is not nil: the Value of the *p.E variable that it points to, addressable. -/
theorem Tryd.elemV27 (a p : Addr) (W : World) (ha : W.cell? a = some (.pointer (some p))) :
    (ReflectliteValue.method (ReflectliteValue.valueError "reflectlite.Value.Elem" 0) ReflectliteValue.elem #[.agg #[.pointer (some ⟨2, 129, none⟩), .pointer (some a), .int .u64 150]]).run Tryd.prog W
      = .ok (.agg #[.pointer (some ⟨2, 47, none⟩), .pointer (some p), .int .u64 386]) W := by
  rw [rlm]
  simp only [Sem.run_bind, Tryd.parts27, Result.andThen]
  simp [ReflectliteValue.elem, loadVar, isAgg, underlying, Tryd.underlying129, ha, Result.andThen, Tryd.elemOf27, Tryd.mk25]
theorem rls (v x : Value) : ReflectliteValue.set #[v, x] = (do
    let (some (dst, a, fl), some (src, b, _)) := (← ReflectliteValue.parts v, ← ReflectliteValue.parts x)
      | unsupported (.noEntry "extern/(internal/reflectlite.Value).Set.zeroValue")
    if fl / ReflectliteValue.flagAddr % 2 == 0 then unsupported (.noEntry "extern/(internal/reflectlite.Value).Set.unaddressable")
    let val ← loadVar src b
    if ← Rtype.directlyAssignable dst src then storeVar dst a val
    else if ← Rtype.implements dst src then
      if (← Rtype.kind src) == 20 then
        match val with
        | .nilIface => unsupported (.noEntry "extern/reflectlite: a nil value of one interface type handed on as a value of another")
        | _ => storeVar dst a val
      else storeVar dst a (.iface src val)
    else panicString ("reflectlite.Set: value of type " ++ (← Rtype.spelt src) ++ " is not assignable to type " ++ (← Rtype.spelt dst))
    pure (.tuple #[])) := rfl
theorem Tryd.parts25a (a : Addr) (w : World) : (ReflectliteValue.parts (.agg #[.pointer (some ⟨2, 47, none⟩), .pointer (some a), .int .u64 386])).run Tryd.prog w = .ok (some (47, a, 386)) w := by kernel_rfl
theorem Tryd.parts25 (a : Addr) (w : World) : (ReflectliteValue.parts (.agg #[.pointer (some ⟨2, 47, none⟩), .pointer (some a), .int .u64 130])).run Tryd.prog w = .ok (some (47, a, 130)) w := by kernel_rfl
theorem Tryd.direct25 (w : World) : (Rtype.directlyAssignable 47 47).run Tryd.prog w = .ok true w := by kernel_rfl
theorem Tryd.size25 (w : World) : (sizeOf 47).run Tryd.prog w = .ok 1 w := by kernel_rfl
/-- (Value).Set: the *p.E variable at 'ta' gets what the Value's own variable 'b' holds. -/
theorem Tryd.set25 (ta b : Addr) (e : Int) (old : Value) (W : World) (hb : W.cell? b = some (.int .i64 e)) (ht : W.cell? ta = some old) (hf : W.frozen? ta = false) :
    (ReflectliteValue.set #[.agg #[.pointer (some ⟨2, 47, none⟩), .pointer (some ta), .int .u64 386], .agg #[.pointer (some ⟨2, 47, none⟩), .pointer (some b), .int .u64 130]]).run Tryd.prog W
      = .ok (.tuple #[]) (W.setCell ta (.int .i64 e)) := by
  rw [rls]
  simp only [Sem.run_bind, Tryd.parts25a, Tryd.parts25, Result.andThen]
  simp [ReflectliteValue.flagAddr, loadVar, isAgg, underlying, Tryd.underlying47, hb, Result.andThen, Tryd.direct25, storeVar, Value.cells, storeCells, Addr.add]
  rw [run_store Tryd.prog W ta _ _ (by rfl)]
  simp [ht, hf]

set_option maxHeartbeats 4000000 in
theorem as_hit (e : Int) (t : Addr) (old : Value) (w : World) (hg : w.cell? ⟨1, 0, none⟩ = some (.iface 143 (.agg #[.pointer (some ⟨2, 45, none⟩)]))) (ht0 : w.cell? t = some old) (hf0 : w.frozen? t = false) :
    Calls Tryd.prog 62 #[.iface 47 (.int .i64 e), .iface 129 (.pointer (some t))] w fun ev w' => ev = .returned (.bool true) ∧ w' = ((((w.alloc (.cells #[.pointer (some t)] 129)).alloc (.cells #[.pointer (some ⟨2, 129, none⟩), .pointer (some ⟨w.heap.size, 0, none⟩), .int .u64 150] 132)).alloc (.cells #[.pointer (some ⟨2, 129, none⟩), .pointer (some ⟨w.heap.size, 0, none⟩), .int .u64 150] 132)).alloc (.cells #[.int .i64 e] 47)).setCell t (.int .i64 e) := by
  have h6 := @run_callFunc_extern Tryd.prog 63 _ (fun args => ReflectliteValue.unpack (args.getD 0 (.tuple #[]))) Tryd.func63 (by kernel_rfl) (by kernel_rfl) (by kernel_rfl) (by kernel_rfl)
  have h7 := @run_callFunc_extern Tryd.prog 64 _ (ReflectliteValue.methodAny (ReflectliteValue.valueError "reflectlite.Value.Type" 0) (fun t _ _ _ => ReflectliteType.toType t)) Tryd.func64 (by kernel_rfl) (by kernel_rfl) (by kernel_rfl) (by kernel_rfl)
  have h8 := @run_callFunc_extern Tryd.prog 65 _ (ReflectliteValue.method (ReflectliteValue.valueError "reflectlite.Value.IsNil" 0) ReflectliteValue.isNil) Tryd.func65 (by kernel_rfl) (by kernel_rfl) (by kernel_rfl) (by kernel_rfl)
  have h27 := @run_callFunc_extern Tryd.prog 84 _ (ReflectliteType.abiMethod fun t => do pure (.int .u8 (← Rtype.kind t))) Tryd.func84 (by kernel_rfl) (by kernel_rfl) (by kernel_rfl) (by kernel_rfl)
  have h37 := @run_callFunc_extern Tryd.prog 98 _ (ReflectliteType.method ReflectliteType.elem) Tryd.func98 (by kernel_rfl) (by kernel_rfl) (by kernel_rfl) (by kernel_rfl)
  have h38 := @run_callFunc_extern Tryd.prog 99 _ (ReflectliteType.relation "Implements" ReflectliteType.implements_) Tryd.func99 (by kernel_rfl) (by kernel_rfl) (by kernel_rfl) (by kernel_rfl)
  have h10 := @run_callFunc_extern Tryd.prog 67 _ ReflectliteType.typeOf Tryd.func67 (by kernel_rfl) (by kernel_rfl) (by kernel_rfl) (by kernel_rfl)
  have h35 := @run_callFunc_extern Tryd.prog 96 _ (ReflectliteType.relation "AssignableTo" ReflectliteType.assignableTo) Tryd.func96 (by kernel_rfl) (by kernel_rfl) (by kernel_rfl) (by kernel_rfl)
  have h11 := @run_callFunc_extern Tryd.prog 68 _ (ReflectliteValue.method (ReflectliteValue.valueError "reflectlite.Value.Elem" 0) ReflectliteValue.elem) Tryd.func68 (by kernel_rfl) (by kernel_rfl) (by kernel_rfl) (by kernel_rfl)
  have h12 := @run_callFunc_extern Tryd.prog 69 _ ReflectliteValue.set Tryd.func69 (by kernel_rfl) (by kernel_rfl) (by kernel_rfl) (by kernel_rfl)
  have tO := Tryd.typeOf25
  have mA := Tryd.methodAssignableTo
  have a25 := Tryd.assignable25
  have v25 := Tryd.valueOf25
  have f6 := Tryd.valueOf27
  have f7 := Tryd.type27
  have mK := Tryd.methodKind
  have mE := Tryd.methodElem
  have mI := Tryd.methodImplements
  have k27 := Tryd.kind27
  have k25 := Tryd.kind25
  have e27 := Tryd.elem27
  have i25 := Tryd.implements25
  have n8 := Tryd.isNil27 ⟨w.heap.size, 0, none⟩ t ((w.alloc (.cells #[.pointer (some t)] 129)).alloc (.cells #[.pointer (some ⟨2, 129, none⟩), .pointer (some ⟨w.heap.size, 0, none⟩), .int .u64 150] 132)) (by simp)
  have hlt : 1 < w.heap.size := by
    rcases Nat.lt_or_ge 1 w.heap.size with h | h
    · exact h
    · simp [World.cell?, Array.getElem?_eq_none h] at hg
  have hg2 : ((w.alloc (.cells #[.pointer (some t)] 129)).alloc (.cells #[.pointer (some ⟨2, 129, none⟩), .pointer (some ⟨w.heap.size, 0, none⟩), .int .u64 150] 132)).cell? ⟨1, 0, none⟩ = some (.iface 143 (.agg #[.pointer (some ⟨2, 45, none⟩)])) := by
    rw [World.cell?_alloc_lt _ _ ⟨1, 0, none⟩ (by simp; omega), World.cell?_alloc_lt _ _ ⟨1, 0, none⟩ hlt]; exact hg
  have htl : t.block < w.heap.size := by
    rcases Nat.lt_or_ge t.block w.heap.size with h | h
    · exact h
    · simp [World.cell?, Array.getElem?_eq_none h] at ht0
  have el := Tryd.elemV27 ⟨w.heap.size, 0, none⟩ t (((w.alloc (.cells #[.pointer (some t)] 129)).alloc (.cells #[.pointer (some ⟨2, 129, none⟩), .pointer (some ⟨w.heap.size, 0, none⟩), .int .u64 150] 132)).alloc (.cells #[.pointer (some ⟨2, 129, none⟩), .pointer (some ⟨w.heap.size, 0, none⟩), .int .u64 150] 132)) (by rw [World.cell?_alloc_lt _ _ ⟨w.heap.size, 0, none⟩ (by simp; omega)]; simp)
  have st := Tryd.set25 t ⟨w.heap.size + 1 + 1 + 1, 0, none⟩ e old ((((w.alloc (.cells #[.pointer (some t)] 129)).alloc (.cells #[.pointer (some ⟨2, 129, none⟩), .pointer (some ⟨w.heap.size, 0, none⟩), .int .u64 150] 132)).alloc (.cells #[.pointer (some ⟨2, 129, none⟩), .pointer (some ⟨w.heap.size, 0, none⟩), .int .u64 150] 132)).alloc (.cells #[.int .i64 e] 47))
    (by rw [World.cell?_alloc_at _ _ _ _ (by simp)]; rfl)
    (by rw [World.cell?_alloc_lt _ _ t (by simp; omega), World.cell?_alloc_lt _ _ t (by simp; omega), World.cell?_alloc_lt _ _ t (by simp; omega), World.cell?_alloc_lt _ _ t htl]; exact ht0)
    (by rw [World.frozen?_alloc_old _ _ t (by simp; omega), World.frozen?_alloc_old _ _ t (by simp; omega), World.frozen?_alloc_old _ _ t (by simp; omega), World.frozen?_alloc_old _ _ t (Nat.ne_of_lt htl)]; exact hf0)
  go_enter Tryd.func62, Tryd.ntmps62
  go_wp2
  refine wp_loop_rounds 1 ?_
  rw [rounds_succ]
  go_wp2
  go_ret
  exact ⟨rfl, rfl⟩
end Go.Proofs.YtfanolcjgaccpaaDoor

namespace Go.Proofs.YtfanolcjgaccpaaDoor
open Go Go.RowKit
set_option maxRecDepth 100000

/-- what is told of errors.errorType -/
def ErrType (w : World) : Prop := w.cell? ⟨1, 0, none⟩ = some (.iface 143 (.agg #[.pointer (some ⟨2, 45, none⟩)]))
theorem ErrType.lt {w : World} (h : ErrType w) : 1 < w.heap.size := by
  rcases Nat.lt_or_ge 1 w.heap.size with h' | h'
  · exact h'
  · simp [ErrType, World.cell?, Array.getElem?_eq_none h'] at h
theorem ErrType.below {w w' : World} (h : ErrType w) (hB : Below w.heap.size w w') : ErrType w' := (hB.cell (p := ⟨1, 0, none⟩) h.lt).trans h

set_option maxHeartbeats 800000 in
theorem tell_any (w : World) (c : Int) (hg : ErrType w) :
    Calls Tryd.prog 59 #[errV c] w fun e w' => e = .returned (.int .i64 c) ∧ Below w.heap.size w w' := by
  by_cases hc : c = 0
  · subst hc
    simp only [errV, if_true]
    go_enter Tryd.func59, Tryd.ntmps59
    go_wp2
    go_ret
    exact ⟨rfl, Below.refl _ _⟩
  · simp only [errV, if_neg hc]
    have hlt := hg.lt
    have hit := Lib.hid (as_hit c ⟨w.heap.size, 0, none⟩ (.int .i64 0) (w.alloc (.cells #[.int .i64 0] 47)) ((cell_old (p := ⟨1, 0, none⟩) hlt).trans hg) (World.cell?_alloc_new _ _ _ 0) (World.frozen?_alloc_new _ _ _ _))
    clear hg
    go_enter Tryd.func59, Tryd.ntmps59
    go_wp2_with fail
    refine hit.out.mono ?_
    rintro e w1 ⟨rfl, hw1⟩
    have hB : Below w.heap.size w w1 := by
      rw [hw1]
      refine Below.setCell ?_ (by simp) _
      repeat (refine Below.alloc ?_ (by simp; try omega) _)
      exact Below.refl _ _
    have hx : w1.cell? ⟨w.heap.size, 0, none⟩ = some (.int .i64 c) := by
      rw [hw1]
      rw [World.cell?_setCell_same']
      rw [cell_old (by simp; omega), cell_old (by simp; omega), cell_old (by simp; omega), cell_old (by simp)]
      rw [World.cell?_alloc_new]
      rfl
    have HB := Lib.hid hB
    clear hB hw1 hit
    go_wp2
    go_ret
    exact ⟨rfl, HB.out⟩
end Go.Proofs.YtfanolcjgaccpaaDoor
