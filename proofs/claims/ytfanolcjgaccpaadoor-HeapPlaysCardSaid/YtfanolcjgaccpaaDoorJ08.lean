/- Walks: Keys of package heap, and of the reference's heap; strings.Join of a row. Walks of package heap that change it: Declare. -/
import Derived.Test.YtfanolcjgaccpaaDoorJ07
import Derived.Test.YtfanolcjgaccpaaDoorJ04
namespace Go.Proofs.YtfanolcjgaccpaaDoor
open Go Go.RowKit
set_option maxRecDepth 100000
set_option linter.unusedVariables false

theorem Tryd.infoStrK : (Tryd.prog.info? 9).map (fun i => (i.zero, i.size, i.bytes)) = some (some (.string ByteArray.empty), 1, 16) := by kernel_rfl
def joinS (l : List ByteArray) (sep : ByteArray) : ByteArray := ⟨(Lib.join (l.map (·.data.toList)) sep.data.toList).toArray⟩
theorem joinS_nil (sep : ByteArray) : joinS [] sep = ⟨#[]⟩ := by simp [joinS, Lib.join]
/-- a row of texts -/
def TextsK (w : World) (base : Nat) (v : Value) (l : List ByteArray) : Prop := w.ownsRow base 9 1 v l.length (l.map Value.string)

theorem join_row {w : World} {base : Nat} {v : Value} {l : List ByteArray} (h : TextsK w base v l) (sep : ByteArray) (hn : l.length ≤ 1000) (hlen : (joinS l sep).size ≤ 140737488355328) :
    Calls Tryd.prog 31 #[v, .string sep] w fun e w' => e = .returned (.string (joinS l sep)) ∧ Below w.heap.size w w' := by
  rcases ownsRow_cases h with ⟨hv, hz⟩ | ⟨g, c, hv, h1, h2, hg⟩
  · have e := List.eq_nil_of_length_eq_zero hz
    subst e
    rw [hv, joinS_nil]
    refine (Tryd.strings_Join_none none 0 sep w).mono ?_
    rintro e w' ⟨rfl, rfl⟩
    exact ⟨rfl, Below.refl _ _⟩
  · rw [hv]
    refine (Tryd.strings_Join g 0 c l sep w (fun j x hx => ?_) hg (by omega) h1 (by simpa [joinS, ByteArray.size] using hlen)).mono ?_
    · have := h.cells (g := g) (by rw [hv]; rfl) j (.string x) (by rw [List.getElem?_map, hx]; rfl)
      rwa [show ((⟨g, 0, none⟩ : Addr).add j) = ⟨g, 0 + j, none⟩ by unfold Addr.add; split <;> simp_all] at this
    · rintro e w' ⟨rfl, hB⟩
      exact ⟨rfl, hB⟩

def LHeap.keys (H : LHeap) (n : Int) : List ByteArray := match H.object? n with | some o => o.props.map (·.name) | none => []

section
variable {ρ : Nat → Option Role} {w : World} {hb ho : Nat} {L : HL} {H : LHeap}

set_option maxHeartbeats 1600000 in
theorem keys_any (h : HeapAt ρ w hb ho L H) (n : Int) (hlen : (H.keys n).length ≤ 1000) :
    Calls Tryd.prog 32 #[.pointer (some ⟨hb, ho, none⟩), .int .i64 n] w fun e w' => ∃ v, e = .returned v ∧ TextsK w' w.heap.size v (H.keys n) ∧ Below w.heap.size w w' := by
  rcases hob : H.object? n with _ | o
  · have HC := Lib.hid (object_no h n hob)
    have hd : H.keys n = [] := by simp [LHeap.keys, hob]
    rw [hd]
    clear h hob hd hlen
    go_enter Tryd.func32, Tryd.ntmps32
    go_wp2_with fail
    refine HC.out.mono ?_
    rintro e w1 ⟨rfl, rfl⟩
    go_wp2
    go_ret
    exact ⟨_, rfl, World.ownsRow_nil _ _ _ _, Below.refl _ _⟩
  · obtain ⟨m, rfl, hm⟩ := LHeap.object?_some hob
    have hml := getElem?_lt hm
    have HC := Lib.hid (object_yes h m hml)
    have hd : H.keys m = o.props.map (·.name) := by simp [LHeap.keys, hob]
    rw [hd] at hlen ⊢
    have hblk := (h.obj m o hm).1
    have hown := (h.obj m o hm).2
    have d0 : w.cell? ⟨L.ob m, 0, none⟩ = some (L.pv m) := by simp [World.cell?, hblk]
    generalize o.props = l at *
    obtain ⟨i0, hi, hz0, hz1, hz2⟩ := info_parts Tryd.infoStrK
    rcases ownsRow_cases hown with ⟨hv, hz⟩ | ⟨g1, c1, hv, h1, h2, hg⟩
    · rw [hv] at d0
      have : l = [] := List.eq_nil_of_length_eq_zero hz
      subst this
      clear hown h hob hz hm hv hlen hd hblk
      go_enter Tryd.func32, Tryd.ntmps32
      go_wp2_with fail
      refine HC.out.mono ?_
      rintro e w1 ⟨rfl, rfl⟩
      go_wp2
      go_loop [5, 22] (fun v i => i = .int .i64 0 ∧ v = .slice none 0 0) (fun _ _ => 0)
      case atStart => exact ⟨rfl, rfl⟩
      case round =>
        obtain ⟨rfl, rfl⟩ := hrel
        go_wp2
        go_ret
        exact ⟨_, rfl, World.ownsRow_nil _ _ _ _, Below.refl _ _⟩
    · have hrow := fun i j a x => row_cell (f := LProp.cells) (m := 5) (fun _ => rfl) hown (g := g1) (by rw [hv]; rfl) (i := i) (j := j) (a := a) (x := x)
      rw [hv] at d0
      obtain ⟨n, hn⟩ : ∃ n, n = l.length := ⟨_, rfl⟩
      rw [List.length_map] at hlen
      rw [← hn] at h1 d0 hlen
      unfold maxLen at h2
      have HN := Lib.hid hn
      have HR := Lib.hid hrow
      clear hn hown h hob hm hrow hv hd hblk
      go_enter Tryd.func32, Tryd.ntmps32
      go_wp2_with fail
      refine HC.out.mono ?_
      rintro e w1 ⟨rfl, rfl⟩
      go_wp2
      go_loopw [5, 9, 22] (fun v _ i wr => ∃ k : Nat, i = .int .i64 k ∧ k ≤ n ∧ Hid (wr.ownsRow w.heap.size 9 1 v k (((l.take k).map (·.name)).map Value.string)) ∧ Hid (Below w.heap.size w wr)) (fun _ _ i _ => n - (intOf i).toNat)
      case atStart => exact ⟨0, rfl, by omega, Lib.hid (World.ownsRow_nil _ _ _ _), Lib.hid (Below.refl _ _)⟩
      case round =>
        obtain ⟨k, rfl, hk, HO, HB⟩ := hrel
        have hB := HB.out
        have hs := hB.size
        by_cases hlt : k < n
        · have hkl : k < l.length := by have := HN.out; omega
          have hget : l[k]? = some l[k] := List.getElem?_eq_getElem hkl
          generalize l[k] = b at hget
          obtain ⟨bn, ⟨bk, bm, bs⟩, brd⟩ := b
          have c0 : wr.cell? ⟨g1, k * 5, none⟩ = some (.string bn) := (hB.cell (p := ⟨g1, k * 5, none⟩) hg).trans (HR.out k 0 _ _ hget rfl)
          have cc1 : wr.cell? ⟨g1, k * 5 + 1, none⟩ = some (.int .i64 bk) := (hB.cell (p := ⟨g1, k * 5 + 1, none⟩) hg).trans (HR.out k 1 _ _ hget rfl)
          have cc2 : wr.cell? ⟨g1, k * 5 + 2, none⟩ = some (.int .i64 bm) := (hB.cell (p := ⟨g1, k * 5 + 2, none⟩) hg).trans (HR.out k 2 _ _ hget rfl)
          have cc3 : wr.cell? ⟨g1, k * 5 + 3, none⟩ = some (.string bs) := (hB.cell (p := ⟨g1, k * 5 + 3, none⟩) hg).trans (HR.out k 3 _ _ hget rfl)
          have cc4 : wr.cell? ⟨g1, k * 5 + 4, none⟩ = some (.bool brd) := (hB.cell (p := ⟨g1, k * 5 + 4, none⟩) hg).trans (HR.out k 4 _ _ hget rfl)
          have HG := Lib.hid hget
          have HO1 := HO
          clear hget hB hkl HO
          obtain ⟨vv, hvv⟩ : ∃ v, v = u5 := ⟨_, rfl⟩
          rw [← hvv] at HO1
          subst hvv
          go_wp2_with (at_builtin; go_must (refine wpList_append_lies _ rfl (.tmp 26) (.tmp 29) 66 rfl w.heap.size 9 i0 (.string ByteArray.empty) 1 16 Tryd.underlying66 hi hz0 hz1 hz2 rfl (by decide) _ k (((l.take k).map (·.name)).map Value.string) rfl ((HO1.out.alloc _).alloc _) ⟨wr.heap.size + 1, 0, none⟩ 1 1 [.string bn] rfl rfl (news1 _ _ _ _) (by intro u hu; simp at hu; subst hu; rfl) (by omega) (by unfold maxLen; omega) (by omega) (by simp; omega) (wr.heap.size + 2) (by simp) ?_); intro g cap w2 hown2 hgrow2 hat2 hgl2; have HG2 := Lib.hid hgrow2; have HW := Lib.hid hown2; clear hgrow2 hown2 hat2 hgl2)
          go_roundw
          case rel =>
            refine ⟨k + 1, by go_num, by omega, Lib.hid ?_, Lib.hid ?_⟩
            · rw [List.take_succ_eq_append_getElem (by have := HN.out; omega), List.map_append, List.map_append]
              have e : l[k]'(by have := HN.out; omega) = ⟨bn, ⟨bk, bm, bs⟩, brd⟩ := by
                have := HG.out
                rw [List.getElem?_eq_getElem (by have := HN.out; omega)] at this
                exact Option.some.inj this
              rw [e]
              exact HW.out
            · exact ((HB.out.alloc hs _).alloc (by simp; omega) _).grown HG2.out (by simp; omega) fun j hj => (World.ownsRow.lt HO1.out j hj).1
          case measure => simp [intOf]; omega
        · have hkn : k = n := by omega
          subst hkn
          clear hB
          go_wp2
          go_ret
          refine ⟨_, rfl, ?_, HB.out⟩
          have := HO.out
          rw [HN.out, List.take_length] at this
          unfold TextsK
          rw [List.length_map]
          exact this
end
end Go.Proofs.YtfanolcjgaccpaaDoor

namespace Go.Proofs.YtfanolcjgaccpaaDoor
open Go Go.RowKit
set_option maxRecDepth 100000

/-- an error, or the heap that is left -/
def LHeap.declare (H : LHeap) (n : Int) (name : ByteArray) (kind : Int) (v : LVal) : LHeap × Int :=
  match H.scope? n with
  | none => (H, 7)
  | some s =>
    if 0 ≤ s.object then (H, 1)
    else if H.has n name then (H, 9)
    else ({ H with scopes := H.scopes.set n.toNat { s with names := s.names ++ [⟨name, v, kind, !decide (kind = 1) && !decide (kind = 2)⟩] } }, 0)

section
variable {ρ : Nat → Option Role} {w : World} {hb ho : Nat} {L : HL} {H : LHeap}

theorem Fr.mono_below {w1 w' : World} {ρ' : Nat → Option Role} (hh : hb < w.heap.size) (hB : Below w.heap.size w w1) (hF : Fr ρ ρ' hb ho w1 w') : Fr ρ ρ' hb ho w w' := (Fr.of_below hh hB).trans hF

/-- the heap behind the region of Declare -/
theorem decl_fin {w1 w2 : World} {m gg cap : Nat} {s : LScope} {nv : Value} {b : LBind} {T : TypeId} (h : HeapAt ρ w1 hb ho L H) (hm : H.scopes[m]? = some s) (hnv : nv = L.nv m)
    (hblk : w1.heap[L.sb m]? = some (.cells #[.int .i64 s.outer, .int .i64 s.object, nv] 78 (0, 0)))
    (hg : ((w1.alloc (.cells b.cells.toArray T)).drew).grownBy w2 nv.ownBlock)
    (hown : w2.ownsRow 0 96 6 (.slice (some ⟨gg, 0, none⟩) (s.names.length + 1) cap) (s.names.length + 1) (s.names.flatMap LBind.cells ++ b.cells))
    (hat : nv.ownBlock = some gg ∨ gg = w1.heap.size + 1) :
    ∃ ρ' L', HeapAt ρ' (w2.setCell ⟨L.sb m, 2, none⟩ (.slice (some ⟨gg, 0, none⟩) (s.names.length + 1) cap)) hb ho L' { H with scopes := H.scopes.set m { s with names := s.names ++ [b] } } ∧
      Fr ρ ρ' hb ho w1 (w2.setCell ⟨L.sb m, 2, none⟩ (.slice (some ⟨gg, 0, none⟩) (s.names.length + 1) cap)) := by
  have hml := getElem?_lt hm
  have hA : Below w1.heap.size w1 ((w1.alloc (.cells b.cells.toArray T)).drew) := ((Below.refl _ _).alloc (Nat.le_refl _) _).drew
  have hsb : L.sb m < w1.heap.size := (Array.getElem?_eq_some_iff.1 hblk).1
  have hne : nv.ownBlock ≠ some (L.sb m) := fun e => by
    rw [hnv] at e
    have h1 := h.rnv m _ hml e
    rw [h.rsb m hml] at h1
    cases h1
  have hgb : gg ≠ L.sb m := by
    rcases hat with h' | h'
    · rintro rfl; exact hne h'
    · omega
  have d2 : w1.cell? ⟨L.sb m, 2, none⟩ = some nv := by simp [World.cell?, hblk]
  obtain ⟨k1, k2, k3, k4, k5, k6, k7, k8, k9, k10⟩ := push_field (.slice (some ⟨gg, 0, none⟩) (s.names.length + 1) cap) hA hg hsb hne d2
  have hblk2 : w2.heap[L.sb m]? = some (.cells #[.int .i64 s.outer, .int .i64 s.object, nv] 78 (0, 0)) :=
    (hg.block _ (Nat.lt_of_lt_of_le hsb hA.size) (fun e => hne e.symm)).trans ((hA.block _ hsb).trans hblk)
  refine h.setNames hm (nv' := .slice (some ⟨gg, 0, none⟩) (s.names.length + 1) cap) (names' := s.names ++ [b]) ?_ ?_ k7 ?_ ?_ k8 k9 k10
  · exact setCell_block _ hblk2
  · have := ownsRow_block hown fun g' hg' => k5 g' (by simp only [Value.ownBlock, Option.some.injEq] at hg'; omega)
    simpa using this
  · intro b' h1 h2 h3
    rw [← hnv] at h3
    exact k4 b' h1 h2 h3
  · intro g' hg'
    simp only [Value.ownBlock, Option.some.injEq] at hg'
    subst hg'
    rw [← hnv]
    rcases hat with h' | h'
    · exact .inl h'
    · exact .inr (by omega)

set_option maxHeartbeats 1600000 in
theorem declare_ok1 (h : HeapAt ρ w hb ho L H) (m : Nat) (s : LScope) (name : ByteArray) (kind : Int) (vk vn : Int) (vs : ByteArray) (hm : H.scopes[m]? = some s) (hso : ¬ 0 ≤ s.object) (hq' : H.has (m : Int) name = false) (hln : s.names.length < 1099511627776)
    (k1 : ((kind : Int) != 1) = false) :
    Calls Tryd.prog 12 #[.pointer (some ⟨hb, ho, none⟩), .int .i64 m, .string name, .int .i64 kind, .agg #[.int .i64 vk, .int .i64 vn, .string vs]] w fun e w' => e = .returned (errV 0) ∧
      ∃ ρ' L', HeapAt ρ' w' hb ho L' { H with scopes := H.scopes.set m { s with names := s.names ++ [⟨name, ⟨vk, vn, vs⟩, kind, false⟩] } } ∧ Fr ρ ρ' hb ho w w' := by
  have hhb := h.hbLt
  have hnew : ∀ b, ρ b ≠ none → b < w.heap.size := h.live
  have h1 := h.below ((Below.refl _ _).alloc (Nat.le_refl _) (.cells #[.int .i64 vk, .int .i64 vn, .string vs] 36))
  have hB0 : Below w.heap.size w (w.alloc (.cells #[.int .i64 vk, .int .i64 vn, .string vs] 36)) := (Below.refl _ _).alloc (Nat.le_refl _) _
  have hc1 : (w.alloc (.cells #[.int .i64 vk, .int .i64 vn, .string vs] 36)).cell? ⟨L.sb m, 1, none⟩ = some (.int .i64 s.object) := by have := (h1.scp m s hm).1; simp [World.cell?, this]
  have HC := Lib.hid (scope_yes h1 m (getElem?_lt hm))
  have HA := Lib.hid (has_any h1 (m : Int) name)
  rw [hq'] at HA
  obtain ⟨i0, hi, hz0, hz1, hz2⟩ := info_parts Tryd.infoBind
  have HH := Lib.hid h1
  have HB := Lib.hid hB0
  have HM := Lib.hid hm
  clear h h1 hB0 hm hq'
  go_enter Tryd.func12, Tryd.ntmps12
  go_wp2_with fail
  refine HC.out.mono ?_
  rintro e w1 ⟨rfl, rfl⟩
  go_wp2_with fail
  refine HA.out.mono ?_
  rintro e w1 ⟨rfl, hB⟩
  obtain ⟨q0, q1, q2, f0, f1, f2, hs, hB'⟩ := box_facts hB
  have hH1 := HH.out.below hB
  obtain ⟨hblk, hown⟩ := hH1.scp m s HM.out
  obtain ⟨nv, hnv⟩ : ∃ v, v = L.nv m := ⟨_, rfl⟩
  rw [← hnv] at hblk hown
  have hsb : L.sb m < w1.heap.size := (Array.getElem?_eq_some_iff.1 hblk).1
  have d2 : w1.cell? ⟨L.sb m, 2, none⟩ = some nv := by simp [World.cell?, hblk]
  have fz2 : w1.frozen? ⟨L.sb m, 2, none⟩ = false := by simp [World.frozen?, hblk]
  have hneb : nv.ownBlock ≠ some (L.sb m) := fun e => by
    rw [hnv] at e
    have h1 := hH1.rnv m _ (getElem?_lt HM.out) e
    rw [hH1.rsb m (getElem?_lt HM.out)] at h1
    cases h1
  have HH1 := Lib.hid hH1
  have HBk := Lib.hid hblk
  have HO := Lib.hid hown
  have HN := Lib.hid hnv
  have HNe := Lib.hid hneb
  have HB1 := Lib.hid hB'
  clear hB hB' hH1 hblk hown hnv hneb
  have HNw : Hid (nv.ownBlock ≠ some w.heap.size) := fun e => by
    have h1 := HH1.out.rnv m w.heap.size (getElem?_lt HM.out) (by rw [← HN.out]; exact e)
    have h2 := HH.out.rnv m w.heap.size (getElem?_lt HM.out) (by rw [← HN.out]; exact e)
    have h3 := h2.symm.trans h1
    exact absurd (hnew w.heap.size (by rw [h2]; simp)) (by omega)
  go_wp2_with fail
  refine wp_region_plan [(true, 0), (true, 1), (true, 2), (true, 3), (true, 4), (true, 5), (true, 6), (true, 7), (true, 8), (true, 9), (true, 10), (true, 11), (true, 12), (true, 13), (true, 14), (false, 15), (false, 16)] [17, 18, 19] (fun W => W.cell? ⟨L.sb m, 2, none⟩ = some nv ∧ W.cell? ⟨w.heap.size, 0, none⟩ = some (.int .i64 vk) ∧ W.cell? ⟨w.heap.size, 1, none⟩ = some (.int .i64 vn) ∧ W.cell? ⟨w.heap.size, 2, none⟩ = some (.string vs)) (by kernel_rfl) (by kernel_rfl) (fun _ _ d _ _ h => by cases d <;> exact h) ⟨d2, q0, q1, q2⟩ (fun hS0 => ?_)
  simp only [planOps, List.filterMap_cons, List.filterMap_nil, List.getElem?_toArray, List.getElem?_cons_zero, List.getElem?_cons_succ, Option.map_some]
  iterate 15
    first
      | (refine wpPlan_take ?_ (by rfl) (fun w' hS' => ?_) ?_; rotate_left; (obtain ⟨s0, s1, s2, s3⟩ := hS'; go_simp; first | done | with_reducible rfl); simp only [Act.put, List.setIfInBounds_toArray, List.set_cons_zero, List.set_cons_succ])
      | (refine wpPlan_skip (by rfl) ?_; simp only [Act.put, List.setIfInBounds_toArray, List.set_cons_zero, List.set_cons_succ])
  refine wpPlan_go (fun K hK => ?_)
  go_simp
  refine hK _ _ ⟨(cell_old hsb).trans d2, (cell_old hs).trans q0, (cell_old hs).trans q1, (cell_old hs).trans q2⟩ ?_
  clear hK K
  refine wpPlan_go (fun K hK => ?_)
  refine step_append_lies _ (by rfl) (.tmp 40) (.tmp 51) 76 (by rfl) 0 96 i0 _ 6 64 Tryd.underlying76 hi hz0 hz1 hz2 rfl (by decide) nv s.names.length (s.names.flatMap LBind.cells) (by rfl) ((HO.out.alloc _).drew) ⟨w1.heap.size, 0, none⟩ 1 1 (LBind.cells ⟨name, ⟨vk, vn, vs⟩, kind, false⟩) (by rfl) rfl (World.news_of_block (cs := (LBind.cells ⟨name, ⟨vk, vn, vs⟩, kind, false⟩).toArray) (t := 96) (fr := (0, 0)) (heap_alloc_new w1 _)) (by simp [LBind.cells, Value.oneCell']) (by decide) (by unfold maxLen; omega) (by omega) (by omega) (w1.heap.size + 1) (by simp) ?_
  intro gg cap w2 hown2 hgrow2 hat2 hlt2
  have far2 : ∀ b o, b < w1.heap.size → nv.ownBlock ≠ some b → w2.cell? ⟨b, o, none⟩ = w1.cell? ⟨b, o, none⟩ := fun b o hb1 hb2 => (hgrow2.cell_far ⟨b, o, none⟩ (by simp; omega) (fun e => hb2 e.symm)).trans (cell_old hb1)
  have fz2' : w2.frozen? ⟨L.sb m, 2, none⟩ = false := (hgrow2.frozen_far ⟨L.sb m, 2, none⟩ (by simp; omega) (fun e => HNe.out e.symm)).trans ((frozen_old hsb).trans fz2)
  have e2 := (far2 _ 2 hsb HNe.out).trans d2
  refine hK _ _ ⟨e2, (far2 _ 0 hs HNw.out).trans q0, (far2 _ 1 hs HNw.out).trans q1, (far2 _ 2 hs HNw.out).trans q2⟩ ?_
  clear hK K
  simp only [Act.put, List.setIfInBounds_toArray, List.set_cons_zero, List.set_cons_succ]
  have HG := Lib.hid hgrow2
  have HW := Lib.hid hown2
  have HT := Lib.hid hat2
  have HGL := Lib.hid hlt2
  clear hgrow2 hown2 hat2 hlt2 far2
  refine wpPlan_end ?_
  go_wp2
  go_ret
  refine ⟨rfl, ?_⟩
  have hfin := decl_fin (b := ⟨name, ⟨vk, vn, vs⟩, kind, false⟩) HH1.out HM.out HN.out HBk.out HG.out HW.out HT.out
  obtain ⟨ρ', L', hA, hF⟩ := hfin
  exact ⟨ρ', L', hA, (Fr.of_below hhb HB1.out).trans hF⟩

set_option maxHeartbeats 1600000 in
theorem declare_ok2 (h : HeapAt ρ w hb ho L H) (m : Nat) (s : LScope) (name : ByteArray) (kind : Int) (vk vn : Int) (vs : ByteArray) (hm : H.scopes[m]? = some s) (hso : ¬ 0 ≤ s.object) (hq' : H.has (m : Int) name = false) (hln : s.names.length < 1099511627776)
    (k1 : ((kind : Int) != 1) = true) (k2 : ((kind : Int) != 2) = false) :
    Calls Tryd.prog 12 #[.pointer (some ⟨hb, ho, none⟩), .int .i64 m, .string name, .int .i64 kind, .agg #[.int .i64 vk, .int .i64 vn, .string vs]] w fun e w' => e = .returned (errV 0) ∧
      ∃ ρ' L', HeapAt ρ' w' hb ho L' { H with scopes := H.scopes.set m { s with names := s.names ++ [⟨name, ⟨vk, vn, vs⟩, kind, false⟩] } } ∧ Fr ρ ρ' hb ho w w' := by
  have hhb := h.hbLt
  have hnew : ∀ b, ρ b ≠ none → b < w.heap.size := h.live
  have h1 := h.below ((Below.refl _ _).alloc (Nat.le_refl _) (.cells #[.int .i64 vk, .int .i64 vn, .string vs] 36))
  have hB0 : Below w.heap.size w (w.alloc (.cells #[.int .i64 vk, .int .i64 vn, .string vs] 36)) := (Below.refl _ _).alloc (Nat.le_refl _) _
  have hc1 : (w.alloc (.cells #[.int .i64 vk, .int .i64 vn, .string vs] 36)).cell? ⟨L.sb m, 1, none⟩ = some (.int .i64 s.object) := by have := (h1.scp m s hm).1; simp [World.cell?, this]
  have HC := Lib.hid (scope_yes h1 m (getElem?_lt hm))
  have HA := Lib.hid (has_any h1 (m : Int) name)
  rw [hq'] at HA
  obtain ⟨i0, hi, hz0, hz1, hz2⟩ := info_parts Tryd.infoBind
  have HH := Lib.hid h1
  have HB := Lib.hid hB0
  have HM := Lib.hid hm
  clear h h1 hB0 hm hq'
  go_enter Tryd.func12, Tryd.ntmps12
  go_wp2_with fail
  refine HC.out.mono ?_
  rintro e w1 ⟨rfl, rfl⟩
  go_wp2_with fail
  refine HA.out.mono ?_
  rintro e w1 ⟨rfl, hB⟩
  obtain ⟨q0, q1, q2, f0, f1, f2, hs, hB'⟩ := box_facts hB
  have hH1 := HH.out.below hB
  obtain ⟨hblk, hown⟩ := hH1.scp m s HM.out
  obtain ⟨nv, hnv⟩ : ∃ v, v = L.nv m := ⟨_, rfl⟩
  rw [← hnv] at hblk hown
  have hsb : L.sb m < w1.heap.size := (Array.getElem?_eq_some_iff.1 hblk).1
  have d2 : w1.cell? ⟨L.sb m, 2, none⟩ = some nv := by simp [World.cell?, hblk]
  have fz2 : w1.frozen? ⟨L.sb m, 2, none⟩ = false := by simp [World.frozen?, hblk]
  have hneb : nv.ownBlock ≠ some (L.sb m) := fun e => by
    rw [hnv] at e
    have h1 := hH1.rnv m _ (getElem?_lt HM.out) e
    rw [hH1.rsb m (getElem?_lt HM.out)] at h1
    cases h1
  have HH1 := Lib.hid hH1
  have HBk := Lib.hid hblk
  have HO := Lib.hid hown
  have HN := Lib.hid hnv
  have HNe := Lib.hid hneb
  have HB1 := Lib.hid hB'
  clear hB hB' hH1 hblk hown hnv hneb
  have HNw : Hid (nv.ownBlock ≠ some w.heap.size) := fun e => by
    have h1 := HH1.out.rnv m w.heap.size (getElem?_lt HM.out) (by rw [← HN.out]; exact e)
    have h2 := HH.out.rnv m w.heap.size (getElem?_lt HM.out) (by rw [← HN.out]; exact e)
    have h3 := h2.symm.trans h1
    exact absurd (hnew w.heap.size (by rw [h2]; simp)) (by omega)
  go_wp2_with fail
  refine wp_region_plan [(true, 0), (true, 1), (true, 2), (true, 3), (true, 4), (true, 5), (true, 6), (true, 7), (true, 8), (true, 9), (true, 10), (true, 11), (true, 12), (true, 13), (true, 14), (false, 15), (false, 16)] [17, 18, 19] (fun W => W.cell? ⟨L.sb m, 2, none⟩ = some nv ∧ W.cell? ⟨w.heap.size, 0, none⟩ = some (.int .i64 vk) ∧ W.cell? ⟨w.heap.size, 1, none⟩ = some (.int .i64 vn) ∧ W.cell? ⟨w.heap.size, 2, none⟩ = some (.string vs)) (by kernel_rfl) (by kernel_rfl) (fun _ _ d _ _ h => by cases d <;> exact h) ⟨d2, q0, q1, q2⟩ (fun hS0 => ?_)
  simp only [planOps, List.filterMap_cons, List.filterMap_nil, List.getElem?_toArray, List.getElem?_cons_zero, List.getElem?_cons_succ, Option.map_some]
  iterate 15
    first
      | (refine wpPlan_take ?_ (by rfl) (fun w' hS' => ?_) ?_; rotate_left; (obtain ⟨s0, s1, s2, s3⟩ := hS'; go_simp; first | done | with_reducible rfl); simp only [Act.put, List.setIfInBounds_toArray, List.set_cons_zero, List.set_cons_succ])
      | (refine wpPlan_skip (by rfl) ?_; simp only [Act.put, List.setIfInBounds_toArray, List.set_cons_zero, List.set_cons_succ])
  refine wpPlan_go (fun K hK => ?_)
  go_simp
  refine hK _ _ ⟨(cell_old hsb).trans d2, (cell_old hs).trans q0, (cell_old hs).trans q1, (cell_old hs).trans q2⟩ ?_
  clear hK K
  refine wpPlan_go (fun K hK => ?_)
  refine step_append_lies _ (by rfl) (.tmp 40) (.tmp 51) 76 (by rfl) 0 96 i0 _ 6 64 Tryd.underlying76 hi hz0 hz1 hz2 rfl (by decide) nv s.names.length (s.names.flatMap LBind.cells) (by rfl) ((HO.out.alloc _).drew) ⟨w1.heap.size, 0, none⟩ 1 1 (LBind.cells ⟨name, ⟨vk, vn, vs⟩, kind, false⟩) (by rfl) rfl (World.news_of_block (cs := (LBind.cells ⟨name, ⟨vk, vn, vs⟩, kind, false⟩).toArray) (t := 96) (fr := (0, 0)) (heap_alloc_new w1 _)) (by simp [LBind.cells, Value.oneCell']) (by decide) (by unfold maxLen; omega) (by omega) (by omega) (w1.heap.size + 1) (by simp) ?_
  intro gg cap w2 hown2 hgrow2 hat2 hlt2
  have far2 : ∀ b o, b < w1.heap.size → nv.ownBlock ≠ some b → w2.cell? ⟨b, o, none⟩ = w1.cell? ⟨b, o, none⟩ := fun b o hb1 hb2 => (hgrow2.cell_far ⟨b, o, none⟩ (by simp; omega) (fun e => hb2 e.symm)).trans (cell_old hb1)
  have fz2' : w2.frozen? ⟨L.sb m, 2, none⟩ = false := (hgrow2.frozen_far ⟨L.sb m, 2, none⟩ (by simp; omega) (fun e => HNe.out e.symm)).trans ((frozen_old hsb).trans fz2)
  have e2 := (far2 _ 2 hsb HNe.out).trans d2
  refine hK _ _ ⟨e2, (far2 _ 0 hs HNw.out).trans q0, (far2 _ 1 hs HNw.out).trans q1, (far2 _ 2 hs HNw.out).trans q2⟩ ?_
  clear hK K
  simp only [Act.put, List.setIfInBounds_toArray, List.set_cons_zero, List.set_cons_succ]
  have HG := Lib.hid hgrow2
  have HW := Lib.hid hown2
  have HT := Lib.hid hat2
  have HGL := Lib.hid hlt2
  clear hgrow2 hown2 hat2 hlt2 far2
  refine wpPlan_end ?_
  go_wp2
  go_ret
  refine ⟨rfl, ?_⟩
  have hfin := decl_fin (b := ⟨name, ⟨vk, vn, vs⟩, kind, false⟩) HH1.out HM.out HN.out HBk.out HG.out HW.out HT.out
  obtain ⟨ρ', L', hA, hF⟩ := hfin
  exact ⟨ρ', L', hA, (Fr.of_below hhb HB1.out).trans hF⟩

set_option maxHeartbeats 1600000 in
theorem declare_ok3 (h : HeapAt ρ w hb ho L H) (m : Nat) (s : LScope) (name : ByteArray) (kind : Int) (vk vn : Int) (vs : ByteArray) (hm : H.scopes[m]? = some s) (hso : ¬ 0 ≤ s.object) (hq' : H.has (m : Int) name = false) (hln : s.names.length < 1099511627776)
    (k1 : ((kind : Int) != 1) = true) (k2 : ((kind : Int) != 2) = true) :
    Calls Tryd.prog 12 #[.pointer (some ⟨hb, ho, none⟩), .int .i64 m, .string name, .int .i64 kind, .agg #[.int .i64 vk, .int .i64 vn, .string vs]] w fun e w' => e = .returned (errV 0) ∧
      ∃ ρ' L', HeapAt ρ' w' hb ho L' { H with scopes := H.scopes.set m { s with names := s.names ++ [⟨name, ⟨vk, vn, vs⟩, kind, true⟩] } } ∧ Fr ρ ρ' hb ho w w' := by
  have hhb := h.hbLt
  have hnew : ∀ b, ρ b ≠ none → b < w.heap.size := h.live
  have h1 := h.below ((Below.refl _ _).alloc (Nat.le_refl _) (.cells #[.int .i64 vk, .int .i64 vn, .string vs] 36))
  have hB0 : Below w.heap.size w (w.alloc (.cells #[.int .i64 vk, .int .i64 vn, .string vs] 36)) := (Below.refl _ _).alloc (Nat.le_refl _) _
  have hc1 : (w.alloc (.cells #[.int .i64 vk, .int .i64 vn, .string vs] 36)).cell? ⟨L.sb m, 1, none⟩ = some (.int .i64 s.object) := by have := (h1.scp m s hm).1; simp [World.cell?, this]
  have HC := Lib.hid (scope_yes h1 m (getElem?_lt hm))
  have HA := Lib.hid (has_any h1 (m : Int) name)
  rw [hq'] at HA
  obtain ⟨i0, hi, hz0, hz1, hz2⟩ := info_parts Tryd.infoBind
  have HH := Lib.hid h1
  have HB := Lib.hid hB0
  have HM := Lib.hid hm
  clear h h1 hB0 hm hq'
  go_enter Tryd.func12, Tryd.ntmps12
  go_wp2_with fail
  refine HC.out.mono ?_
  rintro e w1 ⟨rfl, rfl⟩
  go_wp2_with fail
  refine HA.out.mono ?_
  rintro e w1 ⟨rfl, hB⟩
  obtain ⟨q0, q1, q2, f0, f1, f2, hs, hB'⟩ := box_facts hB
  have hH1 := HH.out.below hB
  obtain ⟨hblk, hown⟩ := hH1.scp m s HM.out
  obtain ⟨nv, hnv⟩ : ∃ v, v = L.nv m := ⟨_, rfl⟩
  rw [← hnv] at hblk hown
  have hsb : L.sb m < w1.heap.size := (Array.getElem?_eq_some_iff.1 hblk).1
  have d2 : w1.cell? ⟨L.sb m, 2, none⟩ = some nv := by simp [World.cell?, hblk]
  have fz2 : w1.frozen? ⟨L.sb m, 2, none⟩ = false := by simp [World.frozen?, hblk]
  have hneb : nv.ownBlock ≠ some (L.sb m) := fun e => by
    rw [hnv] at e
    have h1 := hH1.rnv m _ (getElem?_lt HM.out) e
    rw [hH1.rsb m (getElem?_lt HM.out)] at h1
    cases h1
  have HH1 := Lib.hid hH1
  have HBk := Lib.hid hblk
  have HO := Lib.hid hown
  have HN := Lib.hid hnv
  have HNe := Lib.hid hneb
  have HB1 := Lib.hid hB'
  clear hB hB' hH1 hblk hown hnv hneb
  have HNw : Hid (nv.ownBlock ≠ some w.heap.size) := fun e => by
    have h1 := HH1.out.rnv m w.heap.size (getElem?_lt HM.out) (by rw [← HN.out]; exact e)
    have h2 := HH.out.rnv m w.heap.size (getElem?_lt HM.out) (by rw [← HN.out]; exact e)
    have h3 := h2.symm.trans h1
    exact absurd (hnew w.heap.size (by rw [h2]; simp)) (by omega)
  go_wp2_with fail
  refine wp_region_plan [(true, 0), (true, 1), (true, 2), (true, 3), (true, 4), (true, 5), (true, 6), (true, 7), (true, 8), (true, 9), (true, 10), (true, 11), (true, 12), (true, 13), (true, 14), (false, 15), (false, 16)] [17, 18, 19] (fun W => W.cell? ⟨L.sb m, 2, none⟩ = some nv ∧ W.cell? ⟨w.heap.size, 0, none⟩ = some (.int .i64 vk) ∧ W.cell? ⟨w.heap.size, 1, none⟩ = some (.int .i64 vn) ∧ W.cell? ⟨w.heap.size, 2, none⟩ = some (.string vs)) (by kernel_rfl) (by kernel_rfl) (fun _ _ d _ _ h => by cases d <;> exact h) ⟨d2, q0, q1, q2⟩ (fun hS0 => ?_)
  simp only [planOps, List.filterMap_cons, List.filterMap_nil, List.getElem?_toArray, List.getElem?_cons_zero, List.getElem?_cons_succ, Option.map_some]
  iterate 15
    first
      | (refine wpPlan_take ?_ (by rfl) (fun w' hS' => ?_) ?_; rotate_left; (obtain ⟨s0, s1, s2, s3⟩ := hS'; go_simp; first | done | with_reducible rfl); simp only [Act.put, List.setIfInBounds_toArray, List.set_cons_zero, List.set_cons_succ])
      | (refine wpPlan_skip (by rfl) ?_; simp only [Act.put, List.setIfInBounds_toArray, List.set_cons_zero, List.set_cons_succ])
  refine wpPlan_go (fun K hK => ?_)
  go_simp
  refine hK _ _ ⟨(cell_old hsb).trans d2, (cell_old hs).trans q0, (cell_old hs).trans q1, (cell_old hs).trans q2⟩ ?_
  clear hK K
  refine wpPlan_go (fun K hK => ?_)
  refine step_append_lies _ (by rfl) (.tmp 40) (.tmp 51) 76 (by rfl) 0 96 i0 _ 6 64 Tryd.underlying76 hi hz0 hz1 hz2 rfl (by decide) nv s.names.length (s.names.flatMap LBind.cells) (by rfl) ((HO.out.alloc _).drew) ⟨w1.heap.size, 0, none⟩ 1 1 (LBind.cells ⟨name, ⟨vk, vn, vs⟩, kind, true⟩) (by rfl) rfl (World.news_of_block (cs := (LBind.cells ⟨name, ⟨vk, vn, vs⟩, kind, true⟩).toArray) (t := 96) (fr := (0, 0)) (heap_alloc_new w1 _)) (by simp [LBind.cells, Value.oneCell']) (by decide) (by unfold maxLen; omega) (by omega) (by omega) (w1.heap.size + 1) (by simp) ?_
  intro gg cap w2 hown2 hgrow2 hat2 hlt2
  have far2 : ∀ b o, b < w1.heap.size → nv.ownBlock ≠ some b → w2.cell? ⟨b, o, none⟩ = w1.cell? ⟨b, o, none⟩ := fun b o hb1 hb2 => (hgrow2.cell_far ⟨b, o, none⟩ (by simp; omega) (fun e => hb2 e.symm)).trans (cell_old hb1)
  have fz2' : w2.frozen? ⟨L.sb m, 2, none⟩ = false := (hgrow2.frozen_far ⟨L.sb m, 2, none⟩ (by simp; omega) (fun e => HNe.out e.symm)).trans ((frozen_old hsb).trans fz2)
  have e2 := (far2 _ 2 hsb HNe.out).trans d2
  refine hK _ _ ⟨e2, (far2 _ 0 hs HNw.out).trans q0, (far2 _ 1 hs HNw.out).trans q1, (far2 _ 2 hs HNw.out).trans q2⟩ ?_
  clear hK K
  simp only [Act.put, List.setIfInBounds_toArray, List.set_cons_zero, List.set_cons_succ]
  have HG := Lib.hid hgrow2
  have HW := Lib.hid hown2
  have HT := Lib.hid hat2
  have HGL := Lib.hid hlt2
  clear hgrow2 hown2 hat2 hlt2 far2
  refine wpPlan_end ?_
  go_wp2
  go_ret
  refine ⟨rfl, ?_⟩
  have hfin := decl_fin (b := ⟨name, ⟨vk, vn, vs⟩, kind, true⟩) HH1.out HM.out HN.out HBk.out HG.out HW.out HT.out
  obtain ⟨ρ', L', hA, hF⟩ := hfin
  exact ⟨ρ', L', hA, (Fr.of_below hhb HB1.out).trans hF⟩

set_option maxHeartbeats 1600000 in
theorem declare_any (h : HeapAt ρ w hb ho L H) (n : Int) (name : ByteArray) (kind : Int) (v : LVal) (hlen : ∀ (m : Nat) (s : LScope), H.scopes[m]? = some s → s.names.length < 1099511627776) :
    Calls Tryd.prog 12 #[.pointer (some ⟨hb, ho, none⟩), .int .i64 n, .string name, .int .i64 kind, v.agg] w fun e w' => e = .returned (errV (H.declare n name kind v).2) ∧
      ∃ ρ' L', HeapAt ρ' w' hb ho L' (H.declare n name kind v).1 ∧ Fr ρ ρ' hb ho w w' := by
  have hhb := h.hbLt
  have hnew : ∀ b, ρ b ≠ none → b < w.heap.size := h.live
  obtain ⟨vk, vn, vs⟩ := v
  simp only [LVal.agg]
  have h1 := h.below ((Below.refl _ _).alloc (Nat.le_refl _) (.cells #[.int .i64 vk, .int .i64 vn, .string vs] 36))
  have hB0 : Below w.heap.size w (w.alloc (.cells #[.int .i64 vk, .int .i64 vn, .string vs] 36)) := (Below.refl _ _).alloc (Nat.le_refl _) _
  rcases hob : H.scope? n with _ | s
  · have HC := Lib.hid (scope_no h1 n hob)
    have hd : H.declare n name kind ⟨vk, vn, vs⟩ = (H, 7) := by simp [LHeap.declare, hob]
    rw [hd]
    have HH := Lib.hid h1
    have HB := Lib.hid hB0
    clear h h1 hob hlen hd hB0
    go_enter Tryd.func12, Tryd.ntmps12
    go_wp2_with fail
    refine HC.out.mono ?_
    rintro e w1 ⟨rfl, rfl⟩
    go_wp2
    go_ret
    exact ⟨rfl, ρ, L, HH.out, Fr.of_below hhb HB.out⟩
  · obtain ⟨m, rfl, hm⟩ := LHeap.scope?_some hob
    have hc1 : (w.alloc (.cells #[.int .i64 vk, .int .i64 vn, .string vs] 36)).cell? ⟨L.sb m, 1, none⟩ = some (.int .i64 s.object) := by have := (h1.scp m s hm).1; simp [World.cell?, this]
    have HC := Lib.hid (scope_yes h1 m (getElem?_lt hm))
    by_cases hso : 0 ≤ s.object
    · have hd : H.declare m name kind ⟨vk, vn, vs⟩ = (H, 1) := by simp [LHeap.declare, hob, hso]
      rw [hd]
      have HH := Lib.hid h1
      have HB := Lib.hid hB0
      clear h h1 hob hlen hd hB0 hm
      go_enter Tryd.func12, Tryd.ntmps12
      go_wp2_with fail
      refine HC.out.mono ?_
      rintro e w1 ⟨rfl, rfl⟩
      go_wp2
      go_ret
      exact ⟨rfl, ρ, L, HH.out, Fr.of_below hhb HB.out⟩
    · have HA := Lib.hid (has_any h1 (m : Int) name)
      by_cases hq : H.has (m : Int) name = true
      · have hd : H.declare m name kind ⟨vk, vn, vs⟩ = (H, 9) := by simp [LHeap.declare, hob, hso, hq]
        rw [hd]
        rw [hq] at HA
        have HH := Lib.hid h1
        have HB := Lib.hid hB0
        clear h h1 hob hlen hd hB0 hm hq
        go_enter Tryd.func12, Tryd.ntmps12
        go_wp2_with fail
        refine HC.out.mono ?_
        rintro e w1 ⟨rfl, rfl⟩
        go_wp2_with fail
        refine HA.out.mono ?_
        rintro e w1 ⟨rfl, hB⟩
        have HB1 := Lib.hid hB
        clear hB
        go_wp2
        go_ret
        exact ⟨rfl, ρ, L, HH.out.below HB1.out, Fr.of_below hhb (HB.out.trans (HB1.out.mono HB.out.size))⟩
      · have hq' : H.has (m : Int) name = false := by simpa using hq
        have hd : H.declare m name kind ⟨vk, vn, vs⟩ = ({ H with scopes := H.scopes.set m { s with names := s.names ++ [⟨name, ⟨vk, vn, vs⟩, kind, !decide (kind = 1) && !decide (kind = 2)⟩] } }, 0) := by simp [LHeap.declare, hob, hso, hq']
        rw [hd]
        have hln := hlen m s hm
        by_cases k1 : kind = 1
        · have e : (!decide (kind = 1) && !decide (kind = 2)) = false := by simp [k1]
          rw [e]
          exact declare_ok1 h m s name kind vk vn vs hm hso hq' hln (by simp [k1])
        · by_cases k2 : kind = 2
          · have e : (!decide (kind = 1) && !decide (kind = 2)) = false := by simp [k2]
            rw [e]
            exact declare_ok2 h m s name kind vk vn vs hm hso hq' hln (by simp [k1]) (by simp [k2])
          · have e : (!decide (kind = 1) && !decide (kind = 2)) = true := by simp [k1, k2]
            rw [e]
            exact declare_ok3 h m s name kind vk vn vs hm hso hq' hln (by simp [k1]) (by simp [k2])
end
end Go.Proofs.YtfanolcjgaccpaaDoor
