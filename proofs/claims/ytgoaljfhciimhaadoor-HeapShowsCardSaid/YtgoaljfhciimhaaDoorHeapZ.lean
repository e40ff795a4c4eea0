/- Walks of package heap that change it: Cut, Drop. -/
import Derived.Test.YtgoaljfhciimhaaDoorHeapY
namespace Go.Proofs.YtgoaljfhciimhaaDoor
open Go Go.RowKit
set_option maxRecDepth 100000

def LHeap.cut (H : LHeap) (n : Int) (name : ByteArray) : LHeap × Bool :=
  match H.object? n with
  | none => (H, true)
  | some o =>
    match o.idx name with
    | none => (H, true)
    | some k =>
      match o.props[k]? with
      | none => (H, true)
      | some p => if p.fixed then (H, false) else ({ H with objects := H.objects.set n.toNat { o with props := o.props.eraseIdx k } }, true)

def LHeap.drop (H : LHeap) (n : Int) (name : ByteArray) : LHeap × Bool :=
  match H.scope? n with
  | none => (H, true)
  | some s =>
    if s.object < 0 then
      match s.idx name with
      | none => (H, true)
      | some k =>
        match s.names[k]? with
        | none => (H, true)
        | some b => if b.kind = 4 then (H.setNames n.toNat s (unnamed name s.names), true) else (H, false)
    else if (H.get s.object name).isSome then H.cut s.object name else (H, true)

section
variable {ρ : Nat → Option Role} {w : World} {hb ho : Nat} {L : HL} {H : LHeap}

theorem cut_fin {w1 w2 : World} {m k g c : Nat} {o : LObj} (h : HeapAt ρ w1 hb ho L H) (hm : H.objects[m]? = some o) (hk : k < o.props.length)
    (hv : L.pv m = .slice (some ⟨g, 0, none⟩) o.props.length c)
    (hown : w2.ownsRow 0 139 5 (.slice (some ⟨g, 0, none⟩) (o.props.length - 1) c) (o.props.length - 1) ((o.props.eraseIdx k).flatMap LProp.cells)) (hg : w1.grownBy w2 (some g)) :
    ∃ ρ' L', HeapAt ρ' (w2.setCell ⟨L.ob m, 0, none⟩ (.slice (some ⟨g, 0, none⟩) (o.props.length - 1) c)) hb ho L' { H with objects := H.objects.set m { o with props := o.props.eraseIdx k } } ∧
      Fr ρ ρ' hb ho w1 (w2.setCell ⟨L.ob m, 0, none⟩ (.slice (some ⟨g, 0, none⟩) (o.props.length - 1) c)) := by
  have hml := getElem?_lt hm
  obtain ⟨hblk, _⟩ := h.obj m o hm
  have hsb : L.ob m < w1.heap.size := (Array.getElem?_eq_some_iff.1 hblk).1
  have hgo : g ≠ L.ob m := fun e => by
    have h1 := h.rpv m g hml (by rw [hv]; rfl)
    rw [e, h.rob m hml] at h1
    cases h1
  have d2 : w1.cell? ⟨L.ob m, 0, none⟩ = some (L.pv m) := by simp [World.cell?, hblk]
  obtain ⟨k1, k2, k3, k4, k5, k6, k7, k8, k9, k10⟩ := push_field (.slice (some ⟨g, 0, none⟩) (o.props.length - 1) c) (Below.refl w1.heap.size w1) hg hsb (fun e => hgo (Option.some.inj e)) d2
  have hblk2 : w2.heap[L.ob m]? = some (.cells #[L.pv m, .int .i64 o.code] 132 (0, 0)) :=
    (hg.block _ hsb (fun e => hgo (Option.some.inj e).symm)).trans hblk
  have hlen : (o.props.eraseIdx k).length = o.props.length - 1 := by rw [List.length_eraseIdx, if_pos hk]
  refine h.setProps hm (nv' := .slice (some ⟨g, 0, none⟩) (o.props.length - 1) c) (props' := o.props.eraseIdx k) ?_ ?_ k7 ?_ ?_ k8 k9 k10
  · exact setCell_block _ hblk2
  · rw [hlen]
    exact ownsRow_block hown fun g' hg' => k5 g' (by simp only [Value.ownBlock, Option.some.injEq] at hg'; omega)
  · intro b h1 h2 h3
    rw [hv] at h3
    exact k4 b h1 h2 h3
  · intro g' hg'
    rw [hv]
    exact .inl hg'

theorem drop_fin {w1 w2 : World} {m : Nat} {s : LScope} {v' : Value} {l : List LBind} (h : HeapAt ρ w1 hb ho L H) (hm : H.scopes[m]? = some s)
    (hown : w2.ownsRow 0 124 6 v' l.length (l.flatMap LBind.cells)) (hg : w1.grownBy w2 (L.nv m).ownBlock) (hv : v'.ownBlock = (L.nv m).ownBlock) :
    ∃ ρ' L', HeapAt ρ' (w2.setCell ⟨L.sb m, 2, none⟩ v') hb ho L' (H.setNames m s l) ∧ Fr ρ ρ' hb ho w1 (w2.setCell ⟨L.sb m, 2, none⟩ v') := by
  have hml := getElem?_lt hm
  obtain ⟨hblk, _⟩ := h.scp m s hm
  have hsb : L.sb m < w1.heap.size := (Array.getElem?_eq_some_iff.1 hblk).1
  have hgo : (L.nv m).ownBlock ≠ some (L.sb m) := fun e => by
    have h1 := h.rnv m _ hml e
    rw [h.rsb m hml] at h1
    cases h1
  have d2 : w1.cell? ⟨L.sb m, 2, none⟩ = some (L.nv m) := by simp [World.cell?, hblk]
  obtain ⟨k1, k2, k3, k4, k5, k6, k7, k8, k9, k10⟩ := push_field v' (Below.refl w1.heap.size w1) hg hsb hgo d2
  have hblk2 : w2.heap[L.sb m]? = some (.cells #[.int .i64 s.outer, .int .i64 s.object, L.nv m] 120 (0, 0)) :=
    (hg.block _ hsb (fun e => hgo e.symm)).trans hblk
  refine h.setNames hm (nv' := v') (names' := l) ?_ ?_ k7 ?_ ?_ k8 k9 k10
  · exact setCell_block _ hblk2
  · exact ownsRow_block hown fun g' hg' => k5 g' (fun e => hgo (by rw [← hv, hg', e]))
  · exact k4
  · intro g' hg'
    exact .inl (by rw [← hv]; exact hg')

set_option maxHeartbeats 1600000 in
theorem cut_any (h : HeapAt ρ w hb ho L H) (n : Int) (name : ByteArray) :
    Calls Tryd.prog 33 #[.pointer (some ⟨hb, ho, none⟩), .int .i64 n, .string name] w fun e w' => e = .returned (.bool (H.cut n name).2) ∧
      ∃ ρ' L', HeapAt ρ' w' hb ho L' (H.cut n name).1 ∧ Fr ρ ρ' hb ho w w' := by
  have hhb := h.hbLt
  rcases hob : H.object? n with _ | o
  · have HC := Lib.hid (object_no h n hob)
    have hd : H.cut n name = (H, true) := by simp [LHeap.cut, hob]
    rw [hd]
    have HH := Lib.hid h
    clear h hob hd
    go_enter Tryd.func33, Tryd.ntmps33
    go_wp2_with fail
    refine HC.out.mono ?_
    rintro e w1 ⟨rfl, rfl⟩
    go_wp2
    go_ret
    exact ⟨rfl, ρ, L, HH.out, Fr.refl _ _ _ _⟩
  · obtain ⟨m, rfl, hm⟩ := LHeap.object?_some hob
    have hml := getElem?_lt hm
    have HC := Lib.hid (object_yes h m hml)
    have HF := Lib.hid (find_any h m o hm name)
    rcases hk : o.idx name with _ | k
    · have hd : H.cut m name = (H, true) := by simp [LHeap.cut, hob, hk]
      rw [hd]
      rw [hk] at HF
      have HH := Lib.hid h
      clear h hob hd hm hk
      go_enter Tryd.func33, Tryd.ntmps33
      go_wp2_with fail
      refine HC.out.mono ?_
      rintro e w1 ⟨rfl, rfl⟩
      go_wp2_with fail
      refine HF.out.mono ?_
      rintro e w1 ⟨rfl, hB⟩
      simp only [optI]
      have HB := Lib.hid hB
      clear hB
      go_wp2
      go_ret
      exact ⟨rfl, ρ, L, HH.out.below HB.out, Fr.of_below hhb HB.out⟩
    · obtain ⟨p, hp, _⟩ := LObj.idx_some hk
      have hkl := getElem?_lt hp
      rw [hk] at HF
      obtain ⟨hblk0, hown0⟩ := h.obj m o hm
      rcases ownsRow_cases hown0 with ⟨hv, hz⟩ | ⟨g, c, hv, h2, h3, hgl⟩
      · omega
      unfold maxLen at h3
      obtain ⟨pn, ⟨pk, pm, ps⟩, pf⟩ := p
      have hd : H.cut m name = if pf then (H, false) else ({ H with objects := H.objects.set m { o with props := o.props.eraseIdx k } }, true) := by simp [LHeap.cut, hob, hk, hp]
      rw [hd]
      have HH := Lib.hid h
      have HM := Lib.hid hm
      have HV := Lib.hid hv
      have HP := Lib.hid hp
      clear h hob hd hm hk hp hblk0 hown0 hv
      have facts : ∀ w1, HeapAt ρ w1 hb ho L H → w1.cell? ⟨L.ob m, 0, none⟩ = some (.slice (some ⟨g, 0, none⟩) o.props.length c) ∧ w1.frozen? ⟨L.ob m, 0, none⟩ = false ∧ w1.cell? ⟨g, k * 5 + 4, none⟩ = some (.bool pf) ∧ w1.ownsRow 0 139 5 (.slice (some ⟨g, 0, none⟩) o.props.length c) o.props.length (o.props.flatMap LProp.cells) := fun w1 hh => by
        obtain ⟨hblk, hown⟩ := hh.obj m o HM.out
        have hrow := row_cell (f := LProp.cells) (m := 5) (fun _ => rfl) hown (g := g) (by rw [HV.out]; rfl) (i := k) (j := 4) (x := .bool pf) HP.out rfl
        rw [HV.out] at hown hblk
        exact ⟨by simp [World.cell?, hblk], by simp [World.frozen?, hblk], hrow, hown⟩
      have HFa := Lib.hid facts
      clear facts
      cases pf
      · simp only [Bool.false_eq_true, if_false]
        go_enter Tryd.func33, Tryd.ntmps33
        go_wp2_with fail
        refine HC.out.mono ?_
        rintro e w1 ⟨rfl, rfl⟩
        go_wp2_with fail
        refine HF.out.mono ?_
        rintro e w1 ⟨rfl, hB⟩
        simp only [optI]
        have hH1 := HH.out.below hB
        obtain ⟨d0, z0, d1, ho1⟩ := HFa.out w1 hH1
        have HD := Lib.hid (delete_any w1 g c k o.props hkl ho1)
        have HH1 := Lib.hid hH1
        have HB := Lib.hid hB
        clear hB hH1 ho1
        go_wp2_with fail
        refine HD.out.mono ?_
        rintro e w2 ⟨rfl, hown2, hg2⟩
        have hgo : g ≠ L.ob m := fun e => by
          have h1 := HH1.out.rpv m g hml (by rw [HV.out]; rfl)
          rw [e, HH1.out.rob m hml] at h1
          cases h1
        have hobl := HH1.out.live (L.ob m) (by rw [HH1.out.rob m hml]; simp)
        have d2 : w2.cell? ⟨L.ob m, 0, none⟩ = some (.slice (some ⟨g, 0, none⟩) o.props.length c) := (World.cell?_of_block (hg2.block (L.ob m) hobl (fun e => hgo (Option.some.inj e).symm))).trans d0
        have z2 : w2.frozen? ⟨L.ob m, 0, none⟩ = false := (World.frozen?_of_block (hg2.block (L.ob m) hobl (fun e => hgo (Option.some.inj e).symm))).trans z0
        have HO2 := Lib.hid hown2
        have HG2 := Lib.hid hg2
        clear hown2 hg2 d0 d1 z0
        go_wp2
        go_ret
        refine ⟨rfl, ?_⟩
        obtain ⟨ρ', L', hA, hF⟩ := cut_fin HH1.out HM.out hkl HV.out HO2.out HG2.out
        exact ⟨ρ', L', hA, (Fr.of_below hhb HB.out).trans hF⟩
      · simp only [if_true]
        go_enter Tryd.func33, Tryd.ntmps33
        go_wp2_with fail
        refine HC.out.mono ?_
        rintro e w1 ⟨rfl, rfl⟩
        go_wp2_with fail
        refine HF.out.mono ?_
        rintro e w1 ⟨rfl, hB⟩
        simp only [optI]
        have hH1 := HH.out.below hB
        obtain ⟨d0, z0, d1, ho1⟩ := HFa.out w1 hH1
        have HH1 := Lib.hid hH1
        have HB := Lib.hid hB
        clear hB hH1 ho1
        go_wp2
        go_ret
        exact ⟨rfl, ρ, L, HH1.out, Fr.of_below hhb HB.out⟩

theorem str_facts {w w1 : World} {s : ByteArray} {T : TypeId} (hB : Below (w.alloc (.cells #[.string s] T)).heap.size (w.alloc (.cells #[.string s] T)) w1) :
    w1.cell? ⟨w.heap.size, 0, none⟩ = some (.string s) ∧ w.heap.size < w1.heap.size ∧ Below w.heap.size w w1 :=
  ⟨below_newcell hB 0 _ rfl, below_newsize hB, below_old hB⟩

set_option maxHeartbeats 1600000 in
theorem drop_any (h : HeapAt ρ w hb ho L H) (n : Int) (name : ByteArray) :
    Calls Tryd.prog 38 #[.pointer (some ⟨hb, ho, none⟩), .int .i64 n, .string name] w fun e w' => e = .returned (.bool (H.drop n name).2) ∧
      ∃ ρ' L', HeapAt ρ' w' hb ho L' (H.drop n name).1 ∧ Fr ρ ρ' hb ho w w' := by
  have hhb := h.hbLt
  have h1 := h.below ((Below.refl _ _).alloc (Nat.le_refl _) (.cells #[.string name] 9))
  have hB0 : Below w.heap.size w (w.alloc (.cells #[.string name] 9)) := (Below.refl _ _).alloc (Nat.le_refl _) _
  rcases hob : H.scope? n with _ | s
  · have HC := Lib.hid (scope_no h1 n hob)
    have hd : H.drop n name = (H, true) := by simp [LHeap.drop, hob]
    rw [hd]
    have HH := Lib.hid h1
    have HB := Lib.hid hB0
    clear h h1 hob hd hB0
    go_enter Tryd.func38, Tryd.ntmps38
    go_wp2_with fail
    refine HC.out.mono ?_
    rintro e w1 ⟨rfl, rfl⟩
    go_wp2
    go_ret
    exact ⟨rfl, ρ, L, HH.out, Fr.of_below hhb HB.out⟩
  obtain ⟨m, rfl, hm⟩ := LHeap.scope?_some hob
  have hml := getElem?_lt hm
  have HC := Lib.hid (scope_yes h1 m hml)
  have HA := Lib.hid (has_any h1 (m : Int) name)
  have hhas := has_eq (name := name) hob
  have facts : ∀ w1, HeapAt ρ w1 hb ho L H → w1.cell? ⟨L.sb m, 1, none⟩ = some (.int .i64 s.object) ∧ w1.cell? ⟨L.sb m, 2, none⟩ = some (L.nv m) ∧ w1.frozen? ⟨L.sb m, 2, none⟩ = false ∧ L.sb m < w1.heap.size ∧ w1.ownsRow 0 124 6 (L.nv m) s.names.length (s.names.flatMap LBind.cells) := fun w1 hh => by
    obtain ⟨hblk, hown⟩ := hh.scp m s hm
    exact ⟨by simp [World.cell?, hblk], by simp [World.cell?, hblk], by simp [World.frozen?, hblk], (Array.getElem?_eq_some_iff.1 hblk).1, hown⟩
  have HF := Lib.hid facts
  have HM := Lib.hid hm
  have hnb := hB0
  clear facts
  by_cases hq : H.has (m : Int) name = true
  · rw [hq] at HA
    rw [hhas] at hq
    by_cases hso : s.object < 0
    · rw [if_pos hso] at hq
      obtain ⟨k, hk⟩ := Option.isSome_iff_exists.1 hq
      obtain ⟨b, hp, _⟩ := LScope.idx_some hk
      have hkl := getElem?_lt hp
      obtain ⟨_, hown0⟩ := h.scp m s hm
      rcases ownsRow_cases hown0 with ⟨hv, hz⟩ | ⟨g, c, hv, h2, h3, hgl⟩
      · omega
      have hd : H.drop m name = if b.kind = 4 then (H.setNames m s (unnamed name s.names), true) else (H, false) := by simp [LHeap.drop, hob, hso, hk, hp]
      rw [hd]
      have HBind := Lib.hid (fun w1 (hh : HeapAt ρ w1 hb ho L H) => bind_any hh m s hm name)
      rw [hk, hv] at HBind
      simp only [ptrOpt, Value.ownBlock, Option.map_some] at HBind
      have hrow := fun w1 (hh : HeapAt ρ w1 hb ho L H) j x => row_cell (f := LBind.cells) (m := 6) (fun _ => rfl) (hh.scp m s hm).2 (g := g) (by rw [hv]; rfl) (i := k) (j := j) (x := x) hp
      have hgw : g < w.heap.size := hgl
      have HR := Lib.hid hrow
      have HH := Lib.hid h1
      have HV := Lib.hid hv
      have HB := Lib.hid hB0
      clear h h1 hob hhas hm hB0 hnb hq hk hp hown0 hv hrow hd
      by_cases h4 : b.kind = 4
      · have h4' : (b.kind != 4) = false := by simp [h4]
        rw [if_pos h4]
        clear h4
        obtain ⟨bn, bv, bk, br⟩ := b
        simp only at h4'
        go_enter Tryd.func38, Tryd.ntmps38
        go_wp2_with fail
        refine HC.out.mono ?_
        rintro e w1 ⟨rfl, rfl⟩
        go_wp2_with fail
        refine HA.out.mono ?_
        rintro e w1 ⟨rfl, hB⟩
        obtain ⟨q0, hs, hB'⟩ := str_facts hB
        have hH1 := HH.out.below hB
        obtain ⟨d1, d2, z2, hsb, ho1⟩ := HF.out w1 hH1
        have HH1 := Lib.hid hH1
        have HB1 := Lib.hid hB'
        clear hB hB' hH1 ho1
        go_wp2_with fail
        refine (HBind.out w1 HH1.out).mono ?_
        rintro e w2 ⟨rfl, hB2⟩
        have hH2 := HH1.out.below hB2
        obtain ⟨d1', d2', z2', hsb', ho2⟩ := HF.out w2 hH2
        have r4 := HR.out w2 hH2 4 (.int .i64 bk) rfl
        have q0' := (hB2.cell (p := ⟨w.heap.size, 0, none⟩) hs).trans q0
        have hs' := Nat.lt_of_lt_of_le hs hB2.size
        have hdf := deleteFunc_any w2 ⟨w.heap.size, 0, none⟩ name q0' hs' (L.nv m) s.names (by rw [HV.out]; simp only [Value.ownBlock, ne_eq, Option.some.injEq]; omega) ho2
        rw [HV.out] at hdf d2'
        have HD := Lib.hid hdf
        have HH2 := Lib.hid hH2
        have HB2 := Lib.hid (HB1.out.trans (hB2.mono (Nat.le_of_lt hs)))
        clear hB2 hH2 ho2 hdf q0 d1 d2 z2 d1' q0'
        go_wp2_with fail
        refine HD.out.mono ?_
        rintro e w3 ⟨v', rfl, hown3, hg3, hv3⟩
        have hgo : g ≠ L.sb m := fun e => by
          have h1 := HH2.out.rnv m g hml (by rw [HV.out]; rfl)
          rw [e, HH2.out.rsb m hml] at h1
          cases h1
        have d3 : w3.cell? ⟨L.sb m, 2, none⟩ = some (.slice (some ⟨g, 0, none⟩) s.names.length c) := (World.cell?_of_block (hg3.block (L.sb m) hsb' (fun e => hgo (Option.some.inj e).symm))).trans d2'
        have z3 : w3.frozen? ⟨L.sb m, 2, none⟩ = false := (World.frozen?_of_block (hg3.block (L.sb m) hsb' (fun e => hgo (Option.some.inj e).symm))).trans z2'
        obtain ⟨g', n', c', rfl⟩ : ∃ g' n' c', v' = .slice g' n' c' := by
          rcases ownsRow_cases hown3 with ⟨hv, _⟩ | ⟨g', c', hv, _⟩
          · exact ⟨_, _, _, hv⟩
          · exact ⟨_, _, _, hv⟩
        have HO3 := Lib.hid hown3
        have HG3 := Lib.hid hg3
        have HV3 := Lib.hid hv3
        clear hown3 hg3 hv3 d2' z2' r4
        go_wp2
        go_ret
        refine ⟨rfl, ?_⟩
        obtain ⟨ρ', L', hA, hF⟩ := drop_fin HH2.out HM.out HO3.out (by rw [HV.out]; exact HG3.out) (by rw [HV.out]; exact HV3.out)
        exact ⟨ρ', L', hA, (Fr.of_below hhb HB2.out).trans hF⟩
      · have h4' : (b.kind != 4) = true := by simp [h4]
        rw [if_neg h4]
        clear h4
        obtain ⟨bn, bv, bk, br⟩ := b
        simp only at h4'
        go_enter Tryd.func38, Tryd.ntmps38
        go_wp2_with fail
        refine HC.out.mono ?_
        rintro e w1 ⟨rfl, rfl⟩
        go_wp2_with fail
        refine HA.out.mono ?_
        rintro e w1 ⟨rfl, hB⟩
        obtain ⟨q0, hs, hB'⟩ := str_facts hB
        have hH1 := HH.out.below hB
        obtain ⟨d1, d2, z2, hsb, ho1⟩ := HF.out w1 hH1
        have HH1 := Lib.hid hH1
        have HB1 := Lib.hid hB'
        clear hB hB' hH1 ho1
        go_wp2_with fail
        refine (HBind.out w1 HH1.out).mono ?_
        rintro e w2 ⟨rfl, hB2⟩
        have hH2 := HH1.out.below hB2
        have r4 := HR.out w2 hH2 4 (.int .i64 bk) rfl
        have HH2 := Lib.hid hH2
        have HB2 := Lib.hid (HB1.out.trans (hB2.mono (Nat.le_of_lt hs)))
        clear hB2 hH2 q0 d1 d2 z2
        go_wp2
        go_ret
        exact ⟨rfl, ρ, L, HH2.out, Fr.of_below hhb HB2.out⟩
    · rw [if_neg hso] at hq
      have hd : H.drop m name = H.cut s.object name := by simp [LHeap.drop, hob, hso, hq]
      rw [hd]
      have hcut := fun w1 (hh : HeapAt ρ w1 hb ho L H) => cut_any hh s.object name
      generalize (H.cut s.object name).2 = er at hcut ⊢
      have HCut := Lib.hid hcut
      have HH := Lib.hid h1
      have HB := Lib.hid hB0
      clear h h1 hob hhas hm hB0 hnb hq hcut hd
      go_enter Tryd.func38, Tryd.ntmps38
      go_wp2_with fail
      refine HC.out.mono ?_
      rintro e w1 ⟨rfl, rfl⟩
      go_wp2_with fail
      refine HA.out.mono ?_
      rintro e w1 ⟨rfl, hB⟩
      obtain ⟨q0, hs, hB'⟩ := str_facts hB
      have hH1 := HH.out.below hB
      obtain ⟨d1, d2, z2, hsb, ho1⟩ := HF.out w1 hH1
      have HH1 := Lib.hid hH1
      have HB1 := Lib.hid hB'
      clear hB hB' hH1 ho1
      go_wp2_with fail
      refine wp_region_plan [(true, 0), (true, 1), (true, 2), (true, 3), (true, 4), (true, 5)] [6, 7] (fun W => W.cell? ⟨L.sb m, 1, none⟩ = some (.int .i64 s.object) ∧ W.cell? ⟨w.heap.size, 0, none⟩ = some (.string name)) (by kernel_rfl) (by kernel_rfl) (fun _ _ d _ _ h => by cases d <;> exact h) ⟨d1, q0⟩ (fun hS0 => ?_)
      simp only [planOps, List.filterMap_cons, List.filterMap_nil, List.getElem?_toArray, List.getElem?_cons_zero, List.getElem?_cons_succ, Option.map_some]
      iterate 6
        first
          | (refine wpPlan_take ?_ (by rfl) (fun w' hS' => ?_) ?_; rotate_left; (obtain ⟨s0, s1⟩ := hS'; go_simp; first | done | with_reducible rfl); simp only [Act.put, List.setIfInBounds_toArray, List.set_cons_zero, List.set_cons_succ])
          | (refine wpPlan_skip (by rfl) ?_; simp only [Act.put, List.setIfInBounds_toArray, List.set_cons_zero, List.set_cons_succ])
      refine wpPlan_end ?_
      go_wp2_with fail
      refine (HCut.out w1.drew HH1.out.drew).mono ?_
      rintro e w2 ⟨rfl, ρ', L', hA, hF⟩
      have HA2 := Lib.hid hA
      have HFr := Lib.hid hF
      clear hA hF
      go_wp2
      go_ret
      exact ⟨rfl, ρ', L', HA2.out, (Fr.of_below hhb HB1.out.drew).trans HFr.out⟩
  · have hq' : H.has (m : Int) name = false := by simpa using hq
    rw [hq'] at HA
    have hd : H.drop m name = (H, true) := by
      rw [hhas] at hq'
      unfold LHeap.drop
      simp only [hob]
      split at hq'
      · rename_i hso
        have : s.idx name = none := by simpa using hq'
        rw [if_pos hso, this]
      · rename_i hso
        rw [if_neg hso]
        simp [hq']
    rw [hd]
    have HH := Lib.hid h1
    clear h h1 hob hhas hm hB0 hnb hq hq' hd
    go_enter Tryd.func38, Tryd.ntmps38
    go_wp2_with fail
    refine HC.out.mono ?_
    rintro e w1 ⟨rfl, rfl⟩
    go_wp2_with fail
    refine HA.out.mono ?_
    rintro e w1 ⟨rfl, hB⟩
    have HB1 := Lib.hid hB
    clear hB
    go_wp2
    go_ret
    exact ⟨rfl, ρ, L, HH.out.below HB1.out, Fr.of_below hhb (below_old HB1.out)⟩
end
end Go.Proofs.YtgoaljfhciimhaaDoor
