/- Walks of package heap that change it: Cut, Drop. The reference's heap: an object more, a room more; one property or binding that is changed, or more. -/
import Derived.Test.YtfanolcjgaccpaaDoorJ11
import Derived.Test.YtfanolcjgaccpaaDoorJ06
import Derived.Test.YtfanolcjgaccpaaDoorJ10
namespace Go.Proofs.YtfanolcjgaccpaaDoor
open Go Go.RowKit
set_option maxRecDepth 100000

def LHeap.cut (H : LHeap) (n : Int) (name : ByteArray) : LHeap × Bool :=
  match H.object? n with
  | none => (H, true)
  | some o =>
    match o.idx name with
    | none => (H, true)
    | some k =>
      match o.props[k]? with
      | none => (H, true)
      | some p => if p.fixed then (H, false) else ({ H with objects := H.objects.set n.toNat { o with props := o.props.eraseIdx k } }, true)

def LHeap.drop (H : LHeap) (n : Int) (name : ByteArray) : LHeap × Bool :=
  match H.scope? n with
  | none => (H, true)
  | some s =>
    if s.object < 0 then
      match s.idx name with
      | none => (H, true)
      | some k =>
        match s.names[k]? with
        | none => (H, true)
        | some b => if b.kind = 4 then (H.setNames n.toNat s (unnamed name s.names), true) else (H, false)
    else if (H.get s.object name).isSome then H.cut s.object name else (H, true)

section
variable {ρ : Nat → Option Role} {w : World} {hb ho : Nat} {L : HL} {H : LHeap}

theorem cut_fin {w1 w2 : World} {m k g c : Nat} {o : LObj} (h : HeapAt ρ w1 hb ho L H) (hm : H.objects[m]? = some o) (hk : k < o.props.length)
    (hv : L.pv m = .slice (some ⟨g, 0, none⟩) o.props.length c)
    (hown : w2.ownsRow 0 87 5 (.slice (some ⟨g, 0, none⟩) (o.props.length - 1) c) (o.props.length - 1) ((o.props.eraseIdx k).flatMap LProp.cells)) (hg : w1.grownBy w2 (some g)) :
    ∃ ρ' L', HeapAt ρ' (w2.setCell ⟨L.ob m, 0, none⟩ (.slice (some ⟨g, 0, none⟩) (o.props.length - 1) c)) hb ho L' { H with objects := H.objects.set m { o with props := o.props.eraseIdx k } } ∧
      Fr ρ ρ' hb ho w1 (w2.setCell ⟨L.ob m, 0, none⟩ (.slice (some ⟨g, 0, none⟩) (o.props.length - 1) c)) := by
  have hml := getElem?_lt hm
  obtain ⟨hblk, _⟩ := h.obj m o hm
  have hsb : L.ob m < w1.heap.size := (Array.getElem?_eq_some_iff.1 hblk).1
  have hgo : g ≠ L.ob m := fun e => by
    have h1 := h.rpv m g hml (by rw [hv]; rfl)
    rw [e, h.rob m hml] at h1
    cases h1
  have d2 : w1.cell? ⟨L.ob m, 0, none⟩ = some (L.pv m) := by simp [World.cell?, hblk]
  obtain ⟨k1, k2, k3, k4, k5, k6, k7, k8, k9, k10⟩ := push_field (.slice (some ⟨g, 0, none⟩) (o.props.length - 1) c) (Below.refl w1.heap.size w1) hg hsb (fun e => hgo (Option.some.inj e)) d2
  have hblk2 : w2.heap[L.ob m]? = some (.cells #[L.pv m, .int .i64 o.code] 74 (0, 0)) :=
    (hg.block _ hsb (fun e => hgo (Option.some.inj e).symm)).trans hblk
  have hlen : (o.props.eraseIdx k).length = o.props.length - 1 := by rw [List.length_eraseIdx, if_pos hk]
  refine h.setProps hm (nv' := .slice (some ⟨g, 0, none⟩) (o.props.length - 1) c) (props' := o.props.eraseIdx k) ?_ ?_ k7 ?_ ?_ k8 k9 k10
  · exact setCell_block _ hblk2
  · rw [hlen]
    exact ownsRow_block hown fun g' hg' => k5 g' (by simp only [Value.ownBlock, Option.some.injEq] at hg'; omega)
  · intro b h1 h2 h3
    rw [hv] at h3
    exact k4 b h1 h2 h3
  · intro g' hg'
    rw [hv]
    exact .inl hg'

theorem drop_fin {w1 w2 : World} {m : Nat} {s : LScope} {v' : Value} {l : List LBind} (h : HeapAt ρ w1 hb ho L H) (hm : H.scopes[m]? = some s)
    (hown : w2.ownsRow 0 96 6 v' l.length (l.flatMap LBind.cells)) (hg : w1.grownBy w2 (L.nv m).ownBlock) (hv : v'.ownBlock = (L.nv m).ownBlock) :
    ∃ ρ' L', HeapAt ρ' (w2.setCell ⟨L.sb m, 2, none⟩ v') hb ho L' (H.setNames m s l) ∧ Fr ρ ρ' hb ho w1 (w2.setCell ⟨L.sb m, 2, none⟩ v') := by
  have hml := getElem?_lt hm
  obtain ⟨hblk, _⟩ := h.scp m s hm
  have hsb : L.sb m < w1.heap.size := (Array.getElem?_eq_some_iff.1 hblk).1
  have hgo : (L.nv m).ownBlock ≠ some (L.sb m) := fun e => by
    have h1 := h.rnv m _ hml e
    rw [h.rsb m hml] at h1
    cases h1
  have d2 : w1.cell? ⟨L.sb m, 2, none⟩ = some (L.nv m) := by simp [World.cell?, hblk]
  obtain ⟨k1, k2, k3, k4, k5, k6, k7, k8, k9, k10⟩ := push_field v' (Below.refl w1.heap.size w1) hg hsb hgo d2
  have hblk2 : w2.heap[L.sb m]? = some (.cells #[.int .i64 s.outer, .int .i64 s.object, L.nv m] 78 (0, 0)) :=
    (hg.block _ hsb (fun e => hgo e.symm)).trans hblk
  refine h.setNames hm (nv' := v') (names' := l) ?_ ?_ k7 ?_ ?_ k8 k9 k10
  · exact setCell_block _ hblk2
  · exact ownsRow_block hown fun g' hg' => k5 g' (fun e => hgo (by rw [← hv, hg', e]))
  · exact k4
  · intro g' hg'
    exact .inl (by rw [← hv]; exact hg')

set_option maxHeartbeats 1600000 in
theorem cut_any (h : HeapAt ρ w hb ho L H) (n : Int) (name : ByteArray) :
    Calls Tryd.prog 10 #[.pointer (some ⟨hb, ho, none⟩), .int .i64 n, .string name] w fun e w' => e = .returned (.bool (H.cut n name).2) ∧
      ∃ ρ' L', HeapAt ρ' w' hb ho L' (H.cut n name).1 ∧ Fr ρ ρ' hb ho w w' := by
  have hhb := h.hbLt
  rcases hob : H.object? n with _ | o
  · have HC := Lib.hid (object_no h n hob)
    have hd : H.cut n name = (H, true) := by simp [LHeap.cut, hob]
    rw [hd]
    have HH := Lib.hid h
    clear h hob hd
    go_enter Tryd.func10, Tryd.ntmps10
    go_wp2_with fail
    refine HC.out.mono ?_
    rintro e w1 ⟨rfl, rfl⟩
    go_wp2
    go_ret
    exact ⟨rfl, ρ, L, HH.out, Fr.refl _ _ _ _⟩
  · obtain ⟨m, rfl, hm⟩ := LHeap.object?_some hob
    have hml := getElem?_lt hm
    have HC := Lib.hid (object_yes h m hml)
    have HF := Lib.hid (find_any h m o hm name)
    rcases hk : o.idx name with _ | k
    · have hd : H.cut m name = (H, true) := by simp [LHeap.cut, hob, hk]
      rw [hd]
      rw [hk] at HF
      have HH := Lib.hid h
      clear h hob hd hm hk
      go_enter Tryd.func10, Tryd.ntmps10
      go_wp2_with fail
      refine HC.out.mono ?_
      rintro e w1 ⟨rfl, rfl⟩
      go_wp2_with fail
      refine HF.out.mono ?_
      rintro e w1 ⟨rfl, hB⟩
      simp only [optI]
      have HB := Lib.hid hB
      clear hB
      go_wp2
      go_ret
      exact ⟨rfl, ρ, L, HH.out.below HB.out, Fr.of_below hhb HB.out⟩
    · obtain ⟨p, hp, _⟩ := LObj.idx_some hk
      have hkl := getElem?_lt hp
      rw [hk] at HF
      obtain ⟨hblk0, hown0⟩ := h.obj m o hm
      rcases ownsRow_cases hown0 with ⟨hv, hz⟩ | ⟨g, c, hv, h2, h3, hgl⟩
      · omega
      unfold maxLen at h3
      obtain ⟨pn, ⟨pk, pm, ps⟩, pf⟩ := p
      have hd : H.cut m name = if pf then (H, false) else ({ H with objects := H.objects.set m { o with props := o.props.eraseIdx k } }, true) := by simp [LHeap.cut, hob, hk, hp]
      rw [hd]
      have HH := Lib.hid h
      have HM := Lib.hid hm
      have HV := Lib.hid hv
      have HP := Lib.hid hp
      clear h hob hd hm hk hp hblk0 hown0 hv
      have facts : ∀ w1, HeapAt ρ w1 hb ho L H → w1.cell? ⟨L.ob m, 0, none⟩ = some (.slice (some ⟨g, 0, none⟩) o.props.length c) ∧ w1.frozen? ⟨L.ob m, 0, none⟩ = false ∧ w1.cell? ⟨g, k * 5 + 4, none⟩ = some (.bool pf) ∧ w1.ownsRow 0 87 5 (.slice (some ⟨g, 0, none⟩) o.props.length c) o.props.length (o.props.flatMap LProp.cells) := fun w1 hh => by
        obtain ⟨hblk, hown⟩ := hh.obj m o HM.out
        have hrow := row_cell (f := LProp.cells) (m := 5) (fun _ => rfl) hown (g := g) (by rw [HV.out]; rfl) (i := k) (j := 4) (x := .bool pf) HP.out rfl
        rw [HV.out] at hown hblk
        exact ⟨by simp [World.cell?, hblk], by simp [World.frozen?, hblk], hrow, hown⟩
      have HFa := Lib.hid facts
      clear facts
      cases pf
      · simp only [Bool.false_eq_true, if_false]
        go_enter Tryd.func10, Tryd.ntmps10
        go_wp2_with fail
        refine HC.out.mono ?_
        rintro e w1 ⟨rfl, rfl⟩
        go_wp2_with fail
        refine HF.out.mono ?_
        rintro e w1 ⟨rfl, hB⟩
        simp only [optI]
        have hH1 := HH.out.below hB
        obtain ⟨d0, z0, d1, ho1⟩ := HFa.out w1 hH1
        have HD := Lib.hid (delete_any w1 g c k o.props hkl ho1)
        have HH1 := Lib.hid hH1
        have HB := Lib.hid hB
        clear hB hH1 ho1
        go_wp2_with fail
        refine HD.out.mono ?_
        rintro e w2 ⟨rfl, hown2, hg2⟩
        have hgo : g ≠ L.ob m := fun e => by
          have h1 := HH1.out.rpv m g hml (by rw [HV.out]; rfl)
          rw [e, HH1.out.rob m hml] at h1
          cases h1
        have hobl := HH1.out.live (L.ob m) (by rw [HH1.out.rob m hml]; simp)
        have d2 : w2.cell? ⟨L.ob m, 0, none⟩ = some (.slice (some ⟨g, 0, none⟩) o.props.length c) := (World.cell?_of_block (hg2.block (L.ob m) hobl (fun e => hgo (Option.some.inj e).symm))).trans d0
        have z2 : w2.frozen? ⟨L.ob m, 0, none⟩ = false := (World.frozen?_of_block (hg2.block (L.ob m) hobl (fun e => hgo (Option.some.inj e).symm))).trans z0
        have HO2 := Lib.hid hown2
        have HG2 := Lib.hid hg2
        clear hown2 hg2 d0 d1 z0
        go_wp2
        go_ret
        refine ⟨rfl, ?_⟩
        obtain ⟨ρ', L', hA, hF⟩ := cut_fin HH1.out HM.out hkl HV.out HO2.out HG2.out
        exact ⟨ρ', L', hA, (Fr.of_below hhb HB.out).trans hF⟩
      · simp only [if_true]
        go_enter Tryd.func10, Tryd.ntmps10
        go_wp2_with fail
        refine HC.out.mono ?_
        rintro e w1 ⟨rfl, rfl⟩
        go_wp2_with fail
        refine HF.out.mono ?_
        rintro e w1 ⟨rfl, hB⟩
        simp only [optI]
        have hH1 := HH.out.below hB
        obtain ⟨d0, z0, d1, ho1⟩ := HFa.out w1 hH1
        have HH1 := Lib.hid hH1
        have HB := Lib.hid hB
        clear hB hH1 ho1
        go_wp2
        go_ret
        exact ⟨rfl, ρ, L, HH1.out, Fr.of_below hhb HB.out⟩

theorem str_facts {w w1 : World} {s : ByteArray} {T : TypeId} (hB : Below (w.alloc (.cells #[.string s] T)).heap.size (w.alloc (.cells #[.string s] T)) w1) :
    w1.cell? ⟨w.heap.size, 0, none⟩ = some (.string s) ∧ w.heap.size < w1.heap.size ∧ Below w.heap.size w w1 :=
  ⟨below_newcell hB 0 _ rfl, below_newsize hB, below_old hB⟩

set_option maxHeartbeats 1600000 in
theorem drop_any (h : HeapAt ρ w hb ho L H) (n : Int) (name : ByteArray) :
    Calls Tryd.prog 18 #[.pointer (some ⟨hb, ho, none⟩), .int .i64 n, .string name] w fun e w' => e = .returned (.bool (H.drop n name).2) ∧
      ∃ ρ' L', HeapAt ρ' w' hb ho L' (H.drop n name).1 ∧ Fr ρ ρ' hb ho w w' := by
  have hhb := h.hbLt
  have h1 := h.below ((Below.refl _ _).alloc (Nat.le_refl _) (.cells #[.string name] 9))
  have hB0 : Below w.heap.size w (w.alloc (.cells #[.string name] 9)) := (Below.refl _ _).alloc (Nat.le_refl _) _
  rcases hob : H.scope? n with _ | s
  · have HC := Lib.hid (scope_no h1 n hob)
    have hd : H.drop n name = (H, true) := by simp [LHeap.drop, hob]
    rw [hd]
    have HH := Lib.hid h1
    have HB := Lib.hid hB0
    clear h h1 hob hd hB0
    go_enter Tryd.func18, Tryd.ntmps18
    go_wp2_with fail
    refine HC.out.mono ?_
    rintro e w1 ⟨rfl, rfl⟩
    go_wp2
    go_ret
    exact ⟨rfl, ρ, L, HH.out, Fr.of_below hhb HB.out⟩
  obtain ⟨m, rfl, hm⟩ := LHeap.scope?_some hob
  have hml := getElem?_lt hm
  have HC := Lib.hid (scope_yes h1 m hml)
  have HA := Lib.hid (has_any h1 (m : Int) name)
  have hhas := has_eq (name := name) hob
  have facts : ∀ w1, HeapAt ρ w1 hb ho L H → w1.cell? ⟨L.sb m, 1, none⟩ = some (.int .i64 s.object) ∧ w1.cell? ⟨L.sb m, 2, none⟩ = some (L.nv m) ∧ w1.frozen? ⟨L.sb m, 2, none⟩ = false ∧ L.sb m < w1.heap.size ∧ w1.ownsRow 0 96 6 (L.nv m) s.names.length (s.names.flatMap LBind.cells) := fun w1 hh => by
    obtain ⟨hblk, hown⟩ := hh.scp m s hm
    exact ⟨by simp [World.cell?, hblk], by simp [World.cell?, hblk], by simp [World.frozen?, hblk], (Array.getElem?_eq_some_iff.1 hblk).1, hown⟩
  have HF := Lib.hid facts
  have HM := Lib.hid hm
  have hnb := hB0
  clear facts
  by_cases hq : H.has (m : Int) name = true
  · rw [hq] at HA
    rw [hhas] at hq
    by_cases hso : s.object < 0
    · rw [if_pos hso] at hq
      obtain ⟨k, hk⟩ := Option.isSome_iff_exists.1 hq
      obtain ⟨b, hp, _⟩ := LScope.idx_some hk
      have hkl := getElem?_lt hp
      obtain ⟨_, hown0⟩ := h.scp m s hm
      rcases ownsRow_cases hown0 with ⟨hv, hz⟩ | ⟨g, c, hv, h2, h3, hgl⟩
      · omega
      have hd : H.drop m name = if b.kind = 4 then (H.setNames m s (unnamed name s.names), true) else (H, false) := by simp [LHeap.drop, hob, hso, hk, hp]
      rw [hd]
      have HBind := Lib.hid (fun w1 (hh : HeapAt ρ w1 hb ho L H) => bind_any hh m s hm name)
      rw [hk, hv] at HBind
      simp only [ptrOpt, Value.ownBlock, Option.map_some] at HBind
      have hrow := fun w1 (hh : HeapAt ρ w1 hb ho L H) j x => row_cell (f := LBind.cells) (m := 6) (fun _ => rfl) (hh.scp m s hm).2 (g := g) (by rw [hv]; rfl) (i := k) (j := j) (x := x) hp
      have hgw : g < w.heap.size := hgl
      have HR := Lib.hid hrow
      have HH := Lib.hid h1
      have HV := Lib.hid hv
      have HB := Lib.hid hB0
      clear h h1 hob hhas hm hB0 hnb hq hk hp hown0 hv hrow hd
      by_cases h4 : b.kind = 4
      · have h4' : (b.kind != 4) = false := by simp [h4]
        rw [if_pos h4]
        clear h4
        obtain ⟨bn, bv, bk, br⟩ := b
        simp only at h4'
        go_enter Tryd.func18, Tryd.ntmps18
        go_wp2_with fail
        refine HC.out.mono ?_
        rintro e w1 ⟨rfl, rfl⟩
        go_wp2_with fail
        refine HA.out.mono ?_
        rintro e w1 ⟨rfl, hB⟩
        obtain ⟨q0, hs, hB'⟩ := str_facts hB
        have hH1 := HH.out.below hB
        obtain ⟨d1, d2, z2, hsb, ho1⟩ := HF.out w1 hH1
        have HH1 := Lib.hid hH1
        have HB1 := Lib.hid hB'
        clear hB hB' hH1 ho1
        go_wp2_with fail
        refine (HBind.out w1 HH1.out).mono ?_
        rintro e w2 ⟨rfl, hB2⟩
        have hH2 := HH1.out.below hB2
        obtain ⟨d1', d2', z2', hsb', ho2⟩ := HF.out w2 hH2
        have r4 := HR.out w2 hH2 4 (.int .i64 bk) rfl
        have q0' := (hB2.cell (p := ⟨w.heap.size, 0, none⟩) hs).trans q0
        have hs' := Nat.lt_of_lt_of_le hs hB2.size
        have hdf := deleteFunc_any w2 ⟨w.heap.size, 0, none⟩ name q0' hs' (L.nv m) s.names (by rw [HV.out]; simp only [Value.ownBlock, ne_eq, Option.some.injEq]; omega) ho2
        rw [HV.out] at hdf d2'
        have HD := Lib.hid hdf
        have HH2 := Lib.hid hH2
        have HB2 := Lib.hid (HB1.out.trans (hB2.mono (Nat.le_of_lt hs)))
        clear hB2 hH2 ho2 hdf q0 d1 d2 z2 d1' q0'
        go_wp2_with fail
        refine HD.out.mono ?_
        rintro e w3 ⟨v', rfl, hown3, hg3, hv3⟩
        have hgo : g ≠ L.sb m := fun e => by
          have h1 := HH2.out.rnv m g hml (by rw [HV.out]; rfl)
          rw [e, HH2.out.rsb m hml] at h1
          cases h1
        have d3 : w3.cell? ⟨L.sb m, 2, none⟩ = some (.slice (some ⟨g, 0, none⟩) s.names.length c) := (World.cell?_of_block (hg3.block (L.sb m) hsb' (fun e => hgo (Option.some.inj e).symm))).trans d2'
        have z3 : w3.frozen? ⟨L.sb m, 2, none⟩ = false := (World.frozen?_of_block (hg3.block (L.sb m) hsb' (fun e => hgo (Option.some.inj e).symm))).trans z2'
        obtain ⟨g', n', c', rfl⟩ : ∃ g' n' c', v' = .slice g' n' c' := by
          rcases ownsRow_cases hown3 with ⟨hv, _⟩ | ⟨g', c', hv, _⟩
          · exact ⟨_, _, _, hv⟩
          · exact ⟨_, _, _, hv⟩
        have HO3 := Lib.hid hown3
        have HG3 := Lib.hid hg3
        have HV3 := Lib.hid hv3
        clear hown3 hg3 hv3 d2' z2' r4
        go_wp2
        go_ret
        refine ⟨rfl, ?_⟩
        obtain ⟨ρ', L', hA, hF⟩ := drop_fin HH2.out HM.out HO3.out (by rw [HV.out]; exact HG3.out) (by rw [HV.out]; exact HV3.out)
        exact ⟨ρ', L', hA, (Fr.of_below hhb HB2.out).trans hF⟩
      · have h4' : (b.kind != 4) = true := by simp [h4]
        rw [if_neg h4]
        clear h4
        obtain ⟨bn, bv, bk, br⟩ := b
        simp only at h4'
        go_enter Tryd.func18, Tryd.ntmps18
        go_wp2_with fail
        refine HC.out.mono ?_
        rintro e w1 ⟨rfl, rfl⟩
        go_wp2_with fail
        refine HA.out.mono ?_
        rintro e w1 ⟨rfl, hB⟩
        obtain ⟨q0, hs, hB'⟩ := str_facts hB
        have hH1 := HH.out.below hB
        obtain ⟨d1, d2, z2, hsb, ho1⟩ := HF.out w1 hH1
        have HH1 := Lib.hid hH1
        have HB1 := Lib.hid hB'
        clear hB hB' hH1 ho1
        go_wp2_with fail
        refine (HBind.out w1 HH1.out).mono ?_
        rintro e w2 ⟨rfl, hB2⟩
        have hH2 := HH1.out.below hB2
        have r4 := HR.out w2 hH2 4 (.int .i64 bk) rfl
        have HH2 := Lib.hid hH2
        have HB2 := Lib.hid (HB1.out.trans (hB2.mono (Nat.le_of_lt hs)))
        clear hB2 hH2 q0 d1 d2 z2
        go_wp2
        go_ret
        exact ⟨rfl, ρ, L, HH2.out, Fr.of_below hhb HB2.out⟩
    · rw [if_neg hso] at hq
      have hd : H.drop m name = H.cut s.object name := by simp [LHeap.drop, hob, hso, hq]
      rw [hd]
      have hcut := fun w1 (hh : HeapAt ρ w1 hb ho L H) => cut_any hh s.object name
      generalize (H.cut s.object name).2 = er at hcut ⊢
      have HCut := Lib.hid hcut
      have HH := Lib.hid h1
      have HB := Lib.hid hB0
      clear h h1 hob hhas hm hB0 hnb hq hcut hd
      go_enter Tryd.func18, Tryd.ntmps18
      go_wp2_with fail
      refine HC.out.mono ?_
      rintro e w1 ⟨rfl, rfl⟩
      go_wp2_with fail
      refine HA.out.mono ?_
      rintro e w1 ⟨rfl, hB⟩
      obtain ⟨q0, hs, hB'⟩ := str_facts hB
      have hH1 := HH.out.below hB
      obtain ⟨d1, d2, z2, hsb, ho1⟩ := HF.out w1 hH1
      have HH1 := Lib.hid hH1
      have HB1 := Lib.hid hB'
      clear hB hB' hH1 ho1
      go_wp2_with fail
      refine wp_region_plan [(true, 0), (true, 1), (true, 2), (true, 3), (true, 4), (true, 5)] [6, 7] (fun W => W.cell? ⟨L.sb m, 1, none⟩ = some (.int .i64 s.object) ∧ W.cell? ⟨w.heap.size, 0, none⟩ = some (.string name)) (by kernel_rfl) (by kernel_rfl) (fun _ _ d _ _ h => by cases d <;> exact h) ⟨d1, q0⟩ (fun hS0 => ?_)
      simp only [planOps, List.filterMap_cons, List.filterMap_nil, List.getElem?_toArray, List.getElem?_cons_zero, List.getElem?_cons_succ, Option.map_some]
      iterate 6
        first
          | (refine wpPlan_take ?_ (by rfl) (fun w' hS' => ?_) ?_; rotate_left; (obtain ⟨s0, s1⟩ := hS'; go_simp; first | done | with_reducible rfl); simp only [Act.put, List.setIfInBounds_toArray, List.set_cons_zero, List.set_cons_succ])
          | (refine wpPlan_skip (by rfl) ?_; simp only [Act.put, List.setIfInBounds_toArray, List.set_cons_zero, List.set_cons_succ])
      refine wpPlan_end ?_
      go_wp2_with fail
      refine (HCut.out w1.drew HH1.out.drew).mono ?_
      rintro e w2 ⟨rfl, ρ', L', hA, hF⟩
      have HA2 := Lib.hid hA
      have HFr := Lib.hid hF
      clear hA hF
      go_wp2
      go_ret
      exact ⟨rfl, ρ', L', HA2.out, (Fr.of_below hhb HB1.out.drew).trans HFr.out⟩
  · have hq' : H.has (m : Int) name = false := by simpa using hq
    rw [hq'] at HA
    have hd : H.drop m name = (H, true) := by
      rw [hhas] at hq'
      unfold LHeap.drop
      simp only [hob]
      split at hq'
      · rename_i hso
        have : s.idx name = none := by simpa using hq'
        rw [if_pos hso, this]
      · rename_i hso
        rw [if_neg hso]
        simp [hq']
    rw [hd]
    have HH := Lib.hid h1
    clear h h1 hob hhas hm hB0 hnb hq hq' hd
    go_enter Tryd.func18, Tryd.ntmps18
    go_wp2_with fail
    refine HC.out.mono ?_
    rintro e w1 ⟨rfl, rfl⟩
    go_wp2_with fail
    refine HA.out.mono ?_
    rintro e w1 ⟨rfl, hB⟩
    have HB1 := Lib.hid hB
    clear hB
    go_wp2
    go_ret
    exact ⟨rfl, ρ, L, HH.out.below HB1.out, Fr.of_below hhb (below_old HB1.out)⟩
end
end Go.Proofs.YtfanolcjgaccpaaDoor

namespace Go.Proofs.YtfanolcjgaccpaaDoor
open Go Go.RowKit
set_option maxRecDepth 100000
set_option linter.unusedVariables false

section
variable {w w' : World} {rb : Nat} {V : RV} {H : LHeap}

theorem ownsRow_base {w : World} {base base' : Nat} {e : TypeId} {m : Nat} {v : Value} {n : Nat} {xs : List Value} (h : w.ownsRow base e m v n xs) (hb : base' ≤ base) : w.ownsRow base' e m v n xs := by
  refine ⟨h.1, ?_⟩
  rcases h.2 with hn | ⟨g, cap, cur, rfl, hbg, rest⟩
  · exact .inl hn
  · exact .inr ⟨g, cap, cur, rfl, Nat.le_trans hb hbg, rest⟩
theorem row_nil_of {V : RV} {i : Nat} (h : V.pv.length ≤ i) : V.row (.prp i) = nilRow := by rw [RV.row, List.getElem?_eq_none h]; rfl
theorem row_nil_ofC {V : RV} {i : Nat} (h : V.cv.length ≤ i) : V.row (.cel i) = nilRow := by rw [RV.row, List.getElem?_eq_none h]; rfl
theorem getD_push {l : List Value} {i : Nat} : (l ++ [nilRow])[i]?.getD nilRow = l[i]?.getD nilRow := by
  by_cases h : i < l.length
  · rw [List.getElem?_append_left h]
  · rw [List.getElem?_append_right (by omega), List.getElem?_eq_none (by omega : l.length ≤ i)]
    cases i - l.length <;> rfl

/-- One object more. -/
theorem RAt.addObject (h : RAt w rb V H) {vc' vp' : Value} {code : Int}
    (hhead : w'.heap[rb]? = some (.cells #[vc', vp', V.vr] 32 (0, 0)))
    (hC : w'.ownsRow 0 3 1 vc' (H.objects.length + 1) (H.objects.map (fun o => Value.int .i64 o.code) ++ [.int .i64 code]))
    (hP : w'.ownsRow 0 89 1 vp' (H.objects.length + 1) (V.pv ++ [nilRow]))
    (hsz : w.heap.size ≤ w'.heap.size)
    (hkeep : ∀ b, b < w.heap.size → b ≠ rb → some b ≠ V.vc.ownBlock → some b ≠ V.vp.ownBlock → w'.heap[b]? = w.heap[b]?)
    (hfc : ∀ g, vc'.ownBlock = some g → V.vc.ownBlock = some g ∨ w.heap.size ≤ g) (hfp : ∀ g, vp'.ownBlock = some g → V.vp.ownBlock = some g ∨ w.heap.size ≤ g)
    (hne : ∀ g, vc'.ownBlock = some g → vp'.ownBlock ≠ some g)
    (h1 : w'.os = w.os) (h2 : w'.tape = w.tape) (h3 : w'.output = w.output) :
    ∃ V', RAt w' rb V' { H with objects := H.objects ++ [⟨[], code⟩] } ∧ RFr V V' rb w w' := by
  let V' : RV := { V with vc := vc', vp := vp', pv := V.pv ++ [nilRow] }
  have hr' : ∀ r, r ≠ .cods → r ≠ .prps → V'.row r = V.row r := fun r n1 n2 => by
    cases r with
    | prp j => exact getD_push
    | cods => exact absurd rfl n1
    | prps => exact absurd rfl n2
    | _ => rfl
  have fresh : ∀ r g, (V'.row r).ownBlock = some g → (V.row r).ownBlock = some g ∨ w.heap.size ≤ g := fun r g hg => by
    by_cases e1 : r = .cods
    · subst e1; exact hfc g hg
    · by_cases e2 : r = .prps
      · subst e2; exact hfp g hg
      · rw [hr' r e1 e2] at hg; exact .inl hg
  have far : ∀ r g, r ≠ .cods → r ≠ .prps → (V.row r).ownBlock = some g → w'.heap[g]? = w.heap[g]? := fun r g n1 n2 hg =>
    hkeep g (h.live (.inr ⟨r, hg⟩)) (fun e => h.off r (by rw [hg, e])) (fun e => n1 (h.apart r .cods g hg e.symm)) (fun e => n2 (h.apart r .prps g hg e.symm))
  have old : ∀ r g, (V.row r).ownBlock = some g → w.heap.size ≤ g → False := fun r g hg hl => by have := h.live (.inr ⟨r, hg⟩); omega
  refine ⟨V', ?_, ?_⟩
  · refine { head := hhead, lp := by simp [V', h.lp], lc := h.lc, rowC := ?_, rowP := ?_, rowR := ?_, prp := ?_, cel := ?_, apart := ?_, off := ?_ }
    · simpa [V'] using hC
    · simpa [V'] using hP
    · exact ownsRow_block h.rowR fun g hg => far .roms g (by simp) (by simp) hg
    · intro j q hj
      rw [hr' _ (by simp) (by simp)]
      by_cases hjl : j < H.objects.length
      · rw [List.getElem?_append_left hjl] at hj
        exact ownsRow_block (h.prp j q hj) fun g hg => far (.prp j) g (by simp) (by simp) hg
      · rw [List.getElem?_append_right (by omega)] at hj
        have hjj : j = H.objects.length := by
          have := getElem?_lt hj
          simp at this; omega
        subst hjj
        simp only [Nat.sub_self, List.getElem?_cons_zero, Option.some.injEq] at hj
        subst hj
        rw [row_nil_of (by rw [h.lp]; exact Nat.le_refl _)]
        exact World.ownsRow_nil _ _ _ _
    · intro j q hj
      rw [hr' _ (by simp) (by simp)]
      exact ownsRow_block (h.cel j q hj) fun g hg => far (.cel j) g (by simp) (by simp) hg
    · intro r r' g hg hg'
      rcases fresh r g hg with a | a
      · rcases fresh r' g hg' with b | b
        · exact h.apart r r' g a b
        · exact (old r g a b).elim
      · rcases fresh r' g hg' with b | b
        · exact (old r' g b a).elim
        · by_cases e1 : r = .cods
          · by_cases e2 : r' = .prps
            · subst e1; subst e2; exact absurd hg' (hne g hg)
            · by_cases e3 : r' = .cods
              · rw [e1, e3]
              · rw [hr' r' e3 e2] at hg'; exact (old r' g hg' b).elim
          · by_cases e4 : r = .prps
            · by_cases e2 : r' = .prps
              · rw [e4, e2]
              · by_cases e3 : r' = .cods
                · subst e4; subst e3; exact absurd hg (hne g hg')
                · rw [hr' r' e3 e2] at hg'; exact (old r' g hg' b).elim
            · rw [hr' r e1 e4] at hg; exact (old r g hg a).elim
    · intro r hg
      rcases fresh r rb hg with a | a
      · exact h.off r a
      · have := h.rbLt; omega
  · refine ⟨h1, h2, h3, hsz, fun k hk ho => hkeep k hk (fun e => ho (.inl e)) (fun e => ho (.inr ⟨.cods, e.symm⟩)) (fun e => ho (.inr ⟨.prps, e.symm⟩)), fun k hk ho => ?_⟩
    rcases ho with rfl | ⟨r, hg⟩
    · exact .inl rfl
    · rcases fresh r k hg with a | a
      · exact .inr ⟨r, a⟩
      · omega

/-- One room more. -/
theorem RAt.addRoom (h : RAt w rb V H) {vr' : Value} {outer object : Int}
    (hhead : w'.heap[rb]? = some (.cells #[V.vc, V.vp, vr'] 32 (0, 0)))
    (hR : w'.ownsRow 0 42 3 vr' (H.scopes.length + 1) ((H.scopes.zip V.cv).flatMap roomCells ++ [.int .i64 outer, .int .i64 object, nilRow]))
    (hsz : w.heap.size ≤ w'.heap.size)
    (hkeep : ∀ b, b < w.heap.size → b ≠ rb → some b ≠ V.vr.ownBlock → w'.heap[b]? = w.heap[b]?)
    (hfr : ∀ g, vr'.ownBlock = some g → V.vr.ownBlock = some g ∨ w.heap.size ≤ g)
    (h1 : w'.os = w.os) (h2 : w'.tape = w.tape) (h3 : w'.output = w.output) :
    ∃ V', RAt w' rb V' { H with scopes := H.scopes ++ [⟨outer, object, []⟩] } ∧ RFr V V' rb w w' := by
  let V' : RV := { V with vr := vr', cv := V.cv ++ [nilRow] }
  have hr' : ∀ r, r ≠ .roms → V'.row r = V.row r := fun r n1 => by
    cases r with
    | cel j => exact getD_push
    | roms => exact absurd rfl n1
    | _ => rfl
  have fresh : ∀ r g, (V'.row r).ownBlock = some g → (V.row r).ownBlock = some g ∨ w.heap.size ≤ g := fun r g hg => by
    by_cases e1 : r = .roms
    · subst e1; exact hfr g hg
    · rw [hr' r e1] at hg; exact .inl hg
  have far : ∀ r g, r ≠ .roms → (V.row r).ownBlock = some g → w'.heap[g]? = w.heap[g]? := fun r g n1 hg =>
    hkeep g (h.live (.inr ⟨r, hg⟩)) (fun e => h.off r (by rw [hg, e])) (fun e => n1 (h.apart r .roms g hg e.symm))
  have old : ∀ r g, (V.row r).ownBlock = some g → w.heap.size ≤ g → False := fun r g hg hl => by have := h.live (.inr ⟨r, hg⟩); omega
  refine ⟨V', ?_, ?_⟩
  · refine { head := hhead, lp := h.lp, lc := by simp [V', h.lc], rowC := ?_, rowP := ?_, rowR := ?_, prp := ?_, cel := ?_, apart := ?_, off := ?_ }
    · exact ownsRow_block h.rowC fun g hg => far .cods g (by simp) hg
    · exact ownsRow_block h.rowP fun g hg => far .prps g (by simp) hg
    · simp only [List.length_append, List.length_cons, List.length_nil, Nat.zero_add]
      rw [List.zip_append (by rw [h.lc])]
      simpa [roomCells] using hR
    · intro j q hj
      rw [hr' _ (by simp)]
      exact ownsRow_block (h.prp j q hj) fun g hg => far (.prp j) g (by simp) hg
    · intro j q hj
      rw [hr' _ (by simp)]
      by_cases hjl : j < H.scopes.length
      · rw [List.getElem?_append_left hjl] at hj
        exact ownsRow_block (h.cel j q hj) fun g hg => far (.cel j) g (by simp) hg
      · rw [List.getElem?_append_right (by omega)] at hj
        have hjj : j = H.scopes.length := by
          have := getElem?_lt hj
          simp at this; omega
        subst hjj
        simp only [Nat.sub_self, List.getElem?_cons_zero, Option.some.injEq] at hj
        subst hj
        rw [row_nil_ofC (by rw [h.lc]; exact Nat.le_refl _)]
        exact World.ownsRow_nil _ _ _ _
    · intro r r' g hg hg'
      rcases fresh r g hg with a | a
      · rcases fresh r' g hg' with b | b
        · exact h.apart r r' g a b
        · exact (old r g a b).elim
      · rcases fresh r' g hg' with b | b
        · exact (old r' g b a).elim
        · by_cases e1 : r = .roms
          · by_cases e3 : r' = .roms
            · rw [e1, e3]
            · rw [hr' r' e3] at hg'; exact (old r' g hg' b).elim
          · rw [hr' r e1] at hg; exact (old r g hg a).elim
    · intro r hg
      rcases fresh r rb hg with a | a
      · exact h.off r a
      · have := h.rbLt; omega
  · refine ⟨h1, h2, h3, hsz, fun k hk ho => hkeep k hk (fun e => ho (.inl e)) (fun e => ho (.inr ⟨.roms, e.symm⟩)), fun k hk ho => ?_⟩
    rcases ho with rfl | ⟨r, hg⟩
    · exact .inl rfl
    · rcases fresh r k hg with a | a
      · exact .inr ⟨r, a⟩
      · omega

/-- Stores into one property's value. -/
theorem RAt.storeProp (h : RAt w rb V H) {m k g c : Nat} {o : LObj} {p : LProp} (v : LVal) (hm : H.objects[m]? = some o) (hp : o.props[k]? = some p)
    (hv : V.row (.prp m) = .slice (some ⟨g, 0, none⟩) o.props.length c) :
    ∃ V', RAt (w.setCell ⟨g, k * 3 + 1, none⟩ (.int .i64 v.n)) rb V' { H with objects := H.objects.set m { o with props := o.props.set k { p with v := v } } } ∧ RFr V V' rb w (w.setCell ⟨g, k * 3 + 1, none⟩ (.int .i64 v.n)) := by
  have hml := getElem?_lt hm
  have hown := h.prp m o hm
  rw [hv] at hown
  have hst := (hown.stored (k * 3 + 1) (.int .i64 v.n)).1
  rw [set_flatMap (f := LProp.rcells) (m := 3) (fun _ => rfl) hp (j := 1) (by omega) (a' := { p with v := v }) rfl] at hst
  have far : ∀ b, b ≠ g → (w.setCell ⟨g, k * 3 + 1, none⟩ (.int .i64 v.n)).heap[b]? = w.heap[b]? := fun b hb => Below.heap_setCell _ _ _ _ hb
  have hgo : (V.row (.prp m)).ownBlock = some g := by rw [hv]; rfl
  refine h.setProps hm (v' := .slice (some ⟨g, 0, none⟩) o.props.length c) (ps := o.props.set k { p with v := v }) (by simpa using hst) ?_ (by simp) (fun b _ _ h3 => ?_) (fun g' hg' => ?_) rfl rfl rfl
  · rw [← hv, h.set_self hml]
    exact ownsRow_block h.rowP fun g' hg' => far g' fun e => by
      subst e
      exact absurd (h.apart .prps (.prp m) g' hg' hgo) (by simp)
  · exact far b fun e => h3 (by rw [hgo, e])
  · rw [hgo]; simp only [Value.ownBlock] at hg'; exact .inl hg'

/-- One property more: what the append and the store behind it leave. -/
theorem RAt.pushProp (h : RAt w rb V H) {wA w2 : World} {m gp c gg cap : Nat} {o : LObj} {b : LProp} (hm : H.objects[m]? = some o)
    (hvp : V.vp = .slice (some ⟨gp, 0, none⟩) H.objects.length c) (hA : Below w.heap.size w wA) (hg : wA.grownBy w2 (V.row (.prp m)).ownBlock)
    (hown : w2.ownsRow 0 91 3 (.slice (some ⟨gg, 0, none⟩) (o.props.length + 1) cap) (o.props.length + 1) (o.props.flatMap LProp.rcells ++ b.rcells))
    (hat : (V.row (.prp m)).ownBlock = some gg ∨ w.heap.size ≤ gg) :
    ∃ V', RAt (w2.setCell ⟨gp, m, none⟩ (.slice (some ⟨gg, 0, none⟩) (o.props.length + 1) cap)) rb V' { H with objects := H.objects.set m { o with props := o.props ++ [b] } } ∧
      RFr V V' rb w (w2.setCell ⟨gp, m, none⟩ (.slice (some ⟨gg, 0, none⟩) (o.props.length + 1) cap)) := by
  have hml := getElem?_lt hm
  have hpo : V.vp.ownBlock = some gp := by rw [hvp]; rfl
  have hgpl : gp < w.heap.size := h.live (.inr ⟨.prps, hpo⟩)
  have hgpr : some gp ≠ (V.row (.prp m)).ownBlock := fun e => absurd (h.apart .prps (.prp m) gp hpo e.symm) (by simp)
  have hggp : gg ≠ gp := by
    rcases hat with e | e
    · rintro rfl; exact hgpr e.symm
    · omega
  have old : ∀ b, b < w.heap.size → some b ≠ (V.row (.prp m)).ownBlock → w2.heap[b]? = w.heap[b]? := fun b hb h2 => (hg.block b (Nat.lt_of_lt_of_le hb hA.size) h2).trans (hA.block b hb)
  have far : ∀ b, b ≠ gp → (w2.setCell ⟨gp, m, none⟩ (.slice (some ⟨gg, 0, none⟩) (o.props.length + 1) cap)).heap[b]? = w2.heap[b]? := fun b hb => Below.heap_setCell _ _ _ _ hb
  have hrow : w2.ownsRow 0 89 1 V.vp H.objects.length V.pv := ownsRow_block h.rowP fun g' hg' => by
    have : g' = gp := Option.some.inj (hg'.symm.trans hpo)
    subst this
    exact old g' hgpl hgpr
  rw [hvp] at hrow
  have hst := (hrow.stored m (.slice (some ⟨gg, 0, none⟩) (o.props.length + 1) cap)).1
  refine h.setProps hm (v' := .slice (some ⟨gg, 0, none⟩) (o.props.length + 1) cap) (ps := o.props ++ [b]) ?_ ?_ ?_ (fun b' hb' h2 h3 => ?_) (fun g' hg' => ?_) (hg.os.trans hA.os) (hg.tape.trans hA.tape) (hg.output.trans hA.output)
  · have := ownsRow_block hown fun g' hg' => far g' (by simp only [Value.ownBlock, Option.some.injEq] at hg'; omega)
    simpa using this
  · rw [hvp]; exact hst
  · exact Nat.le_trans hA.size (Nat.le_trans hg.size (by simp [World.setCell]))
  · exact (far b' (fun e => h2 (by rw [hpo, e]))).trans (old b' hb' h3)
  · simp only [Value.ownBlock, Option.some.injEq] at hg'
    subst hg'
    exact hat

/-- Other properties, in a row of their own (nil, or behind all). -/
theorem RAt.newProps (h : RAt w rb V H) {w2 : World} {m gp c : Nat} {o : LObj} {ps : List LProp} {v' : Value} (hm : H.objects[m]? = some o)
    (hvp : V.vp = .slice (some ⟨gp, 0, none⟩) H.objects.length c) (hA : Below w.heap.size w w2)
    (hown : w2.ownsRow w.heap.size 91 3 v' ps.length (ps.flatMap LProp.rcells)) :
    ∃ V', RAt (w2.setCell ⟨gp, m, none⟩ v') rb V' { H with objects := H.objects.set m { o with props := ps } } ∧ RFr V V' rb w (w2.setCell ⟨gp, m, none⟩ v') := by
  have hml := getElem?_lt hm
  have hpo : V.vp.ownBlock = some gp := by rw [hvp]; rfl
  have hgpl : gp < w.heap.size := h.live (.inr ⟨.prps, hpo⟩)
  have hfr : ∀ g', v'.ownBlock = some g' → w.heap.size ≤ g' := fun g' hg' => (hown.lt g' hg').1
  have far : ∀ b, b ≠ gp → (w2.setCell ⟨gp, m, none⟩ v').heap[b]? = w2.heap[b]? := fun b hb => Below.heap_setCell _ _ _ _ hb
  have hrow := (h.below hA).rowP
  rw [hvp] at hrow
  have hst := (hrow.stored m v').1
  refine h.setProps hm (v' := v') (ps := ps) ?_ ?_ ?_ (fun b' hb' h2 _ => ?_) (fun g' hg' => .inr (hfr g' hg')) hA.os hA.tape hA.output
  · exact ownsRow_base (ownsRow_block hown fun g' hg' => far g' (by have := hfr g' hg'; omega)) (Nat.zero_le _)
  · rw [hvp]; exact hst
  · exact Nat.le_trans hA.size (by simp [World.setCell])
  · exact (far b' (fun e => h2 (by rw [hpo, e]))).trans (hA.block b' hb')

/-- Stores into one binding. -/
theorem RAt.storeCell (h : RAt w rb V H) {w2 : World} {m g c : Nat} {s : LScope} {ps : List LBind} (hm : H.scopes[m]? = some s) (hl : ps.length = s.names.length)
    (hv : V.row (.cel m) = .slice (some ⟨g, 0, none⟩) s.names.length c)
    (hown : w2.ownsRow 0 98 4 (.slice (some ⟨g, 0, none⟩) s.names.length c) s.names.length (ps.flatMap LBind.rcells)) (hg : w.grownBy w2 (some g)) :
    ∃ V', RAt w2 rb V' (H.setNames m s ps) ∧ RFr V V' rb w w2 := by
  have hml := getElem?_lt hm
  have hgo : (V.row (.cel m)).ownBlock = some g := by rw [hv]; rfl
  refine h.setCells hm (v' := .slice (some ⟨g, 0, none⟩) s.names.length c) (ps := ps) (by rw [hl]; exact hown) ?_ hg.size (fun b hb _ h3 => ?_) (fun g' hg' => ?_) hg.os hg.tape hg.output
  · rw [← hv, h.set_selfR hm]
    exact ownsRow_block h.rowR fun g' hg' => hg.block g' (h.live (.inr ⟨.roms, hg'⟩)) fun e => by
      simp only [Option.some.injEq] at e
      subst e
      exact absurd (h.apart .roms (.cel m) g' hg' hgo) (by simp)
  · rw [hgo] at h3; exact hg.block b hb h3
  · rw [hgo]; simp only [Value.ownBlock] at hg'; exact .inl hg'

/-- One binding more: what the append and the store behind it leave. -/
theorem RAt.pushCell (h : RAt w rb V H) {wA w2 : World} {m gr c gg cap : Nat} {s : LScope} {b : LBind} (hm : H.scopes[m]? = some s)
    (hvr : V.vr = .slice (some ⟨gr, 0, none⟩) H.scopes.length c) (hA : Below w.heap.size w wA) (hg : wA.grownBy w2 (V.row (.cel m)).ownBlock)
    (hown : w2.ownsRow 0 98 4 (.slice (some ⟨gg, 0, none⟩) (s.names.length + 1) cap) (s.names.length + 1) (s.names.flatMap LBind.rcells ++ b.rcells))
    (hat : (V.row (.cel m)).ownBlock = some gg ∨ w.heap.size ≤ gg) :
    ∃ V', RAt (w2.setCell ⟨gr, m * 3 + 2, none⟩ (.slice (some ⟨gg, 0, none⟩) (s.names.length + 1) cap)) rb V' { H with scopes := H.scopes.set m { s with names := s.names ++ [b] } } ∧
      RFr V V' rb w (w2.setCell ⟨gr, m * 3 + 2, none⟩ (.slice (some ⟨gg, 0, none⟩) (s.names.length + 1) cap)) := by
  have hml := getElem?_lt hm
  have hpo : V.vr.ownBlock = some gr := by rw [hvr]; rfl
  have hgpl : gr < w.heap.size := h.live (.inr ⟨.roms, hpo⟩)
  have hgpr : some gr ≠ (V.row (.cel m)).ownBlock := fun e => absurd (h.apart .roms (.cel m) gr hpo e.symm) (by simp)
  have hggp : gg ≠ gr := by
    rcases hat with e | e
    · rintro rfl; exact hgpr e.symm
    · omega
  have old : ∀ b, b < w.heap.size → some b ≠ (V.row (.cel m)).ownBlock → w2.heap[b]? = w.heap[b]? := fun b hb h2 => (hg.block b (Nat.lt_of_lt_of_le hb hA.size) h2).trans (hA.block b hb)
  have far : ∀ b, b ≠ gr → (w2.setCell ⟨gr, m * 3 + 2, none⟩ (.slice (some ⟨gg, 0, none⟩) (s.names.length + 1) cap)).heap[b]? = w2.heap[b]? := fun b hb => Below.heap_setCell _ _ _ _ hb
  have hrow : w2.ownsRow 0 42 3 V.vr H.scopes.length ((H.scopes.zip V.cv).flatMap roomCells) := ownsRow_block h.rowR fun g' hg' => by
    have : g' = gr := Option.some.inj (hg'.symm.trans hpo)
    subst this
    exact old g' hgpl hgpr
  rw [hvr] at hrow
  have hst := (hrow.stored (m * 3 + 2) (.slice (some ⟨gg, 0, none⟩) (s.names.length + 1) cap)).1
  refine h.setCells hm (v' := .slice (some ⟨gg, 0, none⟩) (s.names.length + 1) cap) (ps := s.names ++ [b]) ?_ ?_ ?_ (fun b' hb' h2 h3 => ?_) (fun g' hg' => ?_) (hg.os.trans hA.os) (hg.tape.trans hA.tape) (hg.output.trans hA.output)
  · have := ownsRow_block hown fun g' hg' => far g' (by simp only [Value.ownBlock, Option.some.injEq] at hg'; omega)
    simpa using this
  · rw [hvr]; exact hst
  · exact Nat.le_trans hA.size (Nat.le_trans hg.size (by simp [World.setCell]))
  · exact (far b' (fun e => h2 (by rw [hpo, e]))).trans (old b' hb' h3)
  · simp only [Value.ownBlock, Option.some.injEq] at hg'
    subst hg'
    exact hat

/-- Other bindings, in a row of their own. -/
theorem RAt.newCells (h : RAt w rb V H) {w2 : World} {m gr c : Nat} {s : LScope} {ps : List LBind} {v' : Value} (hm : H.scopes[m]? = some s)
    (hvr : V.vr = .slice (some ⟨gr, 0, none⟩) H.scopes.length c) (hA : Below w.heap.size w w2)
    (hown : w2.ownsRow w.heap.size 98 4 v' ps.length (ps.flatMap LBind.rcells)) :
    ∃ V', RAt (w2.setCell ⟨gr, m * 3 + 2, none⟩ v') rb V' (H.setNames m s ps) ∧ RFr V V' rb w (w2.setCell ⟨gr, m * 3 + 2, none⟩ v') := by
  have hml := getElem?_lt hm
  have hpo : V.vr.ownBlock = some gr := by rw [hvr]; rfl
  have hgpl : gr < w.heap.size := h.live (.inr ⟨.roms, hpo⟩)
  have hfr : ∀ g', v'.ownBlock = some g' → w.heap.size ≤ g' := fun g' hg' => (hown.lt g' hg').1
  have far : ∀ b, b ≠ gr → (w2.setCell ⟨gr, m * 3 + 2, none⟩ v').heap[b]? = w2.heap[b]? := fun b hb => Below.heap_setCell _ _ _ _ hb
  have hrow := (h.below hA).rowR
  rw [hvr] at hrow
  have hst := (hrow.stored (m * 3 + 2) v').1
  refine h.setCells hm (v' := v') (ps := ps) ?_ ?_ ?_ (fun b' hb' h2 _ => ?_) (fun g' hg' => .inr (hfr g' hg')) hA.os hA.tape hA.output
  · exact ownsRow_base (ownsRow_block hown fun g' hg' => far g' (by have := hfr g' hg'; omega)) (Nat.zero_le _)
  · rw [hvr]; exact hst
  · exact Nat.le_trans hA.size (by simp [World.setCell])
  · exact (far b' (fun e => h2 (by rw [hpo, e]))).trans (hA.block b' hb')
end
end Go.Proofs.YtfanolcjgaccpaaDoor
