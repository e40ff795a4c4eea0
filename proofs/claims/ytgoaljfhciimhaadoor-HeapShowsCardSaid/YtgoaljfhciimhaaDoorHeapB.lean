/- Walks of package heap: Object, Code. -/
import Derived.Test.YtgoaljfhciimhaaDoorHeapS
namespace Go.Proofs.YtgoaljfhciimhaaDoor
open Go Go.RowKit
set_option maxRecDepth 100000
section
variable {ρ : Nat → Option Role} {w : World} {hb ho : Nat} {L : HL} {H : LHeap}

set_option maxHeartbeats 800000 in
theorem newObject_any (h : HeapAt ρ w hb ho L H) (code : Int) (hn : H.objects.length < 1099511627776) :
    Calls Tryd.prog 24 #[.pointer (some ⟨hb, ho, none⟩), .int .i64 code] w fun e w' => e = .returned (.int .i64 H.objects.length) ∧
      ∃ ρ' L', HeapAt ρ' w' hb ho L' { H with objects := H.objects ++ [⟨[], code⟩] } ∧ Fr ρ ρ' hb ho w w' := by
  obtain ⟨i0, hi, hz0, hz1, hz2⟩ := info_parts Tryd.infoPO
  have hcs := h.cellO
  have hfs := h.frO
  have hhb := h.hbLt
  have hown := h.rowO
  have hlt : ∀ g, L.vo.ownBlock = some g → g < w.heap.size := fun g hg => (hown.lt g hg).2
  have hrole : ∀ g, L.vo.ownBlock = some g → g ≠ hb := fun g hg e => by have := h.rvo g hg; rw [e, h.rhp] at this; cases this
  obtain ⟨vs, hvs⟩ : ∃ v, v = L.vo := ⟨_, rfl⟩
  obtain ⟨sb, hsb⟩ : ∃ v, v = ptrs L.ob H.objects.length := ⟨_, rfl⟩
  obtain ⟨n, hnn⟩ : ∃ n, n = H.objects.length := ⟨_, rfl⟩
  rw [← hvs, ← hsb] at hown
  rw [← hvs] at hcs hlt hrole
  rw [← hnn] at hn hown ⊢
  have HH := Lib.hid h
  have HV := Lib.hid hvs
  have HS := Lib.hid hsb
  have HN := Lib.hid hnn
  have HO := Lib.hid hown
  have HL := Lib.hid hlt
  have HR := Lib.hid hrole
  clear h hvs hsb hnn hown hlt hrole
  have haft : ∀ o1 o2 (w1 : World), ((w.alloc o1).alloc o2).grownBy w1 vs.ownBlock → w1.cell? ⟨hb, ho, none⟩ = some vs ∧ w1.frozen? ⟨hb, ho, none⟩ = false := fun o1 o2 w1 hg =>
    ⟨(hg.cell_far ⟨hb, ho, none⟩ (by simp; omega) (fun e => HR.out hb e.symm rfl)).trans ((cell_old (by simp; omega)).trans ((cell_old hhb).trans hcs)),
     (hg.frozen_far ⟨hb, ho, none⟩ (by simp; omega) (fun e => HR.out hb e.symm rfl)).trans ((frozen_old (by simp; omega)).trans ((frozen_old hhb).trans hfs))⟩
  have HA := Lib.hid haft
  clear haft
  go_enter Tryd.func24, Tryd.ntmps24
  go_wp2_with (at_builtin; go_must (refine wpList_append_lies _ rfl (.tmp 9) (.tmp 13) 31 rfl 0 129 i0 (.pointer none) 1 8 Tryd.underlying31 hi hz0 hz1 hz2 rfl (by decide) vs n sb rfl ((HO.out.alloc _).alloc _) ⟨w.heap.size + 1, 0, none⟩ 1 1 [.pointer (some ⟨w.heap.size, 0, none⟩)] rfl rfl (news1 _ _ _ _) (by intro u hu; simp at hu; subst hu; rfl) (by omega) (by unfold maxLen; omega) (by omega) (by omega) (w.heap.size + 2) (by simp) ?_); intro g cap w1 hown1 hgrow1 hat hgl; obtain ⟨hc1, hf1⟩ := HA.out _ _ _ hgrow1; have HG := Lib.hid hgrow1; have HW := Lib.hid hown1; have HT := Lib.hid hat; have HGL := Lib.hid hgl; clear hgrow1 hown1 hat hgl)
  go_ret
  refine ⟨ret_int (by omega), ?_⟩
  have hA : Below w.heap.size w ((w.alloc (.cells #[.slice none 0 0, .int .i64 code] 132)).alloc (.cells #[.pointer (some ⟨w.heap.size, 0, none⟩)] 129)) := ((Below.refl _ _).alloc (Nat.le_refl _) _).alloc (by simp) _
  have hne : vs.ownBlock ≠ some hb := fun e => HR.out hb e rfl
  obtain ⟨k1, k2, k3, k4, k5, k6, k7, k8, k9, k10⟩ := push_field (.slice (some ⟨g, 0, none⟩) (n + 1) cap) hA HG.out hhb hne hcs
  have hv := HV.out
  have hgn : ∀ g', vs.ownBlock = some g' → g' < w.heap.size := HL.out
  have hgb : g ≠ hb := by
    rcases HT.out with h | h
    · exact HR.out g h
    · omega
  have h := HH.out
  refine h.addObject (nb := w.heap.size) k1 ?_ ?_ (Nat.le_refl _) k7 ?_ k2 k3 ?_ ?_ k8 k9 k10
  · rw [k6 w.heap.size (by simp; omega) (by omega) (fun e => by have := hgn _ e.symm; omega)]
    exact heap_alloc2_old w _ _
  · have hsb := HS.out
    rw [← HN.out] at hsb
    rw [← HN.out, ← hsb]
    exact ownsRow_block HW.out fun g' hg' => k5 g' (by simp only [Value.ownBlock, Option.some.injEq] at hg'; omega)
  · intro b hb1 hb2 hb3
    rw [← hv] at hb3
    exact k4 b hb1 hb2 hb3
  · intro g' hg'
    simp only [Value.ownBlock, Option.some.injEq] at hg'
    subst hg'
    rw [← hv]
    rcases HT.out with h | h
    · exact .inl h
    · exact .inr (by omega)
  · simp only [Value.ownBlock, ne_eq, Option.some.injEq]
    rcases HT.out with h | h
    · have := hgn g h; omega
    · omega

def LHeap.code (H : LHeap) (n : Int) : Int := match H.object? n with | some o => o.code | none => 0
set_option maxHeartbeats 800000 in
theorem code_any (h : HeapAt ρ w hb ho L H) (n : Int) :
    Calls Tryd.prog 53 #[.pointer (some ⟨hb, ho, none⟩), .int .i64 n] w fun e w' => e = .returned (.int .i64 (H.code n)) ∧ w' = w := by
  rcases hob : H.object? n with _ | o
  · have HC := Lib.hid (object_no h n hob)
    have hd : H.code n = 0 := by simp [LHeap.code, hob]
    rw [hd]
    clear h hob hd
    go_enter Tryd.func53, Tryd.ntmps53
    go_wp2_with fail
    refine HC.out.mono ?_
    rintro e w1 ⟨rfl, rfl⟩
    go_wp2
    go_ret
    exact ⟨rfl, rfl⟩
  · obtain ⟨m, rfl, hm⟩ : ∃ m : Nat, n = m ∧ H.objects[m]? = some o := by
      unfold LHeap.object? at hob
      split at hob
      · cases hob
      · exact ⟨n.toNat, by omega, hob⟩
    have hml := getElem?_lt hm
    have HC := Lib.hid (object_yes h m hml)
    have hd : H.code m = o.code := by simp [LHeap.code, hob]
    rw [hd]
    have hc : w.cell? ⟨L.ob m, 1, none⟩ = some (.int .i64 o.code) := by have := (h.obj m o hm).1; simp [World.cell?, this]
    clear h hob hd hm
    go_enter Tryd.func53, Tryd.ntmps53
    go_wp2_with fail
    refine HC.out.mono ?_
    rintro e w1 ⟨rfl, rfl⟩
    go_wp2
    go_ret
    exact ⟨rfl, rfl⟩

def LVal.true (v : LVal) : Bool := if v.kind = 0 ∨ v.kind = 1 then false else if v.kind = 2 ∨ v.kind = 3 then v.n != 0 else if v.kind = 4 then !sameS v.s ⟨#[]⟩ else Bool.true
set_option maxHeartbeats 800000 in
theorem true_any (w : World) (v : LVal) :
    Calls Tryd.prog 25 #[v.agg] w fun e w' => e = .returned (.bool v.true) ∧ Below w.heap.size w w' := by
  obtain ⟨k, n, s⟩ := v
  simp only [LVal.agg, LVal.true]
  by_cases k0 : k = 0
  · subst k0
    go_enter Tryd.func25, Tryd.ntmps25
    go_wp2
    go_ret
    exact ⟨by simp, (Below.refl _ _).alloc (Nat.le_refl _) _⟩
  by_cases k1 : k = 1
  · subst k1
    go_enter Tryd.func25, Tryd.ntmps25
    go_wp2
    go_ret
    exact ⟨by simp, (Below.refl _ _).alloc (Nat.le_refl _) _⟩
  by_cases k2 : k = 2
  · subst k2
    go_enter Tryd.func25, Tryd.ntmps25
    go_wp2
    go_ret
    exact ⟨by simp, (Below.refl _ _).alloc (Nat.le_refl _) _⟩
  by_cases k3 : k = 3
  · subst k3
    go_enter Tryd.func25, Tryd.ntmps25
    go_wp2
    go_ret
    exact ⟨by simp, (Below.refl _ _).alloc (Nat.le_refl _) _⟩
  by_cases k4 : k = 4
  · subst k4
    go_enter Tryd.func25, Tryd.ntmps25
    go_wp2
    go_ret
    refine ⟨ret_bool ?_, (Below.refl _ _).alloc (Nat.le_refl _) _⟩
    simp
    rw [← toList_beq, show (⟨#[]⟩ : ByteArray).toList = [] by simp [ByteArray.toList_eq]]
    cases s.toList <;> rfl
  · have q0 : (k == 0) = false := by simp [k0]
    have q1 : (k == 1) = false := by simp [k1]
    have q2 : (k == 2) = false := by simp [k2]
    have q3 : (k == 3) = false := by simp [k3]
    have q4 : (k == 4) = false := by simp [k4]
    have hv : (if k = 0 ∨ k = 1 then false else if k = 2 ∨ k = 3 then n != 0 else if k = 4 then !sameS s ⟨#[]⟩ else true) = true := by simp [k0, k1, k2, k3, k4]
    rw [hv]
    clear k0 k1 k2 k3 k4 hv
    go_enter Tryd.func25, Tryd.ntmps25
    go_wp2
    go_ret
    exact ⟨rfl, (Below.refl _ _).alloc (Nat.le_refl _) _⟩
end
end Go.Proofs.YtgoaljfhciimhaaDoor
