/- Walks of package heap that change it: Scope. -/
import Derived.Test.YtgoaljfhciimhaaDoorHeapE
import Derived.Test.YtgoaljfhciimhaaDoorHeapU
import Derived.Deep.RegionHeld3
import Derived.Deep.RegionLaw
namespace Go.Proofs.YtgoaljfhciimhaaDoor
open Go Go.RowKit
set_option maxRecDepth 100000

theorem Tryd.infoPS : (Tryd.prog.info? 117).map (fun i => (i.zero, i.size, i.bytes)) = some (some (.pointer none), 1, 8) := by kernel_rfl
theorem Tryd.infoPO : (Tryd.prog.info? 129).map (fun i => (i.zero, i.size, i.bytes)) = some (some (.pointer none), 1, 8) := by kernel_rfl
theorem Tryd.infoBind : (Tryd.prog.info? 124).map (fun i => (i.zero, i.size, i.bytes)) = some (some (.agg #[.string ⟨#[]⟩, .int .i64 0, .int .i64 0, .string ⟨#[]⟩, .int .i64 0, .bool false]), 6, 64) := by kernel_rfl

theorem news1 (w : World) (o : Obj) (x : Value) (t : TypeId) : ∀ j u, [x][j]? = some u → ((w.alloc o).alloc (.cells #[x] t)).cell? ((⟨w.heap.size + 1, 0, none⟩ : Addr).add j) = some u := by
  have := cell_one_new (w.alloc o) x t
  rwa [show (w.alloc o).heap.size = w.heap.size + 1 by simp] at this

section
variable {ρ : Nat → Option Role} {w : World} {hb ho : Nat} {L : HL} {H : LHeap}

set_option maxHeartbeats 800000 in
theorem newScope_any (h : HeapAt ρ w hb ho L H) (outer object : Int) (hn : H.scopes.length < 1099511627776) :
    Calls Tryd.prog 16 #[.pointer (some ⟨hb, ho, none⟩), .int .i64 outer, .int .i64 object] w fun e w' => e = .returned (.int .i64 H.scopes.length) ∧
      ∃ ρ' L', HeapAt ρ' w' hb ho L' { H with scopes := H.scopes ++ [⟨outer, object, []⟩] } ∧ Fr ρ ρ' hb ho w w' := by
  obtain ⟨i0, hi, hz0, hz1, hz2⟩ := info_parts Tryd.infoPS
  have hcs := h.cellS
  have hfs := h.frS
  have hhb := h.hbLt
  have hown := h.rowS
  have hlt : ∀ g, L.vs.ownBlock = some g → g < w.heap.size := fun g hg => (hown.lt g hg).2
  have hrole : ∀ g, L.vs.ownBlock = some g → g ≠ hb := fun g hg e => by have := h.rvs g hg; rw [e, h.rhp] at this; cases this
  obtain ⟨vs, hvs⟩ : ∃ v, v = L.vs := ⟨_, rfl⟩
  obtain ⟨sb, hsb⟩ : ∃ v, v = ptrs L.sb H.scopes.length := ⟨_, rfl⟩
  obtain ⟨n, hnn⟩ : ∃ n, n = H.scopes.length := ⟨_, rfl⟩
  rw [← hvs, ← hsb] at hown
  rw [← hvs] at hcs hlt hrole
  rw [← hnn] at hn hown ⊢
  have HH := Lib.hid h
  have HV := Lib.hid hvs
  have HS := Lib.hid hsb
  have HN := Lib.hid hnn
  have HO := Lib.hid hown
  have HL := Lib.hid hlt
  have HR := Lib.hid hrole
  clear h hvs hsb hnn hown hlt hrole
  have haft : ∀ o1 o2 (w1 : World), ((w.alloc o1).alloc o2).grownBy w1 vs.ownBlock → w1.cell? ⟨hb, ho + 1, none⟩ = some vs ∧ w1.frozen? ⟨hb, ho + 1, none⟩ = false := fun o1 o2 w1 hg =>
    ⟨(hg.cell_far ⟨hb, ho + 1, none⟩ (by simp; omega) (fun e => HR.out hb e.symm rfl)).trans ((cell_old (by simp; omega)).trans ((cell_old hhb).trans hcs)),
     (hg.frozen_far ⟨hb, ho + 1, none⟩ (by simp; omega) (fun e => HR.out hb e.symm rfl)).trans ((frozen_old (by simp; omega)).trans ((frozen_old hhb).trans hfs))⟩
  have HA := Lib.hid haft
  clear haft
  go_enter Tryd.func16, Tryd.ntmps16
  go_wp2_with (at_builtin; go_must (refine wpList_append_lies _ rfl (.tmp 11) (.tmp 16) 32 rfl 0 117 i0 (.pointer none) 1 8 Tryd.underlying32 hi hz0 hz1 hz2 rfl (by decide) vs n sb rfl ((HO.out.alloc _).alloc _) ⟨w.heap.size + 1, 0, none⟩ 1 1 [.pointer (some ⟨w.heap.size, 0, none⟩)] rfl rfl (news1 _ _ _ _) (by intro u hu; simp at hu; subst hu; rfl) (by omega) (by unfold maxLen; omega) (by omega) (by omega) (w.heap.size + 2) (by simp) ?_); intro g cap w1 hown1 hgrow1 hat hgl; obtain ⟨hc1, hf1⟩ := HA.out _ _ _ hgrow1; have HG := Lib.hid hgrow1; have HW := Lib.hid hown1; have HT := Lib.hid hat; have HGL := Lib.hid hgl; clear hgrow1 hown1 hat hgl)
  go_ret
  refine ⟨ret_int (by omega), ?_⟩
  have hA : Below w.heap.size w ((w.alloc (.cells #[.int .i64 outer, .int .i64 object, .slice none 0 0] 120)).alloc (.cells #[.pointer (some ⟨w.heap.size, 0, none⟩)] 117)) := ((Below.refl _ _).alloc (Nat.le_refl _) _).alloc (by simp) _
  have hne : vs.ownBlock ≠ some hb := fun e => HR.out hb e rfl
  obtain ⟨k1, k2, k3, k4, k5, k6, k7, k8, k9, k10⟩ := push_field (.slice (some ⟨g, 0, none⟩) (n + 1) cap) hA HG.out hhb hne hcs
  have hv := HV.out
  have hgn : ∀ g', vs.ownBlock = some g' → g' < w.heap.size := HL.out
  have hgb : g ≠ hb := by
    rcases HT.out with h | h
    · exact HR.out g h
    · omega
  have h := HH.out
  refine h.addScope (nb := w.heap.size) k1 ?_ ?_ (Nat.le_refl _) k7 ?_ k2 k3 ?_ ?_ k8 k9 k10
  · rw [k6 w.heap.size (by simp; omega) (by omega) (fun e => by have := hgn _ e.symm; omega)]
    exact heap_alloc2_old w _ _
  · have hsb := HS.out
    rw [← HN.out] at hsb
    rw [← HN.out, ← hsb]
    exact ownsRow_block HW.out fun g' hg' => k5 g' (by simp only [Value.ownBlock, Option.some.injEq] at hg'; omega)
  · intro b hb1 hb2 hb3
    rw [← hv] at hb3
    exact k4 b hb1 hb2 hb3
  · intro g' hg'
    simp only [Value.ownBlock, Option.some.injEq] at hg'
    subst hg'
    rw [← hv]
    rcases HT.out with h | h
    · exact .inl h
    · exact .inr (by omega)
  · simp only [Value.ownBlock, ne_eq, Option.some.injEq]
    rcases HT.out with h | h
    · have := hgn g h; omega
    · omega
end
end Go.Proofs.YtgoaljfhciimhaaDoor
