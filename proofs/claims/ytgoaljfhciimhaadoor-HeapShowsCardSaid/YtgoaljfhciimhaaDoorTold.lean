/- sloppyref.Told at one number; heap.Is. -/
import Derived.Test.YtgoaljfhciimhaaDoorShow
import Derived.Deep.AppendLies
namespace Go.Proofs.YtgoaljfhciimhaaDoor
open Go Go.RowKit
set_option maxRecDepth 100000

theorem Tryd.infoStr : (Tryd.prog.info? 9).map (fun i => (i.zero, i.size, i.bytes)) = some (some (.string ⟨#[]⟩), 1, 16) := by kernel_rfl

set_option maxHeartbeats 1600000 in
theorem told_one (w : World) (n : Int) (g c : Nat) (h0 : -9223372036854775808 ≤ n) (h1 : n ≤ 9223372036854775807) (ht : Pow w) (hc : w.cell? ⟨g, 0, none⟩ = some (.int .i64 n)) (hg : g < w.heap.size) :
    Calls Tryd.prog 27 #[.slice (some ⟨g, 0, none⟩) 1 c] w fun e w' => e = .returned (.string ⟨(Lib.itoa n).toArray⟩) ∧ Below w.heap.size w w' := by
  obtain ⟨i0, hi, hz0, hz1, hz2⟩ := info_parts Tryd.infoStr
  have HI := Lib.hid (fun w' (hB : Below w.heap.size w w') => itoa_any w' n h0 h1 (ht.below hB))
  obtain ⟨T, hT⟩ : ∃ T : ByteArray, T = ⟨(Lib.itoa n).toArray⟩ := ⟨_, rfl⟩
  rw [← hT] at HI ⊢
  clear ht h0 h1 hT
  go_enter Tryd.func27, Tryd.ntmps27
  go_wp2
  go_loopw [3, 8] (fun out i wr => ∃ k : Nat, i = .int .i64 k ∧ k ≤ 1 ∧ Below w.heap.size w wr ∧ ((k = 0 ∧ out = .slice none 0 0) ∨ (k = 1 ∧ ∃ g' c', out = .slice (some ⟨g', 0, none⟩) 1 c' ∧ wr.cell? ⟨g', 0, none⟩ = some (.string T)))) (fun _ i _ => 1 - (intOf i).toNat)
  case atStart => exact ⟨0, rfl, by omega, Below.refl _ _, .inl ⟨rfl, rfl⟩⟩
  case round =>
    obtain ⟨k, rfl, hk, hB, ⟨rfl, rfl⟩ | ⟨rfl, g', c', rfl, hcell⟩⟩ := hrel
    · have hcr := (hB.cell (p := ⟨g, 0, none⟩) hg).trans hc
      have HB := Lib.hid hB
      clear hB
      go_wp2_with fail
      refine (HI.out wr HB.out).mono ?_
      rintro e w1 ⟨rfl, hB1⟩
      have HB1 := Lib.hid (HB.out.trans (hB1.mono HB.out.size))
      clear hB1 hcr
      go_wp2_with (at_builtin; go_must (refine wpList_append_lies _ rfl (.tmp 12) (.tmp 15) 79 rfl 0 9 i0 (.string ⟨#[]⟩) 1 16 Tryd.underlying79 hi hz0 hz1 hz2 rfl (by decide) (.slice none 0 0) 0 [] rfl (World.ownsRow_nil _ _ _ _) ⟨w1.heap.size, 0, none⟩ 1 1 [.string T] rfl rfl (fun j u hu => cell_one_new w1 _ _ j u hu) (by intro u hu; simp at hu; subst hu; rfl) (by omega) (by unfold maxLen; omega) (by omega) (by omega) (w1.heap.size + 1) (by simp) ?_); intro g2 cap w2 hown2 hgrow2 hat2 hgl2; have HG := Lib.hid hgrow2; have HW := Lib.hid hown2; clear hgrow2 hown2 hat2 hgl2)
      go_roundw
      case rel =>
        have hgr := HG.out
        have hcell := ownsRow_cell1 HW.out (g := g2) rfl (i := 0) (x := .string T) rfl
        exact ⟨1, by go_num, by omega, (HB1.out.alloc HB1.out.size _).grown hgr (by have := HB1.out.size; simp; omega) (fun k hk => by cases hk), .inr ⟨rfl, g2, cap, rfl, hcell⟩⟩
      case measure => simp [intOf]
    · have HB := Lib.hid hB
      clear hB
      go_wp2
      go_ret
      exact ⟨rfl, HB.out⟩
theorem is_any (w : World) (b : Bool) :
    Calls Tryd.prog 29 #[.bool b] w fun e w' => e = .returned (LVal.agg ⟨2, if b then 1 else 0, ⟨#[]⟩⟩) ∧ Below w.heap.size w w' := by
  cases b
  · go_enter Tryd.func29, Tryd.ntmps29
    go_wp2
    exact bodyPost_ret (v := LVal.agg ⟨2, 0, ⟨#[]⟩⟩) (by simp [results, Tryd.results29, go_sem, LVal.agg]) rfl ⟨rfl, (Below.refl _ _).alloc (Nat.le_refl _) _⟩
  · go_enter Tryd.func29, Tryd.ntmps29
    go_wp2
    exact bodyPost_ret (v := LVal.agg ⟨2, 1, ⟨#[]⟩⟩) (by simp [results, Tryd.results29, go_sem, LVal.agg]) rfl ⟨rfl, (Below.refl _ _).alloc (Nat.le_refl _) _⟩
end Go.Proofs.YtgoaljfhciimhaaDoor
