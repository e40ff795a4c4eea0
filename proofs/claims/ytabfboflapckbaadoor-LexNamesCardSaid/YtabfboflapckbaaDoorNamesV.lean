/- The law LexNames, walked. -/
import Derived.Test.YtabfboflapckbaaDoorNameR
namespace Go.Proofs.YtabfboflapckbaaDoor
open Go Go.RowKit
set_option maxRecDepth 100000

theorem words_keep {w w' : World} (h : Words w) (hB : Below w.heap.size w w') : Words w' := by
  intro j hj
  have hc := h j hj
  have hlt : 0 < w.heap.size := by
    rcases Nat.lt_or_ge 0 w.heap.size with h' | h'
    · exact h'
    · simp [World.cell?, Array.getElem?_eq_none h'] at hc
  exact (hB.cell (p := ⟨0, j, none⟩) hlt).trans hc

set_option maxHeartbeats 2000000 in
theorem names_walk (w : World) (s : ByteArray) (hW : Words w) (hR : RWords w) :
    Calls Tryd.prog 4 #[.string s] w fun e w' => e = .returned (.bool true) ∧ Below w.heap.size w w' := by
  by_cases hl : 60 < s.size
  · have hl' : (60 : Int) < s.size := by omega
    clear hW hR
    go_enter Tryd.func4, Tryd.ntmps4
    go_wp2
    go_ret
    exact ⟨rfl, Below.refl _ _⟩
  · have H1 := isName_any s w (by omega) hW
    obtain ⟨Nb, hNb⟩ : ∃ B, B = nameB s := ⟨_, rfl⟩
    obtain ⟨Bw, hBw⟩ : ∃ B, B = isWordB s := ⟨_, rfl⟩
    rw [← hNb] at H1
    have H1 := Lib.hid H1
    have HN := Lib.hid hNb
    have HB := Lib.hid hBw
    have HW := Lib.hid hW
    have HR := Lib.hid hR
    clear hNb hBw hW hR
    go_enter Tryd.func4, Tryd.ntmps4
    go_wp2_with fail
    refine H1.out.mono ?_
    rintro e w1 ⟨rfl, hB⟩
    have H2 := rIsName_any s w1 (by omega) (HR.out.below hB)
    rw [← HN.out] at H2
    have H3 := isWord_any w1 s (words_keep HW.out hB)
    rw [← HB.out] at H3
    have H4 := rIsWord_any w1 s (HR.out.below hB)
    rw [← HB.out] at H4
    have H3 := Lib.hid (H3.mono (R' := fun e w' => e = .returned (.bool Bw) ∧ w1 = w') fun e w' h => ⟨h.1, h.2.symm⟩)
    have H2 := Lib.hid H2
    have H4 := Lib.hid H4
    have BB := Lib.hid hB
    clear hB H1
    cases Nb <;> cases Bw
    all_goals
      go_wp2_with fail
      refine H2.out.mono ?_
      rintro e w2 ⟨rfl, rfl⟩
      go_wp2_with fail
      refine H3.out.mono ?_
      rintro e w2 ⟨rfl, rfl⟩
      go_wp2_with fail
      refine H4.out.mono ?_
      rintro e w2 ⟨rfl, rfl⟩
      go_wp2
      go_ret
      exact ⟨rfl, BB.out⟩
end Go.Proofs.YtabfboflapckbaaDoor
