/- The law LexTokens, whole. -/
import Derived.Test.YtgifgiipojedbaaDoorRtvf
import Derived.Test.YtgifgiipojedbaaDoorLl
namespace Go.Proofs.YtgifgiipojedbaaDoor
open Go Go.RowKit
set_option maxRecDepth 100000
set_option linter.unusedVariables false

set_option maxHeartbeats 2000000 in
theorem ltokens_big (w : World) (text : ByteArray) (hm : 3000 < text.size) :
    Calls Tryd.prog 46 #[.string text] w fun e w' => e = .returned (.tuple #[.slice none 0 0, .iface 47 (.int .i64 4)]) ∧ w = w' := by
  have hm' : (3000 : Int) < text.size := by omega
  go_enter Tryd.func46, Tryd.ntmps46
  go_wp2
  go_ret2
  exact ⟨rfl, rfl⟩
set_option maxHeartbeats 4000000 in
theorem ll_long (w : World) (text : ByteArray) (hm : 4000 < text.size) :
    Calls Tryd.prog 5 #[.string text] w fun e w' => e = .returned (.bool true) ∧ Below w.heap.size w w' := by
  have hmI : (4000 : Int) < (text.size : Int) := by omega
  clear hm
  go_enter Tryd.func5, Tryd.ntmps5
  go_wp2
  go_ret
  exact ⟨rfl, Below.refl _ _⟩
theorem lextokens_any (w : World) (text : ByteArray) (hR : RWords w) (hF : FineAt w) (hW : Words w) (hE : ErrType w) :
    Calls Tryd.prog 5 #[.string text] w fun e w' => e = .returned (.bool true) ∧ Below w.heap.size w w' := by
  by_cases h4 : 4000 < text.size
  · exact ll_long w text h4
  by_cases h3 : 3000 < text.size
  · refine ll_err w text 4 (-1) (by omega) (by decide) (Lib.hid (rtokens_big w text h3)) (Lib.hid fun W hB => ?_)
    refine (ltokens_big W text h3).mono ?_
    rintro e w' ⟨rfl, rfl⟩
    exact ⟨_, rfl, Below.refl _ _, fun W2 hb2 => at_any W2 _ 4 (-1) (Lib.hid fun W3 hb3 => place_errno W3 4 (by decide) (((hE.below hB).below hb2).below hb3))⟩
  have hT := fun W (hB : Below w.heap.size w W) => tokens_any W text (by omega) (hW.below hB)
  have hRT := rtokens_any w text (by omega) hR hF
  cases hr : lexAll text with
  | error x =>
    obtain ⟨c, p⟩ := x
    rw [hr] at hRT
    simp only [hr] at hT
    have hc : c ≠ 0 := lexF_codes text _ _ _ (c, p) hr
    refine ll_err w text c p (by omega) hc (Lib.hid hRT) (Lib.hid fun W hB => ?_)
    refine (hT W hB).mono ?_
    rintro e w' ⟨⟨x, rfl, b, rfl, hle, hb⟩, hB2⟩
    refine ⟨_, rfl, hB2, fun W2 hb2 => at_any W2 _ c p (Lib.hid fun W3 hb3 => ?_)⟩
    have hbl := (Array.getElem?_eq_some_iff.1 hb).1
    exact place_at W3 c p b ((((hE.below hB).below hB2).below hb2).below hb3) ((hb3.block b (Nat.lt_of_lt_of_le hbl hb2.size)).trans ((hb2.block b hbl).trans hb))
  | ok l =>
    rw [hr] at hRT
    simp only [hr] at hT
    exact ll_ok w text l (by omega) (Lib.hid hRT) (Lib.hid fun W hB => (hT W hB))
end Go.Proofs.YtgifgiipojedbaaDoor
