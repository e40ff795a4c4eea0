/- Package lex: classes of bytes. -/
import Derived.Test.YtgifgiipojedbaaDoorProg
import Derived.WalkKit
import Derived.Lib.Hide
namespace Go.Proofs.YtgifgiipojedbaaDoor
open Go Go.RowKit
set_option maxRecDepth 100000

def letterB (c : Int) : Bool := (decide (97 ≤ c) && decide (c ≤ 122)) || decide (c = 95)
def digitB (c : Int) : Bool := decide (48 ≤ c) && decide (c ≤ 57)
def blankB (c : Int) : Bool := decide (c = 32) || decide (c = 10)
def wordB (c : Int) : Bool := letterB c || digitB c

theorem letter_any (w : World) (c : Int) : Calls Tryd.prog 75 #[.int .u8 c] w fun e w' => e = .returned (.bool (letterB c)) ∧ w' = w := by
  by_cases h1 : 97 ≤ c
  · by_cases h2 : c ≤ 122
    · have e : letterB c = true := by simp [letterB, h1, h2]
      rw [e]
      go_enter Tryd.func75, Tryd.ntmps75
      go_wp2
      go_ret
      exact ⟨rfl, rfl⟩
    · have e : letterB c = false := by simp [letterB, h1, h2]; omega
      have h3 : (c == 95) = false := by simp; omega
      rw [e]
      go_enter Tryd.func75, Tryd.ntmps75
      go_wp2
      go_ret
      exact ⟨rfl, rfl⟩
  · by_cases h3 : c = 95
    · subst h3
      go_enter Tryd.func75, Tryd.ntmps75
      go_wp2
      go_ret
      exact ⟨rfl, rfl⟩
    · have e : letterB c = false := by simp [letterB, h1, h3]
      have h3' : (c == 95) = false := by simp [h3]
      rw [e]
      go_enter Tryd.func75, Tryd.ntmps75
      go_wp2
      go_ret
      exact ⟨rfl, rfl⟩
theorem digit_any (w : World) (c : Int) : Calls Tryd.prog 77 #[.int .u8 c] w fun e w' => e = .returned (.bool (digitB c)) ∧ w' = w := by
  by_cases h1 : 48 ≤ c
  · by_cases h2 : c ≤ 57
    · have e : digitB c = true := by simp [digitB, h1, h2]
      rw [e]
      go_enter Tryd.func77, Tryd.ntmps77
      go_wp2
      go_ret
      exact ⟨rfl, rfl⟩
    · have e : digitB c = false := by simp [digitB, h2]
      rw [e]
      go_enter Tryd.func77, Tryd.ntmps77
      go_wp2
      go_ret
      exact ⟨rfl, rfl⟩
  · have e : digitB c = false := by simp [digitB, h1]
    rw [e]
    go_enter Tryd.func77, Tryd.ntmps77
    go_wp2
    go_ret
    exact ⟨rfl, rfl⟩
theorem blank_any (w : World) (c : Int) : Calls Tryd.prog 74 #[.int .u8 c] w fun e w' => e = .returned (.bool (blankB c)) ∧ w' = w := by
  by_cases h1 : c = 32
  · subst h1
    go_enter Tryd.func74, Tryd.ntmps74
    go_wp2
    go_ret
    exact ⟨rfl, rfl⟩
  · have q1 : (c == 32) = false := by simp [h1]
    have e : blankB c = (c == 10) := by simp [blankB, h1]; rfl
    rw [e]
    go_enter Tryd.func74, Tryd.ntmps74
    go_wp2
    go_ret
    exact ⟨rfl, rfl⟩
theorem word_any (w : World) (c : Int) : Calls Tryd.prog 76 #[.int .u8 c] w fun e w' => e = .returned (.bool (wordB c)) ∧ w' = w := by
  have HL := Lib.hid (letter_any w c)
  have HD := Lib.hid (digit_any w c)
  unfold wordB
  cases hl : letterB c
  · rw [hl] at HL
    go_enter Tryd.func76, Tryd.ntmps76
    go_wp2_with fail
    refine HL.out.mono ?_
    rintro e w1 ⟨rfl, rfl⟩
    go_wp2_with fail
    refine HD.out.mono ?_
    rintro e w1 ⟨rfl, rfl⟩
    go_wp2
    go_ret
    exact ⟨rfl, rfl⟩
  · rw [hl] at HL
    go_enter Tryd.func76, Tryd.ntmps76
    go_wp2_with fail
    refine HL.out.mono ?_
    rintro e w1 ⟨rfl, rfl⟩
    go_wp2
    go_ret
    exact ⟨rfl, rfl⟩
end Go.Proofs.YtgifgiipojedbaaDoor
