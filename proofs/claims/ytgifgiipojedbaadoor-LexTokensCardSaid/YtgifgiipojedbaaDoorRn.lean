/- The reference's letters, digits and words. -/
import Derived.Test.YtgifgiipojedbaaDoorLexW
import Derived.Test.YtgifgiipojedbaaDoorLexC
import Derived.Test.YtgifgiipojedbaaDoorLexR
import Derived.WalkSpells
import Derived.WalkLawsBesides
namespace Go.Proofs.YtgifgiipojedbaaDoor
open Go Go.RowKit
set_option maxRecDepth 100000
set_option linter.unusedVariables false

theorem rletter_any (w : World) (c : Int) : Calls Tryd.prog 68 #[.int .u8 c] w fun e w' => e = .returned (.bool (letterB c)) ∧ w = w' := by
  by_cases h1 : 97 ≤ c
  · by_cases h2 : c ≤ 122
    · have e : letterB c = true := by simp [letterB, h1, h2]
      rw [e]
      go_enter Tryd.func68, Tryd.ntmps68
      go_wp2
      go_ret
      exact ⟨rfl, rfl⟩
    · have e : letterB c = false := by simp [letterB, h1, h2]; omega
      have h3 : (c == 95) = false := by simp; omega
      rw [e]
      go_enter Tryd.func68, Tryd.ntmps68
      go_wp2
      go_ret
      exact ⟨rfl, rfl⟩
  · by_cases h3 : c = 95
    · subst h3
      go_enter Tryd.func68, Tryd.ntmps68
      go_wp2
      go_ret
      exact ⟨rfl, rfl⟩
    · have e : letterB c = false := by simp [letterB, h1, h3]
      have h3' : (c == 95) = false := by simp [h3]
      rw [e]
      go_enter Tryd.func68, Tryd.ntmps68
      go_wp2
      go_ret
      exact ⟨rfl, rfl⟩
theorem rdigit_any (w : World) (c : Int) : Calls Tryd.prog 69 #[.int .u8 c] w fun e w' => e = .returned (.bool (digitB c)) ∧ w = w' := by
  by_cases h1 : 48 ≤ c
  · by_cases h2 : c ≤ 57
    · have e : digitB c = true := by simp [digitB, h1, h2]
      rw [e]
      go_enter Tryd.func69, Tryd.ntmps69
      go_wp2
      go_ret
      exact ⟨rfl, rfl⟩
    · have e : digitB c = false := by simp [digitB, h2]
      rw [e]
      go_enter Tryd.func69, Tryd.ntmps69
      go_wp2
      go_ret
      exact ⟨rfl, rfl⟩
  · have e : digitB c = false := by simp [digitB, h1]
    rw [e]
    go_enter Tryd.func69, Tryd.ntmps69
    go_wp2
    go_ret
    exact ⟨rfl, rfl⟩

/-- is a text in a row -/
theorem containsS_at {zs : List ByteArray} {x : ByteArray} {i : Nat} (h : zs[i]? = some x) : Lib.containsS zs x = true := (Lib.containsS_iff _ _).2 (List.mem_of_getElem? h)
theorem containsS_none {zs : List ByteArray} {x : ByteArray} (h : ∀ i, i < zs.length → ¬ zs[i]? = some x) : Lib.containsS zs x = false := by
  rw [← Bool.not_eq_true, Lib.containsS_iff]
  intro hm
  obtain ⟨i, hi, e⟩ := List.mem_iff_getElem.1 hm
  exact h i hi (by rw [List.getElem?_eq_getElem hi, e])

set_option maxHeartbeats 2000000 in
theorem rhas_any (w : World) (zs : List ByteArray) (s : ByteArray) (b off cap : Nat) (hz : zs.length ≤ 1000000) (hc : ∀ i x, zs[i]? = some x → w.cell? ⟨b, off + i, none⟩ = some (.string x)) :
    Calls Tryd.prog 94 #[.slice (some ⟨b, off, none⟩) zs.length cap, .string s] w fun e w' => e = .returned (.bool (Lib.containsS zs s)) ∧ w = w' := by
  obtain ⟨n, hn⟩ : ∃ n, n = zs.length := ⟨_, rfl⟩
  rw [← hn] at hz ⊢
  have HN := Lib.hid hn
  have HC := Lib.hid hc
  clear hn hc
  go_enter Tryd.func94, Tryd.ntmps94
  go_wp2
  go_loop [9] (fun x => ∃ i : Nat, x = .int .i64 i ∧ i ≤ n ∧ ∀ j, j < i → ¬ zs[j]? = some s) (fun x => n - (intOf x).toNat)
  case atStart => exact ⟨0, rfl, by omega, fun j hj => by omega⟩
  case round =>
    obtain ⟨i, rfl, hi, hno⟩ := hrel
    have HNo := Lib.hid hno
    clear hno
    by_cases hin : i < n
    · obtain ⟨x, hx⟩ : ∃ x, zs[i]? = some x := ⟨_, List.getElem?_eq_getElem (by have := HN.out; omega)⟩
      have hcx := HC.out i x hx
      have HX := Lib.hid hx
      clear hx
      by_cases hxs : x = s
      · subst hxs
        go_wp2
        go_ret
        rw [containsS_at HX.out]
        exact ⟨rfl, rfl⟩
      · have hxl : ¬ x.toList = s.toList := fun h => hxs (by
          obtain ⟨⟨a⟩⟩ := x; obtain ⟨⟨b⟩⟩ := s
          simpa [ByteArray.toList_eq] using h)
        have hxl' : (x.toList == s.toList) = false := by simpa using hxl
        have HXS := Lib.hid hxs
        clear hxs
        go_wp2
        go_round
        case rel => exact ⟨i + 1, by go_num, by omega, fun j hj => by
          by_cases e : j = i
          · subst e; rw [HX.out]; intro h; exact HXS.out (Option.some.inj h)
          · exact HNo.out j (by omega)⟩
        case measure => simp [intOf]; omega
    · go_wp2
      go_ret
      rw [containsS_none (fun j hj => HNo.out j (by have := HN.out; omega))]
      exact ⟨rfl, rfl⟩

/-- the reference's list of words lies as it is laid -/
def RWords (w : World) : Prop := ∃ b off cap, w.cell? ⟨1, 0, none⟩ = some (.slice (some ⟨b, off, none⟩) wordsL.length cap) ∧ ∀ i x, wordsL[i]? = some x → w.cell? ⟨b, off + i, none⟩ = some (.string x)
theorem RWords.below {w w' : World} (h : RWords w) (hB : Below w.heap.size w w') : RWords w' := by
  obtain ⟨b, off, cap, h1, h2⟩ := h
  have lt : ∀ {p : Addr} {x : Value}, p.spot = none → w.cell? p = some x → p.block < w.heap.size := by
    intro p x _ hc
    rcases Nat.lt_or_ge p.block w.heap.size with h' | h'
    · exact h'
    · simp [World.cell?, Array.getElem?_eq_none h'] at hc
  exact ⟨b, off, cap, (hB.cell (lt rfl h1)).trans h1, fun i x hx => (hB.cell (lt rfl (h2 i x hx))).trans (h2 i x hx)⟩
theorem rIsWord_any (w : World) (s : ByteArray) (hW : RWords w) :
    Calls Tryd.prog 70 #[.string s] w fun e w' => e = .returned (.bool (isWordB s)) ∧ w = w' := by
  obtain ⟨b, off, cap, h1, h2⟩ := hW
  have HC := Lib.hid (rhas_any w wordsL s b off cap (by rw [wordsL_len]; omega) h2)
  unfold isWordB
  clear h2
  generalize Lib.containsS wordsL s = B at HC ⊢
  go_enter Tryd.func70, Tryd.ntmps70
  go_wp2_with fail
  refine HC.out.mono ?_
  rintro e w1 ⟨rfl, rfl⟩
  go_wp2
  go_ret
  exact ⟨rfl, rfl⟩

end Go.Proofs.YtgifgiipojedbaaDoor
