/- Package lex: the tokens' shape. The document's parser: what else its tokens are. -/
import Derived.Test.YtfappndicnneoaaGreatDoorJ01
import Derived.Test.YtfappndicnneoaaGreatDoorJ03
import Derived.Test.YtfappndicnneoaaGreatDoorJ13
namespace Go.Proofs.YtfappndicnneoaaGreatDoor
open Go Go.RowKit
set_option maxRecDepth 100000
set_option linter.unusedVariables false
theorem tokAt_kind {text : ByteArray} {j k : Nat} {t : Tok} (h : tokAt text j = .ok (t, k)) : t.kind ≠ 6 ∧ (t.kind = 2 → isWordB t.text = true) ∧ (t.kind = 5 → t.text = text.extract j (j + signs3 text j) ∧ letterB (byteAt text j) = false) := by
 unfold tokAt at h
 simp only at h
 split at h
 ·rename_i hl
  split at h
  ·rename_i hw
   simp only [Except.ok.injEq, Prod.mk.injEq] at h
   obtain ⟨rfl, _⟩ := h
   exact ⟨by simp, fun _ => hw, (fun h => by simp at h)⟩
  ·split at h
   ·cases h
   ·simp only [Except.ok.injEq, Prod.mk.injEq] at h
    obtain ⟨rfl, _⟩ := h
    exact ⟨by simp, (fun h => by simp at h), (fun h => by simp at h)⟩
 ·rename_i hl
  split at h
  ·split at h
   ·cases h
   ·split at h
    ·cases h
    ·simp only [Except.ok.injEq, Prod.mk.injEq] at h
     obtain ⟨rfl, _⟩ := h
     exact ⟨by simp, (fun h => by simp at h), (fun h => by simp at h)⟩
  ·split at h
   ·split at h
    ·cases h
    ·split at h
     ·cases h
     ·simp only [Except.ok.injEq, Prod.mk.injEq] at h
      obtain ⟨rfl, _⟩ := h
      exact ⟨by simp, (fun h => by simp at h), (fun h => by simp at h)⟩
   ·split at h
    ·cases h
    ·simp only [Except.ok.injEq, Prod.mk.injEq] at h
     obtain ⟨rfl, _⟩ := h
     exact ⟨by simp, (fun h => by simp at h), fun _ => ⟨rfl, by simpa using hl⟩⟩
theorem word_sign {s : ByteArray} (h : isWordB s = true) : signK s = 0 := by
 refine Decidable.byContradiction fun hs => ?_
 have key : s = s_or ∨ s = s_and ∨ s = s_same ∨ s = s_less ∨ s = s_add ∨ s = s_sub ∨ s = s_mul := by
  unfold signK sameS at hs
  simp only [decide_eq_true_eq] at hs
  by_cases h1 : s = s_or
  ·exact .inl h1
  by_cases h2 : s = s_and
  ·exact .inr (.inl h2)
  by_cases h3 : s = s_same
  ·exact .inr (.inr (.inl h3))
  by_cases h4 : s = s_less
  ·exact .inr (.inr (.inr (.inl h4)))
  by_cases h5 : s = s_add
  ·exact .inr (.inr (.inr (.inr (.inl h5))))
  by_cases h6 : s = s_sub
  ·exact .inr (.inr (.inr (.inr (.inr (.inl h6)))))
  by_cases h7 : s = s_mul
  ·exact .inr (.inr (.inr (.inr (.inr (.inr h7)))))
  simp [h1, h2, h3, h4, h5, h6, h7] at hs
 have no : ∀ x, isWordB x = false → s = x → False := fun x h1 h2 => by rw [h2, h1] at h; cases h
 rcases key with e | e | e | e | e | e | e
 all_goals exact no _ (by kernel_rfl) e
theorem const_letter {s : ByteArray} (h : constK s ≠ 0) : letterB (byteAt s 0) = true ∧ 0 < s.size := by
 unfold constK at h
 by_cases h1 : sameS s s_true = true
 ·have : s = s_true := by simpa [sameS] using h1
  subst this; exact ⟨by kernel_rfl, by decide⟩
 by_cases h2 : sameS s s_false = true
 ·have : s = s_false := by simpa [sameS] using h2
  subst this; exact ⟨by kernel_rfl, by decide⟩
 by_cases h3 : sameS s s_null = true
 ·have : s = s_null := by simpa [sameS] using h3
  subst this; exact ⟨by kernel_rfl, by decide⟩
 by_cases h4 : sameS s s_undefined = true
 ·have : s = s_undefined := by simpa [sameS] using h4
  subst this; exact ⟨by kernel_rfl, by decide⟩
 simp [h1, h2, h3, h4] at h
theorem tokAt_good {text : ByteArray} {j k : Nat} {t : Tok} (hj : j < text.size) (h : tokAt text j = .ok (t, k)) : GoodT t := by
 obtain ⟨_, h2, h5⟩ := tokAt_kind h
 refine ⟨fun hk => word_sign (h2 hk), fun hk => ?_⟩
 obtain ⟨ht, hl⟩ := h5 hk
 refine Decidable.byContradiction fun hc => ?_
 obtain ⟨hb, hs⟩ := const_letter hc
 have hsz : 0 < signs3 text j := by
  unfold signs3
  split
  ·omega
  ·split
   ·omega
   ·split <;> omega
 have hp : byteAt t.text 0 = byteAt text j := by
  rw [ht]
  have hle : (text.extract j (j + signs3 text j)).size ≤ signs3 text j := by rw [ByteArray.size_extract]; omega
  by_cases hk : j + signs3 text j ≤ text.size
  ·rw [byteAt_extract text (by omega) hk]; rfl
  ·have e : text.extract j (j + signs3 text j) = text.extract j text.size := by
    apply ByteArray.ext
    simp only [ByteArray.data_extract]
    apply Array.ext
    ·simp only [Array.size_extract]
     have : text.size = text.data.size := rfl
     omega
    ·intro i h1 h2; simp only [Array.getElem_extract]
   rw [e, byteAt_extract text (by omega) (Nat.le_refl _)]; rfl
 rw [hp, hl] at hb
 cases hb
theorem stand_shape {text : ByteArray} : ∀ (r : List Tok) (i : Nat), i ≤ text.size → Stand text i r → (∃ l e, r = l ++ [e] ∧ e.kind = 6 ∧ ∀ t ∈ l, t.kind ≠ 6) ∧ r.length + i ≤ text.size + 1 ∧ Goods r := by
 intro r
 induction r with
 | nil => intro i _ h; exact h.elim
 | cons t r ih =>
   intro i hi h
   cases r with
   | nil =>
     obtain ⟨h1, h2⟩ := h
     refine ⟨⟨[], t, rfl, by rw [h2], fun t ht => by cases ht⟩, by simp; omega, fun x hx => ?_⟩
     simp only [List.mem_singleton] at hx
     subst hx
     rw [h2]
     exact ⟨fun h => by simp at h, fun h => by simp at h⟩
   | cons u r =>
     obtain ⟨k, h1, h2, h3⟩ := h
     obtain ⟨c1, c2, _⟩ := tokAt_cut text h1 h2
     obtain ⟨s1, _, _, _⟩ := spanEnd_spec blankB text (text.size - i) i (Nat.le_refl _) hi
     obtain ⟨⟨l, e, h4, h5, h6⟩, h7, h8⟩ := ih k c2 h3
     refine ⟨⟨t :: l, e, by rw [h4]; rfl, h5, fun x hx => ?_⟩, ?_, fun x hx => ?_⟩
     ·rcases List.mem_cons.1 hx with rfl | hx
      ·exact (tokAt_kind h2).1
      ·exact h6 x hx
     ·simp only [List.length_cons] at h7 ⊢; omega
     ·rcases List.mem_cons.1 hx with rfl | hx
      ·exact tokAt_good h1 h2
      ·exact h8 x hx
theorem quotedF_few (text : ByteArray) : ∀ (f i : Nat) (acc : List UInt8), (quotedF text f i acc).2.1 = 0 → (quotedF text f i acc).1.length ≤ 500 := by
 intro f
 induction f with
 | zero => intro i acc h; simp [quotedF] at h
 | succ f ih =>
   intro i acc h
   unfold quotedF at h ⊢
   by_cases c1 : text.size ≤ i ∨ byteAt text i = 10
   ·rw [if_pos c1] at h; simp at h
   rw [if_neg c1] at h ⊢
   by_cases c2 : byteAt text i = 39
   ·rw [if_pos c2] at h ⊢
    by_cases c3 : 500 < acc.length
    ·rw [if_pos c3] at h; simp at h
    ·rw [if_neg c3]; simp only; omega
   rw [if_neg c2] at h ⊢
   by_cases c4 : byteAt text i = 92
   ·rw [if_pos c4] at h ⊢
    by_cases c5 : i + 1 < text.size
    ·rw [if_pos c5] at h ⊢
     cases he : escOf (byteAt text (i + 1)) with
     | none => rw [he] at h; simp at h
     | some e => rw [he] at h; simp only at h ⊢; exact ih _ _ h
    ·rw [if_neg c5] at h; simp at h
   ·rw [if_neg c4] at h ⊢
    exact ih _ _ h
theorem extract_size_le (text : ByteArray) (a b : Nat) : (text.extract a b).size ≤ text.size := by
 rw [ByteArray.size_extract]; omega
theorem tokAt_sm {text : ByteArray} {j k : Nat} {t : Tok} (h : tokAt text j = .ok (t, k)) : t.text.size ≤ text.size + 500 := by
 have hx := extract_size_le text
 unfold tokAt at h
 simp only at h
 split at h
 ·split at h
  ·simp only [Except.ok.injEq, Prod.mk.injEq] at h
   obtain ⟨rfl, _⟩ := h
   have := hx j (spanEnd wordB text (text.size - j) j); simp only; omega
  ·split at h
   ·cases h
   ·simp only [Except.ok.injEq, Prod.mk.injEq] at h
    obtain ⟨rfl, _⟩ := h
    have := hx j (spanEnd wordB text (text.size - j) j); simp only; omega
 ·split at h
  ·split at h
   ·cases h
   ·split at h
    ·cases h
    ·simp only [Except.ok.injEq, Prod.mk.injEq] at h
     obtain ⟨rfl, _⟩ := h
     exact Nat.zero_le _
  ·split at h
   ·split at h
    ·cases h
    ·split at h
     ·cases h
     ·rename_i _ h2
      simp only [Except.ok.injEq, Prod.mk.injEq] at h
      obtain ⟨rfl, _⟩ := h
      have h3 := quotedF_few text (text.size + 1 - (j + 1)) (j + 1) [] (by simpa [quotedAt] using h2)
      have h4 : (⟨(quotedAt text (j + 1)).1.toArray⟩ : ByteArray).size = (quotedAt text (j + 1)).1.length := by
       show (quotedAt text (j + 1)).1.toArray.size = _
       simp
      simp only
      rw [h4]
      have h5 : (quotedAt text (j + 1)).1.length ≤ 500 := h3
      omega
   ·split at h
    ·cases h
    ·simp only [Except.ok.injEq, Prod.mk.injEq] at h
     obtain ⟨rfl, _⟩ := h
     have := hx j (j + signs3 text j); simp only; omega
theorem tokAt_pm {text : ByteArray} {j k : Nat} {t : Tok} (hj : j < text.size) (h : tokAt text j = .ok (t, k)) : t.kind = 5 → t.text ≠ ⟨#[43, 45]⟩ := by
 intro hk he
 obtain ⟨_, _, h5⟩ := tokAt_kind h
 obtain ⟨ht, hl⟩ := h5 hk
 have hle : (text.extract j (j + signs3 text j)).size ≤ signs3 text j := by rw [ByteArray.size_extract]; omega
 have hsz : t.text.size = 2 := by rw [he]; rfl
 have h2 : 2 ≤ signs3 text j := by rw [← ht] at hle; omega
 have hp : byteAt t.text 0 = byteAt text j := by
  rw [ht]
  by_cases hk : j + signs3 text j ≤ text.size
  ·rw [byteAt_extract text (by omega) hk]; rfl
  ·have e : text.extract j (j + signs3 text j) = text.extract j text.size := by
    apply ByteArray.ext
    simp only [ByteArray.data_extract]
    apply Array.ext
    ·simp only [Array.size_extract]
     have : text.size = text.data.size := rfl
     omega
    ·intro i h1 h2; simp only [Array.getElem_extract]
   rw [e, byteAt_extract text (by omega) (Nat.le_refl _)]; rfl
 have h43 : byteAt text j = 43 := by rw [← hp, he]; decide
 have h1 : signs3 text j = 1 := by
  unfold signs3
  rw [if_neg (by rw [h43]; intro h; exact absurd h.1 (by decide)), if_neg (by rw [h43]; intro h; exact absurd h.1 (by decide)), if_neg (by rw [h43]; intro h; exact absurd h.1 (by decide))]
 omega
theorem stand_more {text : ByteArray} : ∀ (r : List Tok) (i : Nat), i ≤ text.size → Stand text i r → (∀ t ∈ r, t.kind = 5 → t.text ≠ ⟨#[43, 45]⟩) ∧ ∀ t ∈ r, t.text.size ≤ text.size + 500 := by
 intro r
 induction r with
 | nil => intro i _ h; exact h.elim
 | cons t r ih =>
   intro i hi h
   cases r with
   | nil =>
     obtain ⟨h1, h2⟩ := h
     refine ⟨fun x hx => ?_, fun x hx => ?_⟩
     ·simp only [List.mem_singleton] at hx
      subst hx
      rw [h2]
      exact fun h => by simp at h
     ·simp only [List.mem_singleton] at hx
      subst hx
      rw [h2]
      exact Nat.zero_le _
   | cons u r =>
     obtain ⟨k, h1, h2, h3⟩ := h
     obtain ⟨c1, c2, _⟩ := tokAt_cut text h1 h2
     obtain ⟨h7, h8⟩ := ih k c2 h3
     refine ⟨fun x hx => ?_, fun x hx => ?_⟩
     ·rcases List.mem_cons.1 hx with rfl | hx
      ·exact tokAt_pm h1 h2
      ·exact h7 x hx
     ·rcases List.mem_cons.1 hx with rfl | hx
      ·exact tokAt_sm h2
      ·exact h8 x hx
end Go.Proofs.YtfappndicnneoaaGreatDoor
