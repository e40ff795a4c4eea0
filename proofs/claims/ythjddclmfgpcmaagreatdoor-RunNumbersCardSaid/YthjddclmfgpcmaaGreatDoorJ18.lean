/- The document's parser: what else its tokens are. -/
import Derived.Test.YthjddclmfgpcmaaGreatDoorJ17
namespace Go.Proofs.YthjddclmfgpcmaaGreatDoor
open Go Go.RowKit
set_option maxRecDepth 100000
set_option linter.unusedVariables false

theorem quotedF_few (text : ByteArray) : ∀ (f i : Nat) (acc : List UInt8), (quotedF text f i acc).2.1 = 0 → (quotedF text f i acc).1.length ≤ 500 := by
 intro f
 induction f with
 | zero => intro i acc h; simp [quotedF] at h
 | succ f ih =>
   intro i acc h
   unfold quotedF at h ⊢
   by_cases c1 : text.size ≤ i ∨ byteAt text i = 10
   ·rw [if_pos c1] at h; simp at h
   rw [if_neg c1] at h ⊢
   by_cases c2 : byteAt text i = 39
   ·rw [if_pos c2] at h ⊢
    by_cases c3 : 500 < acc.length
    ·rw [if_pos c3] at h; simp at h
    ·rw [if_neg c3]; simp only; omega
   rw [if_neg c2] at h ⊢
   by_cases c4 : byteAt text i = 92
   ·rw [if_pos c4] at h ⊢
    by_cases c5 : i + 1 < text.size
    ·rw [if_pos c5] at h ⊢
     cases he : escOf (byteAt text (i + 1)) with
     | none => rw [he] at h; simp at h
     | some e => rw [he] at h; simp only at h ⊢; exact ih _ _ h
    ·rw [if_neg c5] at h; simp at h
   ·rw [if_neg c4] at h ⊢
    exact ih _ _ h
theorem extract_size_le (text : ByteArray) (a b : Nat) : (text.extract a b).size ≤ text.size := by
 rw [ByteArray.size_extract]; omega
theorem tokAt_sm {text : ByteArray} {j k : Nat} {t : Tok} (h : tokAt text j = .ok (t, k)) : t.text.size ≤ text.size + 500 := by
 have hx := extract_size_le text
 unfold tokAt at h
 simp only at h
 split at h
 ·split at h
  ·simp only [Except.ok.injEq, Prod.mk.injEq] at h
   obtain ⟨rfl, _⟩ := h
   have := hx j (spanEnd wordB text (text.size - j) j); simp only; omega
  ·split at h
   ·cases h
   ·simp only [Except.ok.injEq, Prod.mk.injEq] at h
    obtain ⟨rfl, _⟩ := h
    have := hx j (spanEnd wordB text (text.size - j) j); simp only; omega
 ·split at h
  ·split at h
   ·cases h
   ·split at h
    ·cases h
    ·simp only [Except.ok.injEq, Prod.mk.injEq] at h
     obtain ⟨rfl, _⟩ := h
     exact Nat.zero_le _
  ·split at h
   ·split at h
    ·cases h
    ·split at h
     ·cases h
     ·rename_i _ h2
      simp only [Except.ok.injEq, Prod.mk.injEq] at h
      obtain ⟨rfl, _⟩ := h
      have h3 := quotedF_few text (text.size + 1 - (j + 1)) (j + 1) [] (by simpa [quotedAt] using h2)
      have h4 : (⟨(quotedAt text (j + 1)).1.toArray⟩ : ByteArray).size = (quotedAt text (j + 1)).1.length := by
       show (quotedAt text (j + 1)).1.toArray.size = _
       simp
      simp only
      rw [h4]
      have h5 : (quotedAt text (j + 1)).1.length ≤ 500 := h3
      omega
   ·split at h
    ·cases h
    ·simp only [Except.ok.injEq, Prod.mk.injEq] at h
     obtain ⟨rfl, _⟩ := h
     have := hx j (j + signs3 text j); simp only; omega
theorem tokAt_pm {text : ByteArray} {j k : Nat} {t : Tok} (hj : j < text.size) (h : tokAt text j = .ok (t, k)) : t.kind = 5 → t.text ≠ ⟨#[43, 45]⟩ := by
 intro hk he
 obtain ⟨_, _, h5⟩ := tokAt_kind h
 obtain ⟨ht, hl⟩ := h5 hk
 have hle : (text.extract j (j + signs3 text j)).size ≤ signs3 text j := by rw [ByteArray.size_extract]; omega
 have hsz : t.text.size = 2 := by rw [he]; rfl
 have h2 : 2 ≤ signs3 text j := by rw [← ht] at hle; omega
 have hp : byteAt t.text 0 = byteAt text j := by
  rw [ht]
  by_cases hk : j + signs3 text j ≤ text.size
  ·rw [byteAt_extract text (by omega) hk]; rfl
  ·have e : text.extract j (j + signs3 text j) = text.extract j text.size := by
    apply ByteArray.ext
    simp only [ByteArray.data_extract]
    apply Array.ext
    ·simp only [Array.size_extract]
     have : text.size = text.data.size := rfl
     omega
    ·intro i h1 h2; simp only [Array.getElem_extract]
   rw [e, byteAt_extract text (by omega) (Nat.le_refl _)]; rfl
 have h43 : byteAt text j = 43 := by rw [← hp, he]; decide
 have h1 : signs3 text j = 1 := by
  unfold signs3
  rw [if_neg (by rw [h43]; intro h; exact absurd h.1 (by decide)), if_neg (by rw [h43]; intro h; exact absurd h.1 (by decide)), if_neg (by rw [h43]; intro h; exact absurd h.1 (by decide))]
 omega
theorem stand_more {text : ByteArray} : ∀ (r : List Tok) (i : Nat), i ≤ text.size → Stand text i r → (∀ t ∈ r, t.kind = 5 → t.text ≠ ⟨#[43, 45]⟩) ∧ ∀ t ∈ r, t.text.size ≤ text.size + 500 := by
 intro r
 induction r with
 | nil => intro i _ h; exact h.elim
 | cons t r ih =>
   intro i hi h
   cases r with
   | nil =>
     obtain ⟨h1, h2⟩ := h
     refine ⟨fun x hx => ?_, fun x hx => ?_⟩
     ·simp only [List.mem_singleton] at hx
      subst hx
      rw [h2]
      exact fun h => by simp at h
     ·simp only [List.mem_singleton] at hx
      subst hx
      rw [h2]
      exact Nat.zero_le _
   | cons u r =>
     obtain ⟨k, h1, h2, h3⟩ := h
     obtain ⟨c1, c2, _⟩ := tokAt_cut text h1 h2
     obtain ⟨h7, h8⟩ := ih k c2 h3
     refine ⟨fun x hx => ?_, fun x hx => ?_⟩
     ·rcases List.mem_cons.1 hx with rfl | hx
      ·exact tokAt_pm h1 h2
      ·exact h7 x hx
     ·rcases List.mem_cons.1 hx with rfl | hx
      ·exact tokAt_sm h2
      ·exact h8 x hx
end Go.Proofs.YthjddclmfgpcmaaGreatDoor
