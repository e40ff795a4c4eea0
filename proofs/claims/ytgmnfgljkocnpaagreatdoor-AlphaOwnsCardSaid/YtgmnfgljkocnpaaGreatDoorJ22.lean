/- Package lex: the tokens' shape. The document's parser: what else its tokens are. -/
import Derived.Test.YtgmnfgljkocnpaaGreatDoorJ01
import Derived.Test.YtgmnfgljkocnpaaGreatDoorJ03
import Derived.Test.YtgmnfgljkocnpaaGreatDoorJ13
namespace Go.Proofs.YtgmnfgljkocnpaaGreatDoor
open Go Go.RowKit
set_option maxRecDepth 100000
set_option linter.unusedVariables false
theorem Z77 {text : ByteArray} {j k : Nat} {t : Tok} (h : Z13 text j = .ok (t, k)) : t.kind ≠ 6 ∧ (t.kind = 2 → Z2x t.text = true) ∧ (t.kind = 5 → t.text = text.extract j (j + Zs text j) ∧ Z0l (Z9 text j) = false) := by
 unfold Z13 at h;simp only at h;split at h
 ·rename_i hl;split at h
  ·rename_i hw;simp only [Except.ok.injEq, Prod.mk.injEq] at h;obtain ⟨rfl, _⟩ := h;exact ⟨by simp, fun _ => hw, (fun h => by simp at h)⟩
  ·split at h;·cases h
   ·simp only [Except.ok.injEq, Prod.mk.injEq] at h;obtain ⟨rfl, _⟩ := h;exact ⟨by simp, (fun h => by simp at h), (fun h => by simp at h)⟩
 ·rename_i hl;split at h
  ·split at h;·cases h
   ·split at h;·cases h
    ·simp only [Except.ok.injEq, Prod.mk.injEq] at h;obtain ⟨rfl, _⟩ := h;exact ⟨by simp, (fun h => by simp at h), (fun h => by simp at h)⟩
  ·split at h
   ·split at h;·cases h
    ·split at h;·cases h
     ·simp only [Except.ok.injEq, Prod.mk.injEq] at h;obtain ⟨rfl, _⟩ := h;exact ⟨by simp, (fun h => by simp at h), (fun h => by simp at h)⟩
   ·split at h;·cases h
    ·simp only [Except.ok.injEq, Prod.mk.injEq] at h;obtain ⟨rfl, _⟩ := h;exact ⟨by simp, (fun h => by simp at h), fun _ => ⟨rfl, by simpa using hl⟩⟩
theorem Zgc {s : ByteArray} (h : Z2x s = true) : Z1l s = 0 := by
 refine Decidable.byContradiction fun hs => ?_;have key : s = s_or ∨ s = Z66 ∨ s = Z41 ∨ s = Z43 ∨ s = Z4o ∨ s = Z56 ∨ s = Z67 := by
  unfold Z1l Z0o at hs;simp only [decide_eq_true_eq] at hs;by_cases h1 : s = s_or;·exact .inl h1
  by_cases h2 : s = Z66;·exact .inr (.inl h2)
  by_cases h3 : s = Z41;·exact .inr (.inr (.inl h3))
  by_cases h4 : s = Z43;·exact .inr (.inr (.inr (.inl h4)))
  by_cases h5 : s = Z4o;·exact .inr (.inr (.inr (.inr (.inl h5))))
  by_cases h6 : s = Z56;·exact .inr (.inr (.inr (.inr (.inr (.inl h6)))))
  by_cases h7 : s = Z67;·exact .inr (.inr (.inr (.inr (.inr (.inr h7)))))
  simp [h1, h2, h3, h4, h5, h6, h7] at hs
 have no : ∀ x, Z2x x = false → s = x → False := fun x h1 h2 => by rw [h2, h1] at h; cases h
 rcases key with e | e | e | e | e | e | e;all_goals exact no _ (by kernel_rfl) e
theorem Zbf {s : ByteArray} (h : Z2i s ≠ 0) : Z0l (Z9 s 0) = true ∧ 0 < s.size := by
 unfold Z2i at h;by_cases h1 : Z0o s Z4e = true
 ·have : s = Z4e := by simpa [Z0o] using h1
  subst this; exact ⟨by kernel_rfl, by decide⟩
 by_cases h2 : Z0o s Z38 = true
 ·have : s = Z38 := by simpa [Z0o] using h2
  subst this; exact ⟨by kernel_rfl, by decide⟩
 by_cases h3 : Z0o s Z5b = true
 ·have : s = Z5b := by simpa [Z0o] using h3
  subst this; exact ⟨by kernel_rfl, by decide⟩
 by_cases h4 : Z0o s Z1c = true
 ·have : s = Z1c := by simpa [Z0o] using h4
  subst this; exact ⟨by kernel_rfl, by decide⟩
 simp [h1, h2, h3, h4] at h
theorem Zek {text : ByteArray} {j k : Nat} {t : Tok} (hj : j < text.size) (h : Z13 text j = .ok (t, k)) : Zj0 t := by
 obtain ⟨_, h2, h5⟩ := Z77 h;refine ⟨fun hk => Zgc (h2 hk), fun hk => ?_⟩;obtain ⟨ht, hl⟩ := h5 hk;refine Decidable.byContradiction fun hc => ?_;obtain ⟨hb, hs⟩ := Zbf hc;have hsz : 0 < Zs text j := by
  unfold Zs;split;·omega
  ·split;·omega
   ·split <;> omega
 have hp : Z9 t.text 0 = Z9 text j := by
  rw [ht];have hle : (text.extract j (j + Zs text j)).size ≤ Zs text j := by rw [ByteArray.size_extract]; omega
  by_cases hk : j + Zs text j ≤ text.size;·rw [Zq text (by omega) hk]; rfl
  ·have e : text.extract j (j + Zs text j) = text.extract j text.size := by
    apply ByteArray.ext;simp only [ByteArray.data_extract];apply Array.ext
    ·simp only [Array.size_extract];have : text.size = text.data.size := rfl;omega
    ·intro i h1 h2; simp only [Array.getElem_extract]
   rw [e, Zq text (by omega) (Nat.le_refl _)]; rfl
 rw [hp, hl] at hb;cases hb
theorem Z6l {text : ByteArray} : ∀ (r : List Tok) (i : Nat), i ≤ text.size → Zev text i r → (∃ l e, r = l ++ [e] ∧ e.kind = 6 ∧ ∀ t ∈ l, t.kind ≠ 6) ∧ r.length + i ≤ text.size + 1 ∧ Zt r := by
 intro r;induction r with
 | nil => intro i _ h; exact h.elim
 | cons t r ih =>
   intro i hi h;cases r with
   | nil =>
     obtain ⟨h1, h2⟩ := h;refine ⟨⟨[], t, rfl, by rw [h2], fun t ht => by cases ht⟩, by simp; omega, fun x hx => ?_⟩;simp only [List.mem_singleton] at hx;subst hx;rw [h2];exact ⟨fun h => by simp at h, fun h => by simp at h⟩
   | cons u r =>
     obtain ⟨k, h1, h2, h3⟩ := h;obtain ⟨c1, c2, _⟩ := Z39 text h1 h2;obtain ⟨s1, _, _, _⟩ := Z28 Z1a text (text.size - i) i (Nat.le_refl _) hi;obtain ⟨⟨l, e, h4, h5, h6⟩, h7, h8⟩ := ih k c2 h3;refine ⟨⟨t :: l, e, by rw [h4]; rfl, h5, fun x hx => ?_⟩, ?_, fun x hx => ?_⟩
     ·rcases List.mem_cons.1 hx with rfl | hx;·exact (Z77 h2).1
      ·exact h6 x hx
     ·simp only [List.length_cons] at h7 ⊢; omega
     ·rcases List.mem_cons.1 hx with rfl | hx;·exact Zek h1 h2
      ·exact h8 x hx
theorem Zby (text : ByteArray) : ∀ (f i : Nat) (acc : List UInt8), (Z0j text f i acc).2.1 = 0 → (Z0j text f i acc).1.length ≤ 500 := by
 intro f;induction f with
 | zero => intro i acc h; simp [Z0j] at h
 | succ f ih =>
   intro i acc h;unfold Z0j at h ⊢;by_cases c1 : text.size ≤ i ∨ Z9 text i = 10;·rw [if_pos c1] at h; simp at h
   rw [if_neg c1] at h ⊢;by_cases c2 : Z9 text i = 39
   ·rw [if_pos c2] at h ⊢;by_cases c3 : 500 < acc.length;·rw [if_pos c3] at h; simp at h
    ·rw [if_neg c3]; simp only; omega
   rw [if_neg c2] at h ⊢;by_cases c4 : Z9 text i = 92
   ·rw [if_pos c4] at h ⊢;by_cases c5 : i + 1 < text.size
    ·rw [if_pos c5] at h ⊢;cases he : Z6o (Z9 text (i + 1)) with
     | none => rw [he] at h; simp at h
     | some e => rw [he] at h; simp only at h ⊢; exact ih _ _ h
    ·rw [if_neg c5] at h; simp at h
   ·rw [if_neg c4] at h ⊢;exact ih _ _ h
theorem Z8l (text : ByteArray) (a b : Nat) : (text.extract a b).size ≤ text.size := by
 rw [ByteArray.size_extract]; omega
theorem Zh7 {text : ByteArray} {j k : Nat} {t : Tok} (h : Z13 text j = .ok (t, k)) : t.text.size ≤ text.size + 500 := by
 have hx := Z8l text;unfold Z13 at h;simp only at h;split at h
 ·split at h
  ·simp only [Except.ok.injEq, Prod.mk.injEq] at h;obtain ⟨rfl, _⟩ := h;have := hx j (Zw Z46 text (text.size - j) j); simp only; omega
  ·split at h;·cases h
   ·simp only [Except.ok.injEq, Prod.mk.injEq] at h;obtain ⟨rfl, _⟩ := h;have := hx j (Zw Z46 text (text.size - j) j); simp only; omega
 ·split at h
  ·split at h;·cases h
   ·split at h;·cases h
    ·simp only [Except.ok.injEq, Prod.mk.injEq] at h;obtain ⟨rfl, _⟩ := h;exact Nat.zero_le _
  ·split at h
   ·split at h;·cases h
    ·split at h;·cases h
     ·rename_i _ h2;simp only [Except.ok.injEq, Prod.mk.injEq] at h;obtain ⟨rfl, _⟩ := h;have h3 := Zby text (text.size + 1 - (j + 1)) (j + 1) [] (by simpa [Z0f] using h2);have h4 : (⟨(Z0f text (j + 1)).1.toArray⟩ : ByteArray).size = (Z0f text (j + 1)).1.length := by
       show (Z0f text (j + 1)).1.toArray.size = _;simp
      simp only;rw [h4];have h5 : (Z0f text (j + 1)).1.length ≤ 500 := h3;omega
   ·split at h;·cases h
    ·simp only [Except.ok.injEq, Prod.mk.injEq] at h;obtain ⟨rfl, _⟩ := h;have := hx j (j + Zs text j); simp only; omega
theorem Zgr {text : ByteArray} {j k : Nat} {t : Tok} (hj : j < text.size) (h : Z13 text j = .ok (t, k)) : t.kind = 5 → t.text ≠ ⟨#[43, 45]⟩ := by
 intro hk he;obtain ⟨_, _, h5⟩ := Z77 h;obtain ⟨ht, hl⟩ := h5 hk;have hle : (text.extract j (j + Zs text j)).size ≤ Zs text j := by rw [ByteArray.size_extract]; omega
 have hsz : t.text.size = 2 := by rw [he]; rfl
 have h2 : 2 ≤ Zs text j := by rw [← ht] at hle; omega
 have hp : Z9 t.text 0 = Z9 text j := by
  rw [ht];by_cases hk : j + Zs text j ≤ text.size;·rw [Zq text (by omega) hk]; rfl
  ·have e : text.extract j (j + Zs text j) = text.extract j text.size := by
    apply ByteArray.ext;simp only [ByteArray.data_extract];apply Array.ext
    ·simp only [Array.size_extract];have : text.size = text.data.size := rfl;omega
    ·intro i h1 h2; simp only [Array.getElem_extract]
   rw [e, Zq text (by omega) (Nat.le_refl _)]; rfl
 have h43 : Z9 text j = 43 := by rw [← hp, he]; decide
 have h1 : Zs text j = 1 := by
  unfold Zs;rw [if_neg (by rw [h43]; intro h; exact absurd h.1 (by decide)), if_neg (by rw [h43]; intro h; exact absurd h.1 (by decide)), if_neg (by rw [h43]; intro h; exact absurd h.1 (by decide))]
 omega
theorem Zeg {text : ByteArray} : ∀ (r : List Tok) (i : Nat), i ≤ text.size → Zev text i r → (∀ t ∈ r, t.kind = 5 → t.text ≠ ⟨#[43, 45]⟩) ∧ ∀ t ∈ r, t.text.size ≤ text.size + 500 := by
 intro r;induction r with
 | nil => intro i _ h; exact h.elim
 | cons t r ih =>
   intro i hi h;cases r with
   | nil =>
     obtain ⟨h1, h2⟩ := h;refine ⟨fun x hx => ?_, fun x hx => ?_⟩
     ·simp only [List.mem_singleton] at hx;subst hx;rw [h2];exact fun h => by simp at h
     ·simp only [List.mem_singleton] at hx;subst hx;rw [h2];exact Nat.zero_le _
   | cons u r =>
     obtain ⟨k, h1, h2, h3⟩ := h;obtain ⟨c1, c2, _⟩ := Z39 text h1 h2;obtain ⟨h7, h8⟩ := ih k c2 h3;refine ⟨fun x hx => ?_, fun x hx => ?_⟩
     ·rcases List.mem_cons.1 hx with rfl | hx;·exact Zgr h1 h2
      ·exact h7 x hx
     ·rcases List.mem_cons.1 hx with rfl | hx;·exact Zh7 h2
      ·exact h8 x hx
end Go.Proofs.YtgmnfgljkocnpaaGreatDoor
