/- The reference's Tokens, plain: numbers, strings, signs. -/
import Derived.Test.YtgifgiipojedbaaDoorLexT
import Derived.Lib.Atoi
namespace Go.Proofs.YtgifgiipojedbaaDoor
open Go Go.RowKit
set_option maxRecDepth 100000
set_option linter.unusedVariables false

theorem extract_bytes (text : ByteArray) {j k : Nat} (hj : j ≤ k) (hk : k ≤ text.size) : (text.extract j k).data.toList = (text.data.toList.drop j).take (k - j) := by
  rw [ByteArray.data_extract, Array.toList_extract]
theorem byte_list {text : ByteArray} {j : Nat} (h : j < text.size) : text.data.toList.drop j = text.data.getD j 0 :: text.data.toList.drop (j + 1) := by
  have h' : j < text.data.toList.length := by simpa using h
  have h2 : j < text.data.size := h
  rw [List.drop_eq_getElem_cons h']
  congr 1
  simp only [Array.getD, dif_pos h2]
  rfl
theorem dec_num {text : ByteArray} {k : Nat} (hk : k ≤ text.size) : ∀ (f j acc : Nat), k - j = f → j ≤ k → (∀ m, j ≤ m → m < k → digitB (byteAt text m) = true) → ∃ n : Nat, Lib.decFrom acc ((text.data.toList.drop j).take (k - j)) = some n ∧ numF text k f j acc = n := by
  intro f
  induction f with
  | zero =>
    intro j acc hf hj _
    rw [hf]
    exact ⟨acc, by simp [Lib.decFrom], rfl⟩
  | succ f ih =>
    intro j acc hf hj hd
    have hjk : j < k := by omega
    have hdj := hd j (Nat.le_refl _) hjk
    obtain ⟨n, h1, h2⟩ := ih (j + 1) (acc * 10 + ((text.data.getD j 0).toNat - 48)) (by omega) (by omega) (fun m a b => hd m (by omega) b)
    have hb : 48 ≤ (text.data.getD j 0).toNat ∧ (text.data.getD j 0).toNat ≤ 57 := by
      have : byteAt text j = ((text.data.getD j 0).toNat : Int) := rfl
      rw [this] at hdj
      simp only [digitB, Bool.and_eq_true, decide_eq_true_eq] at hdj
      omega
    refine ⟨n, ?_, ?_⟩
    · rw [hf, byte_list (by omega), List.take_succ_cons]
      simp only [Lib.decFrom, Lib.digitVal, hb, and_self, if_true]
      rw [show f = k - (j + 1) by omega]
      exact h1
    · simp only [numF]
      rw [if_pos hjk, ← h2]
      congr 1
      have : byteAt text j = ((text.data.getD j 0).toNat : Int) := rfl
      rw [this]
      omega
theorem atoi_num {text : ByteArray} {i m : Nat} (him : i < m) (hm : m ≤ text.size) (hd : ∀ x, i ≤ x → x < m → digitB (byteAt text x) = true) : Lib.atoi (text.extract i m).data.toList = some (numF text m (m - i) i 0) := by
  obtain ⟨n, h1, h2⟩ := dec_num hm (m - i) i 0 rfl (by omega) hd
  rw [extract_bytes text (by omega) hm]
  have hdj := hd i (Nat.le_refl _) him
  have hb : 48 ≤ (text.data.getD i 0).toNat ∧ (text.data.getD i 0).toNat ≤ 57 := by
    have : byteAt text i = ((text.data.getD i 0).toNat : Int) := rfl
    rw [this] at hdj
    simp only [digitB, Bool.and_eq_true, decide_eq_true_eq] at hdj
    omega
  obtain ⟨g, hg⟩ : ∃ g, m - i = g + 1 := ⟨m - i - 1, by omega⟩
  rw [hg, byte_list (by omega), List.take_succ_cons] at h1 ⊢
  have e1 : (text.data.getD i 0 == 45) = false := by
    rw [beq_eq_false_iff_ne]; intro e; rw [e] at hb; exact absurd hb.1 (by decide)
  have e2 : (text.data.getD i 0 == 43) = false := by
    rw [beq_eq_false_iff_ne]; intro e; rw [e] at hb; exact absurd hb.1 (by decide)
  simp only [Lib.atoi, e1, e2, Bool.false_eq_true, if_false, Lib.decNat, List.isEmpty_cons]
  rw [h1]
  simp only [Option.map_some]
  rw [← hg, ← h2]
  rfl
theorem cat_byte (acc : List UInt8) {text : ByteArray} {m : Nat} (h : m < text.size) : (⟨acc.toArray⟩ : ByteArray) ++ text.extract m (m + 1) = ⟨(acc ++ [text.data.getD m 0]).toArray⟩ := by
  apply ByteArray.ext
  rw [ByteArray.data_append]
  apply Array.ext'
  rw [Array.toList_append, extract_bytes text (by omega) (by omega), show m + 1 - m = 1 by omega, byte_list h]
  simp
theorem cat_lit (acc : List UInt8) (u : UInt8) : (⟨acc.toArray⟩ : ByteArray) ++ ⟨#[u]⟩ = ⟨(acc ++ [u]).toArray⟩ := by
  apply ByteArray.ext
  rw [ByteArray.data_append]
  apply Array.ext'
  simp
/-! ### signs -/
def rsigns : List ByteArray := lit3 0 :: lit3 1 :: lit3 2 :: signL.map fun u => ⟨#[u]⟩
def preS (text : ByteArray) (j : Nat) (s : ByteArray) : Bool := s.data.toList.isPrefixOf (text.data.toList.drop j)
def firstS (text : ByteArray) (j : Nat) : List ByteArray → ByteArray
  | [] => ⟨#[]⟩
  | s :: r => if preS text j s then s else firstS text j r
theorem firstS_pos {text : ByteArray} {j : Nat} {s : ByteArray} {r : List ByteArray} (h : preS text j s = true) : firstS text j (s :: r) = s := by
  simp only [firstS]
  rw [if_pos h]
theorem firstS_neg {text : ByteArray} {j : Nat} {s : ByteArray} {r : List ByteArray} (h : ¬ preS text j s = true) : firstS text j (s :: r) = firstS text j r := by
  simp only [firstS]
  rw [if_neg h]
theorem firstS_snoc (text : ByteArray) (j : Nat) (l : List ByteArray) (s : ByteArray) (hl : ∀ x ∈ l, x ≠ ⟨#[]⟩) : firstS text j (l ++ [s]) = if firstS text j l = ⟨#[]⟩ then (if preS text j s then s else ⟨#[]⟩) else firstS text j l := by
  induction l with
  | nil => simp [firstS]
  | cons x l ih =>
    by_cases h : preS text j x = true
    · rw [List.cons_append, firstS_pos h, firstS_pos h, if_neg (hl x (by simp))]
    · rw [List.cons_append, firstS_neg h, firstS_neg h]
      exact ih fun y hy => hl y (by simp [hy])
theorem rsigns_some : ∀ x ∈ rsigns, x ≠ ⟨#[]⟩ := by
  intro x hx e
  have h : rsigns.all (fun s => decide (0 < s.size)) = true := by kernel_rfl
  have := List.all_eq_true.1 h x hx
  rw [e] at this
  exact absurd this (by decide)
theorem preS_one {text : ByteArray} {j : Nat} (h : j < text.size) (u : UInt8) : preS text j ⟨#[u]⟩ = decide (byteAt text j = u.toNat) := by
  unfold preS
  rw [byte_list h]
  have hb : byteAt text j = ((text.data.getD j 0).toNat : Int) := rfl
  rw [hb]
  simp only [List.isPrefixOf, Bool.and_true]
  rw [Bool.eq_iff_iff]
  simp only [beq_iff_eq, decide_eq_true_eq]
  constructor
  · intro e; rw [← e]
  · intro e; exact (UInt8.toNat_inj.1 (by omega)).symm
theorem first_one {text : ByteArray} {j : Nat} (h : j < text.size) : ∀ us : List UInt8, firstS text j (us.map fun u => ⟨#[u]⟩) = if us.any (fun u => decide (byteAt text j = u.toNat)) then text.extract j (j + 1) else ⟨#[]⟩ := by
  intro us
  induction us with
  | nil => simp [firstS]
  | cons u us ih =>
    by_cases hu : byteAt text j = u.toNat
    · have hany : (u :: us).any (fun u => decide (byteAt text j = u.toNat)) = true := by simp [hu]
      rw [if_pos hany, List.map_cons, firstS_pos (by rw [preS_one h]; simpa using hu)]
      have h0 := byteAt_u8 hu
      rw [extract_list text j 1 (by omega)]
      simp [List.range_succ, ← h0]
    · have hany : (u :: us).any (fun u => decide (byteAt text j = u.toNat)) = us.any (fun u => decide (byteAt text j = u.toNat)) := by simp [hu]
      rw [hany, List.map_cons, firstS_neg (by rw [preS_one h]; simpa using hu), ih]
theorem sign_any (u : UInt8) : signL.any (fun x => decide ((u.toNat : Int) = x.toNat)) = signB u.toNat := by
  have key : ∀ n : Fin 256, signL.any (fun x => decide (((UInt8.ofNat n.val).toNat : Int) = x.toNat)) = signB ((UInt8.ofNat n.val).toNat : Int) := by decide +kernel
  have h := key ⟨u.toNat, by have := u.toNat_lt; omega⟩
  simpa using h
theorem sign_law {text : ByteArray} {j : Nat} (h : j < text.size) :
    (firstS text j rsigns = ⟨#[]⟩ ∧ signs3 text j = 1 ∧ signB (byteAt text j) = false) ∨
    (firstS text j rsigns ≠ ⟨#[]⟩ ∧ ¬ (signs3 text j = 1 ∧ signB (byteAt text j) = false) ∧ firstS text j rsigns = text.extract j (j + signs3 text j) ∧ (firstS text j rsigns).size = signs3 text j ∧ j + signs3 text j ≤ text.size ∧ 0 < signs3 text j) := by
  have e0 := pre0 text j
  have e1 := pre1 text j
  have e2 := pre2 text j
  obtain ⟨t1, t2, t3⟩ := signT_3 text j h
  have hp : ∀ m, preS text j (lit3 m) = preB text j m := fun m => rfl
  have hf : firstS text j rsigns = if preB text j 0 then lit3 0 else if preB text j 1 then lit3 1 else if preB text j 2 then lit3 2 else firstS text j (signL.map fun u => ⟨#[u]⟩) := rfl
  have hs : signT text j 3 = if preB text j 2 then lit3 2 else if preB text j 1 then lit3 1 else if preB text j 0 then lit3 0 else text.extract j (j + 1) := rfl
  have big : ∀ m, m < 3 → firstS text j rsigns = lit3 m → signT text j 3 = lit3 m → signs3 text j ≠ 1 → (firstS text j rsigns ≠ ⟨#[]⟩ ∧ ¬ (signs3 text j = 1 ∧ signB (byteAt text j) = false) ∧ firstS text j rsigns = text.extract j (j + signs3 text j) ∧ (firstS text j rsigns).size = signs3 text j ∧ j + signs3 text j ≤ text.size ∧ 0 < signs3 text j) := by
    intro m hm h1 h2 h3
    have hpos : 0 < (lit3 m).size := by
      match m, hm with
      | 0, _ => decide
      | 1, _ => decide
      | 2, _ => decide
    rw [h2] at t1 t2
    refine ⟨?_, fun h => h3 h.1, by rw [h1, ← t1], by rw [h1, t2], t3, by omega⟩
    rw [h1]
    intro e
    rw [e] at hpos
    exact absurd hpos (by decide)
  by_cases h0 : preB text j 0 = true
  · have b := e0.1 h0
    have n1 : ¬ preB text j 1 = true := fun x => by have := e1.1 x; omega
    have n2 : ¬ preB text j 2 = true := fun x => by have := e2.1 x; omega
    rw [if_pos h0] at hf
    rw [if_neg n2, if_neg n1, if_pos h0] at hs
    exact .inr (big 0 (by omega) hf hs (by simp [signs3, b]))
  by_cases h1 : preB text j 1 = true
  · have b := e1.1 h1
    have n2 : ¬ preB text j 2 = true := fun x => by have := e2.1 x; omega
    rw [if_neg h0, if_pos h1] at hf
    rw [if_neg n2, if_pos h1] at hs
    exact .inr (big 1 (by omega) hf hs (by simp [signs3, b]))
  by_cases h2 : preB text j 2 = true
  · have b := e2.1 h2
    rw [if_neg h0, if_neg h1, if_pos h2] at hf
    rw [if_pos h2] at hs
    exact .inr (big 2 (by omega) hf hs (by simp [signs3, b]))
  rw [if_neg h0, if_neg h1, if_neg h2, first_one h] at hf
  have s1 : signs3 text j = 1 := by
    unfold signs3
    rw [if_neg (fun x => h0 (e0.2 x)), if_neg (fun x => h1 (e1.2 x)), if_neg (fun x => h2 (e2.2 x))]
  have hany : signL.any (fun u => decide (byteAt text j = u.toNat)) = signB (byteAt text j) := sign_any (text.data.getD j 0)
  rw [hany] at hf
  cases hb : signB (byteAt text j) with
  | false =>
    rw [hb, if_neg (by simp)] at hf
    exact .inl ⟨hf, s1, rfl⟩
  | true =>
    rw [hb, if_pos rfl] at hf
    have hz : (text.extract j (j + 1)).size = 1 := by rw [ByteArray.size_extract]; omega
    refine .inr ⟨?_, by simp, by rw [hf, s1], by rw [hf, s1, hz], by omega, by omega⟩
    intro e
    rw [hf] at e
    rw [e] at hz
    exact absurd hz (by decide)
end Go.Proofs.YtgifgiipojedbaaDoor
