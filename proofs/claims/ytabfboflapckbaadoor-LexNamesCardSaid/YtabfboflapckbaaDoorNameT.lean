/- Package lex: IsName; the reference's IsName, IsWord. -/
import Derived.Test.YtabfboflapckbaaDoorLexW
import Derived.Test.YtabfboflapckbaaDoorLexC
import Derived.Test.YtabfboflapckbaaDoorLexR
import Derived.Test.YtabfboflapckbaaDoorShelfT
import Derived.Shelf.Strings.SlTrimAscii
import Derived.WalkSpells
import Derived.WalkLawsBesides
namespace Go.Proofs.YtabfboflapckbaaDoor
open Go Go.RowKit
set_option maxRecDepth 100000

def alphaL : List UInt8 := [97, 98, 99, 100, 101, 102, 103, 104, 105, 106, 107, 108, 109, 110, 111, 112, 113, 114, 115, 116, 117, 118, 119, 120, 121, 122, 48, 49, 50, 51, 52, 53, 54, 55, 56, 57, 95]
def alphaS : ByteArray := ⟨#[97, 98, 99, 100, 101, 102, 103, 104, 105, 106, 107, 108, 109, 110, 111, 112, 113, 114, 115, 116, 117, 118, 119, 120, 121, 122, 48, 49, 50, 51, 52, 53, 54, 55, 56, 57, 95]⟩
theorem alpha_word (u : UInt8) : alphaL.contains u = wordB u.toNat := by
  have key : ∀ n : Fin 256, alphaL.contains (UInt8.ofNat n.val) = wordB ((UInt8.ofNat n.val).toNat : Int) := by decide +kernel
  have h := key ⟨u.toNat, by have := u.toNat_lt; omega⟩
  simpa using h
theorem dropWhile_nil {α : Type} (p : α → Bool) (l : List α) : l.dropWhile p = [] ↔ ∀ x ∈ l, p x = true := by
  induction l with
  | nil => simp
  | cons a l ih =>
    rw [List.dropWhile_cons]
    by_cases h : p a = true
    · rw [if_pos h, ih]; simp [h]
    · rw [if_neg h]; simp [h]
theorem trim_nil (l cs : List UInt8) : Lib.trimS l cs = [] ↔ ∀ x ∈ l, cs.contains x = true := by
  unfold Lib.trimS Lib.trimLeftS Lib.trimRightS
  rw [dropWhile_nil]
  constructor
  · intro h
    have h2 : l.reverse.dropWhile (cs.contains ·) = [] := by
      cases hd : l.reverse.dropWhile (cs.contains ·) with
      | nil => rfl
      | cons a r =>
        have h3 := h a (by rw [hd]; simp)
        have h4 : (cs.contains a) = false := by
          have : ∀ (m : List UInt8), m.dropWhile (cs.contains ·) = a :: r → cs.contains a = false := by
            intro m
            induction m with
            | nil => simp
            | cons b m ih =>
              rw [List.dropWhile_cons]
              by_cases hb : cs.contains b = true
              · rw [if_pos hb]; exact ih
              · rw [if_neg hb]
                intro e
                simp only [List.cons.injEq] at e
                rw [← e.1]; simpa using hb
          exact this _ hd
        rw [h3] at h4
        cases h4
    rw [dropWhile_nil] at h2
    intro x hx
    exact h2 x (by simpa using hx)
  · intro h x hx
    have : x ∈ l := by
      have h1 : x ∈ l.reverse.dropWhile (cs.contains ·) := by simpa using hx
      have h2 := (List.dropWhile_sublist (cs.contains ·) (l := l.reverse)).subset h1
      simpa using h2
    exact h x this

/-- may a text be a name -/
def badB (s : ByteArray) (i : Nat) : Bool := !letterB (byteAt s i) && (decide (i = 0) || !digitB (byteAt s i))
def nameB (s : ByteArray) : Bool := decide (1 ≤ s.size) && decide (s.size ≤ 20) && ((List.range s.size).all fun i => !badB s i) && !isWordB s
theorem name_all (s : ByteArray) : ((List.range s.size).all fun i => !badB s i) = true ↔ ∀ i, i < s.size → badB s i = false := by simp
theorem mem_byte (s : ByteArray) (p : UInt8 → Prop) : (∀ x ∈ s.data.toList, p x) ↔ ∀ i, i < s.size → p (s.data.getD i 0) := by
  constructor
  · intro h i hi
    have hi' : i < s.data.size := hi
    have e : s.data.getD i 0 = s.data[i] := by unfold Array.getD; rw [dif_pos hi']; rfl
    rw [e]
    exact h _ (by simp)
  · intro h x hx
    obtain ⟨i, hi, rfl⟩ := List.mem_iff_getElem.1 hx
    have hi' : i < s.data.size := by simpa using hi
    have e : s.data.getD i 0 = s.data[i] := by unfold Array.getD; rw [dif_pos hi']; rfl
    have := h i hi'
    rw [e] at this
    simpa using this
theorem trim_name (s : ByteArray) : Lib.trimS s.data.toList alphaL = [] ↔ ∀ i, i < s.size → wordB (byteAt s i) = true := by
  rw [trim_nil, mem_byte s (fun x => alphaL.contains x = true)]
  constructor
  · intro h i hi; rw [← h i hi, alpha_word]; rfl
  · intro h i hi; rw [alpha_word]; exact h i hi
theorem name_cases (s : ByteArray) (hl : letterB (byteAt s 0) = true) : ((List.range s.size).all fun i => !badB s i) = true ↔ Lib.trimS s.data.toList alphaL = [] := by
  rw [name_all, trim_name]
  constructor
  · intro h i hi
    have := h i hi
    unfold badB at this
    unfold wordB
    cases h1 : letterB (byteAt s i) <;> cases h2 : digitB (byteAt s i) <;> simp_all
  · intro h i hi
    have := h i hi
    unfold wordB at this
    unfold badB
    by_cases e : i = 0
    · subst e; simp [hl]
    · cases h1 : letterB (byteAt s i) <;> cases h2 : digitB (byteAt s i) <;> simp_all

theorem trim_any (s : ByteArray) (w : World) (hs : s.size ≤ 9223372036854775807) :
    Calls Tryd.prog 63 #[.string s, .string alphaS] w fun e w' => e = .returned (.string ⟨(Lib.trimS s.data.toList alphaL).toArray⟩) ∧ Below w.heap.size w w' :=
  Any.strings_Trim_laid Tryd.lays160 (by kernel_rfl) s alphaS w hs (by decide) (ascii_of_all (by decide))

set_option maxHeartbeats 2000000 in
theorem isName_any (s : ByteArray) (w : World) (hs : s.size ≤ 60) (hW : Words w) :
    Calls Tryd.prog 10 #[.string s] w fun e w' => e = .returned (.bool (nameB s)) ∧ Below w.heap.size w w' := by
  by_cases h0 : s.size = 0
  · obtain rfl : s = ⟨#[]⟩ := by
      obtain ⟨a⟩ := s
      have : a.size = 0 := h0
      rw [Array.eq_empty_of_size_eq_zero this]
    clear hW
    go_enter Tryd.func10, Tryd.ntmps10
    go_wp2
    go_ret
    exact ⟨rfl, Below.refl _ _⟩
  have hne : s.toList.isEmpty = false := by
    rw [Lib.toList_data]
    cases h : s.data.toList with
    | nil => have := Lib.size_eq s; rw [h, List.length_nil] at this; omega
    | cons _ _ => rfl
  have hne2 : ¬ s.toList = [] := by intro h; rw [h] at hne; cases hne
  by_cases h20 : 20 < s.size
  · have e : nameB s = false := by
      have h : decide (s.size ≤ 20) = false := by simp; omega
      simp only [nameB, h, Bool.and_false, Bool.false_and]
    rw [e]
    clear hW h0
    go_enter Tryd.func10, Tryd.ntmps10
    go_wp2
    go_ret
    exact ⟨rfl, Below.refl _ _⟩
  have hlt : 0 < s.size := by omega
  have hby := byteAt_get (text := s) hlt
  obtain ⟨c, hc⟩ : ∃ c, c = byteAt s 0 := ⟨_, rfl⟩
  rw [← hc] at hby
  have hb2 := hby.symm
  obtain ⟨Bl, hBl⟩ : ∃ B, B = letterB c := ⟨_, rfl⟩
  have HLt : Hid (∀ w, Calls Tryd.prog 57 #[.int .u8 c] w fun e w' => e = .returned (.bool Bl) ∧ w = w') := Lib.hid fun w => by rw [hBl]; exact (letter_any w c).mono fun e w' h => ⟨h.1, h.2.symm⟩
  cases Bl
  · have e : nameB s = false := by
      have hb : badB s 0 = true := by simp [badB, ← hc, ← hBl]
      have : ((List.range s.size).all fun i => !badB s i) = false := by
        rw [← Bool.not_eq_true, name_all]
        intro h; rw [h 0 hlt] at hb; cases hb
      simp [nameB, this]
    rw [e]
    clear hW h0 hby hc hBl e
    go_enter Tryd.func10, Tryd.ntmps10
    go_wp2_with fail
    refine (HLt.out _).mono ?_
    rintro e w1 ⟨rfl, rfl⟩
    go_wp2
    go_ret
    exact ⟨rfl, Below.refl _ _⟩
  have hcs := name_cases s (by rw [← hc]; exact hBl.symm)
  have HT := trim_any s w (by omega)
  by_cases ht : Lib.trimS s.data.toList alphaL = []
  · rw [ht] at HT
    have HT := Lib.hid HT
    obtain ⟨Bw, hBw⟩ : ∃ B, B = isWordB s := ⟨_, rfl⟩
    have e : nameB s = !Bw := by
      have h1 := hcs.2 ht
      have h2 : s.size ≤ 20 := by omega
      have h3 : 1 ≤ s.size := by omega
      simp only [nameB, h1, hBw, h2, h3, decide_true, Bool.true_and]
    rw [e]
    have HW := Lib.hid hW
    clear hW h0 hby hc hBl e ht hcs
    go_enter Tryd.func10, Tryd.ntmps10
    go_wp2_with fail
    refine (HLt.out _).mono ?_
    rintro e w1 ⟨rfl, rfl⟩
    go_wp2_with fail
    refine HT.out.mono ?_
    rintro e w1 ⟨rfl, hB⟩
    have HI := isWord_any w1 s (by
      intro j hj
      have hcj := HW.out j hj
      have hl : 0 < w.heap.size := by
        rcases Nat.lt_or_ge 0 w.heap.size with h' | h'
        · exact h'
        · simp [World.cell?, Array.getElem?_eq_none h'] at hcj
      exact (hB.cell (p := ⟨0, j, none⟩) hl).trans hcj)
    rw [← hBw] at HI
    have HI := Lib.hid (HI.mono (R' := fun e w' => e = .returned (.bool Bw) ∧ w1 = w') fun e w' h => ⟨h.1, h.2.symm⟩)
    have HB := Lib.hid hB
    clear hB HT hBw
    go_wp2_with fail
    refine HI.out.mono ?_
    rintro e w2 ⟨rfl, rfl⟩
    go_wp2
    go_ret
    exact ⟨rfl, HB.out⟩
  · obtain ⟨r, hr⟩ : ∃ r, r = Lib.trimS s.data.toList alphaL := ⟨_, rfl⟩
    rw [← hr] at HT ht
    have e : nameB s = false := by
      have : ((List.range s.size).all fun i => !badB s i) = false := by
        rw [← Bool.not_eq_true, hcs, ← hr]; exact ht
      simp [nameB, this]
    rw [e]
    obtain ⟨x, hx⟩ : ∃ x : ByteArray, x = ⟨r.toArray⟩ := ⟨_, rfl⟩
    rw [← hx] at HT
    have HT := Lib.hid HT
    have hrl : x.toList = r := by rw [Lib.toList_data, hx]
    have hre : x.toList.isEmpty = false := by rw [hrl]; cases r <;> simp_all
    have hre2 : ¬ x.toList = [] := by rw [hrl]; exact ht
    clear hW h0 hby hc hBl e ht hcs hr hx hrl
    go_enter Tryd.func10, Tryd.ntmps10
    go_wp2_with fail
    refine (HLt.out _).mono ?_
    rintro e w1 ⟨rfl, rfl⟩
    go_wp2_with fail
    refine HT.out.mono ?_
    rintro e w1 ⟨rfl, hB⟩
    have HB := Lib.hid hB
    clear hB
    go_wp2
    go_ret
    exact ⟨rfl, HB.out⟩
end Go.Proofs.YtabfboflapckbaaDoor
