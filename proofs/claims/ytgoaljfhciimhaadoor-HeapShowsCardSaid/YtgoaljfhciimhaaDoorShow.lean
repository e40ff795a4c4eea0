/- Walks of package heap: Show; the law HeapShows' other calls. -/
import Derived.Test.YtgoaljfhciimhaaDoorHeapB
import Derived.Test.YtgoaljfhciimhaaDoorHeapK
import Derived.Test.YtgoaljfhciimhaaDoorShelfI
import Derived.Lib.AppendIntMem
namespace Go.Proofs.YtgoaljfhciimhaaDoor
open Go Go.RowKit
set_option maxRecDepth 100000

def Pow (w : World) : Prop := Lib.TabIs Tryd.prog w "internal/strconv.uint64pow10" .u64 Lib.pow10Tab
theorem Pow.below {w w' : World} (h : Pow w) (hB : Below w.heap.size w w') : Pow w' := Lib.tabBelow_of_tabIs h w' hB
theorem below_grow (w : World) (k : Nat) (os : Array Obj) : Below w.heap.size w (Sort.grow (w.drewN k) os) := by
  refine ⟨rfl, rfl, rfl, ?_, fun i hi => ?_⟩
  · simp [Sort.grow, World.drewN]
  · simp only [Sort.grow, World.drewN]
    exact Array.getElem?_append_left hi
theorem itoa_any (w : World) (n : Int) (h0 : -9223372036854775808 ≤ n) (h1 : n ≤ 9223372036854775807) (ht : Pow w) :
    Calls Tryd.prog 81 #[.int .i64 n] w fun e w' => e = .returned (.string ⟨(Lib.itoa n).toArray⟩) ∧ Below w.heap.size w w' := by
  refine (Tryd.strconv_Itoa n h0 h1 w ht).mono ?_
  rintro e w' ⟨rfl, k, os, rfl⟩
  exact ⟨rfl, below_grow _ _ _⟩

def sUndefined : ByteArray := ⟨#[117, 110, 100, 101, 102, 105, 110, 101, 100]⟩
def sNull : ByteArray := ⟨#[110, 117, 108, 108]⟩
def sTrue : ByteArray := ⟨#[116, 114, 117, 101]⟩
def sFalse : ByteArray := ⟨#[102, 97, 108, 115, 101]⟩
def sFunction : ByteArray := ⟨#[102, 117, 110, 99, 116, 105, 111, 110]⟩
def sObject : ByteArray := ⟨#[111, 98, 106, 101, 99, 116]⟩
def LHeap.shown (H : LHeap) (v : LVal) : ByteArray :=
  if v.kind = 0 then sUndefined else if v.kind = 1 then sNull else if v.kind = 2 then (if v.n = 0 then sFalse else sTrue)
  else if v.kind = 3 then ⟨(Lib.itoa v.n).toArray⟩ else if v.kind = 4 then v.s else if H.code v.n = 0 then sObject else sFunction

section
variable {ρ : Nat → Option Role} {w : World} {hb ho : Nat} {L : HL} {H : LHeap}
set_option maxHeartbeats 1600000 in
theorem show_any (h : HeapAt ρ w hb ho L H) (v : LVal) (h0 : -9223372036854775808 ≤ v.n) (h1 : v.n ≤ 9223372036854775807) (ht : Pow w) :
    Calls Tryd.prog 26 #[.pointer (some ⟨hb, ho, none⟩), v.agg] w fun e w' => e = .returned (.string (H.shown v)) ∧ Below w.heap.size w w' := by
  obtain ⟨k, n, s⟩ := v
  simp only at h0 h1
  simp only [LVal.agg, LHeap.shown]
  have hB : ∀ o, Below w.heap.size w (w.alloc o) := fun o => (Below.refl _ _).alloc (Nat.le_refl _) _
  have HB := Lib.hid hB
  have HI := Lib.hid (fun o => itoa_any (w.alloc o) n h0 h1 (ht.below (hB o)))
  have HC := Lib.hid (fun o => code_any (h.below (hB o)) n)
  clear h ht hB
  by_cases k0 : k = 0
  · subst k0
    go_enter Tryd.func26, Tryd.ntmps26
    go_wp2
    go_ret
    exact ⟨rfl, HB.out _⟩
  by_cases k1 : k = 1
  · subst k1
    go_enter Tryd.func26, Tryd.ntmps26
    go_wp2
    go_ret
    exact ⟨rfl, HB.out _⟩
  by_cases k2 : k = 2
  · subst k2
    by_cases hn : n = 0
    · subst hn
      go_enter Tryd.func26, Tryd.ntmps26
      go_wp2
      go_ret
      exact ⟨rfl, HB.out _⟩
    · have hn' : (n != 0) = true := by simp [hn]
      simp only [hn, if_false]
      go_enter Tryd.func26, Tryd.ntmps26
      go_wp2
      go_ret
      exact ⟨rfl, HB.out _⟩
  by_cases k3 : k = 3
  · subst k3
    go_enter Tryd.func26, Tryd.ntmps26
    go_wp2_with fail
    refine (HI.out _).mono ?_
    rintro e w1 ⟨rfl, hB1⟩
    have HB1 := Lib.hid hB1
    clear hB1
    go_wp2
    go_ret
    exact ⟨rfl, (HB.out _).trans (HB1.out.mono (by simp))⟩
  by_cases k4 : k = 4
  · subst k4
    go_enter Tryd.func26, Tryd.ntmps26
    go_wp2
    go_ret
    exact ⟨rfl, HB.out _⟩
  · have q0 : (k == 0) = false := by simp [k0]
    have q1 : (k == 1) = false := by simp [k1]
    have q2 : (k == 2) = false := by simp [k2]
    have q3 : (k == 3) = false := by simp [k3]
    have q4 : (k == 4) = false := by simp [k4]
    simp only [k0, k1, k2, k3, k4, if_false]
    clear k0 k1 k2 k3 k4
    by_cases hc : H.code n = 0
    · rw [hc] at HC
      rw [if_pos hc]
      clear hc
      go_enter Tryd.func26, Tryd.ntmps26
      go_wp2_with fail
      refine (HC.out _).mono ?_
      rintro e w1 ⟨rfl, rfl⟩
      go_wp2
      go_ret
      exact ⟨rfl, HB.out _⟩
    · have hc' : (H.code n != 0) = true := by simp [hc]
      rw [if_neg hc]
      generalize H.code n = c at HC hc'
      clear hc
      go_enter Tryd.func26, Tryd.ntmps26
      go_wp2_with fail
      refine (HC.out _).mono ?_
      rintro e w1 ⟨rfl, rfl⟩
      go_wp2
      go_ret
      exact ⟨rfl, HB.out _⟩
end
end Go.Proofs.YtgoaljfhciimhaaDoor
