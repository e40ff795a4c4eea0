/- Has, Find, Read, and the small askers. -/
import Derived.Test.YtfanolcjgaccpaaDoorJ01
namespace Go.Proofs.YtfanolcjgaccpaaDoor
open Go Go.RowKit
set_option maxRecDepth 100000

def LHeap.has (H : LHeap) (n : Int) (name : ByteArray) : Bool :=
  match H.scope? n with
  | none => false
  | some s => if s.object < 0 then (s.idx name).isSome else (H.get s.object name).isSome
/-- every scope's outer one was there ahead of it -/
def LHeap.WF (H : LHeap) : Prop := ∀ (i : Nat) s, H.scopes[i]? = some s → -1 ≤ s.outer ∧ s.outer < i
def LHeap.findF (H : LHeap) (name : ByteArray) : Nat → Int → Int
  | 0, _ => -1
  | f + 1, n =>
    match H.scope? n with
    | none => -1
    | some s => if H.has n name then n else H.findF name f s.outer
def LHeap.find (H : LHeap) (n : Int) (name : ByteArray) : Int := H.findF name (n + 1).toNat n

section
variable {ρ : Nat → Option Role} {w : World} {hb ho : Nat} {L : HL} {H : LHeap}

theorem has_eq {n : Int} {s : LScope} {name : ByteArray} (h : H.scope? n = some s) : H.has n name = if s.object < 0 then (s.idx name).isSome else (H.get s.object name).isSome := by
  simp [LHeap.has, h]

set_option maxHeartbeats 400000 in
theorem has_any (h : HeapAt ρ w hb ho L H) (n : Int) (name : ByteArray) :
    Calls Tryd.prog 27 #[.pointer (some ⟨hb, ho, none⟩), .int .i64 n, .string name] w fun e w' => e = .returned (.bool (H.has n name)) ∧ Below w.heap.size w w' := by
  rcases hob : H.scope? n with _ | s
  · have HC := Lib.hid (scope_no h n hob)
    have hg : H.has n name = false := by simp [LHeap.has, hob]
    rw [hg]
    clear h hob hg
    go_enter Tryd.func27, Tryd.ntmps27
    go_wp2_with fail
    refine HC.out.mono ?_
    rintro e w1 ⟨rfl, rfl⟩
    go_wp2
    go_ret
    exact ⟨rfl, Below.refl _ _⟩
  · have hh := has_eq (name := name) hob
    obtain ⟨m, rfl, hm⟩ := LHeap.scope?_some hob
    obtain ⟨hblk, hown⟩ := h.scp m s hm
    have hlt : L.sb m < w.heap.size := (Array.getElem?_eq_some_iff.1 hblk).1
    have hc1 : w.cell? ⟨L.sb m, 1, none⟩ = some (.int .i64 s.object) := by simp [World.cell?, hblk]
    have HC := Lib.hid (scope_yes h m (getElem?_lt hm))
    rw [hh]
    by_cases ho : s.object < 0
    · rw [if_pos ho]
      have HB := Lib.hid (bind_any h m s hm name)
      clear h hob hh hm hblk
      rcases hk : s.idx name with _ | k
      · rw [hk] at HB
        simp only [ptrOpt] at HB
        clear hk hown
        go_enter Tryd.func27, Tryd.ntmps27
        go_wp2_with fail
        refine HC.out.mono ?_
        rintro e w1 ⟨rfl, rfl⟩
        go_wp2_with fail
        refine HB.out.mono ?_
        rintro e w1 ⟨rfl, hB⟩
        have hB' := Lib.hid hB
        clear hB
        go_wp2
        go_ret
        exact ⟨rfl, hB'.out⟩
      · rw [hk] at HB
        obtain ⟨p, hp, _⟩ := LScope.idx_some hk
        have hkl := getElem?_lt hp
        rcases ownsRow_cases hown with ⟨hv, hz⟩ | ⟨g, c, hv, h2, h3, hgl⟩
        · omega
        rw [hv] at HB
        simp only [ptrOpt, Value.ownBlock, Option.map_some] at HB
        clear hv hown hk hp
        go_enter Tryd.func27, Tryd.ntmps27
        go_wp2_with fail
        refine HC.out.mono ?_
        rintro e w1 ⟨rfl, rfl⟩
        go_wp2_with fail
        refine HB.out.mono ?_
        rintro e w1 ⟨rfl, hB⟩
        have hB' := Lib.hid hB
        clear hB
        go_wp2
        go_ret
        exact ⟨rfl, hB'.out⟩
    · rw [if_neg ho]
      have HB := Lib.hid (get_any h s.object name)
      clear h hob hh hm hblk hown
      generalize (H.get s.object name).isSome = r at *
      generalize (H.get s.object name).getD LVal.zero = v at *
      obtain ⟨vk, vn, vs⟩ := v
      simp only [LVal.agg] at HB
      go_enter Tryd.func27, Tryd.ntmps27
      go_wp2_with fail
      refine HC.out.mono ?_
      rintro e w1 ⟨rfl, rfl⟩
      go_wp2_with fail
      refine HB.out.mono ?_
      rintro e w1 ⟨rfl, hB⟩
      have hB' := Lib.hid hB
      clear hB
      go_wp2
      go_ret
      exact ⟨rfl, hB'.out.alloc hB'.out.size _⟩

theorem find_none {n : Int} {name : ByteArray} {f : Nat} (h : H.scope? n = none) : H.findF name f n = -1 := by
  cases f <;> simp [LHeap.findF, h]
theorem find_some {n : Int} {s : LScope} {name : ByteArray} {f : Nat} (h : H.scope? n = some s) : H.findF name (f + 1) n = if H.has n name then n else H.findF name f s.outer := by
  simp [LHeap.findF, h]

/-- where the search stands -/
def FindAt (L : HL) (H : LHeap) (n : Int) (b c : Value) : Prop :=
  (∃ (m : Nat) (s : LScope), n = m ∧ H.scopes[m]? = some s ∧ b = .pointer (some ⟨L.sb m, 0, none⟩) ∧ c = .bool true) ∨ (H.scope? n = none ∧ b = .pointer none ∧ c = .bool false)

set_option maxHeartbeats 800000 in
theorem find_at (h : HeapAt ρ w hb ho L H) (hwf : H.WF) (n : Int) (name : ByteArray) :
    Calls Tryd.prog 22 #[.pointer (some ⟨hb, ho, none⟩), .int .i64 n, .string name] w fun e w' => e = .returned (.int .i64 (H.find n name)) ∧ Below w.heap.size w w' := by
  obtain ⟨R, hR⟩ : ∃ R, R = H.find n name := ⟨_, rfl⟩
  rw [← hR]
  have HR := Lib.hid hR
  clear hR
  have main : ∀ b c, Calls Tryd.prog 43 #[.pointer (some ⟨hb, ho, none⟩), .int .i64 n] w (fun e w' => e = .returned (.tuple #[b, c]) ∧ w = w') → FindAt L H n b c →
      Calls Tryd.prog 22 #[.pointer (some ⟨hb, ho, none⟩), .int .i64 n, .string name] w fun e w' => e = .returned (.int .i64 R) ∧ Below w.heap.size w w' := by
    intro b c hcall hat
    have HC := Lib.hid hcall
    have HA := Lib.hid hat
    have HH := Lib.hid h
    have HW := Lib.hid hwf
    clear hcall hat h hwf
    go_enter Tryd.func22, Tryd.ntmps22
    go_wp2_with fail
    refine HC.out.mono ?_
    rintro e w1 ⟨rfl, rfl⟩
    go_wp2_with fail
    go_loopw [1, 7, 8] (fun x b c wr => ∃ (m : Int) (f : Nat), x = .int .i64 m ∧ FindAt L H m b c ∧ H.findF name f m = R ∧ m < f ∧ Below w.heap.size w wr) (fun x _ _ _ => (intOf x + 1).toNat)
    case atStart => exact ⟨n, (n + 1).toNat, rfl, HA.out, HR.out.symm, by omega, Below.refl _ _⟩
    case round =>
      obtain ⟨m, f, rfl, hat, hf, hlt, hB⟩ := hrel
      rcases hat with ⟨k, s, rfl, hs, rfl, rfl⟩ | ⟨hnone, rfl, rfl⟩
      · have hH := HH.out.below hB
        have hs? : H.scope? (k : Int) = some s := by simp [LHeap.scope?, hs]
        obtain ⟨f, rfl⟩ : ∃ f', f = f' + 1 := ⟨f - 1, by omega⟩
        rw [find_some hs?] at hf
        have hwf := HW.out k s hs
        have HC1 := Lib.hid (has_any hH (k : Int) name)
        have hblk := (hH.scp k s hs).1
        have hltb : L.sb k < wr.heap.size := (Array.getElem?_eq_some_iff.1 hblk).1
        have hc : wr.cell? ⟨L.sb k, 0, none⟩ = some (.int .i64 s.outer) := by simp [World.cell?, hblk]
        have HF := Lib.hid hf
        have HB := Lib.hid hB
        have HHr := Lib.hid hH
        clear hf hB hH hblk hs hs?
        by_cases hq : H.has (k : Int) name = true
        · rw [hq] at HC1
          go_wp2_with fail
          refine HC1.out.mono ?_
          rintro e w1 ⟨rfl, hB1⟩
          have HB1 := Lib.hid hB1
          clear hB1
          go_wp2
          go_ret
          exact ⟨ret_int (by rw [← HF.out, if_pos hq]), HB.out.trans (HB1.out.mono HB.out.size)⟩
        · have hq' : H.has (k : Int) name = false := by simpa using hq
          rw [hq'] at HC1
          go_wp2_with fail
          refine HC1.out.mono ?_
          rintro e w1 ⟨rfl, hB1⟩
          have hc' := (hB1.cell (p := ⟨L.sb k, 0, none⟩) hltb).trans hc
          have hH1 := HHr.out.below hB1
          have hB2 := HB.out.trans (hB1.mono HB.out.size)
          have hf := HF.out
          rw [if_neg hq] at hf
          have HF' := Lib.hid hf
          have HB2 := Lib.hid hB2
          clear hB1 hB2 hf hc HF
          have two : ∃ b c, Calls Tryd.prog 43 #[.pointer (some ⟨hb, ho, none⟩), .int .i64 s.outer] w1 (fun e w' => e = .returned (.tuple #[b, c]) ∧ w1 = w') ∧ FindAt L H s.outer b c := by
            rcases hso : H.scope? s.outer with _ | t
            · exact ⟨_, _, scope_no hH1 _ hso, .inr ⟨hso, rfl, rfl⟩⟩
            · obtain ⟨j, hj, ht⟩ := LHeap.scope?_some hso
              rw [hj]
              exact ⟨_, _, scope_yes hH1 j (getElem?_lt ht), .inl ⟨j, t, rfl, ht, rfl, rfl⟩⟩
          obtain ⟨b', c', hcall, hat'⟩ := two
          have HC2 := Lib.hid hcall
          have HA2 := Lib.hid hat'
          clear hcall hat' hH1
          go_wp2_with fail
          refine HC2.out.mono ?_
          rintro e w2 ⟨rfl, rfl⟩
          go_wp2
          go_roundw
          case rel => exact ⟨s.outer, f, rfl, HA2.out, HF'.out, by omega, HB2.out⟩
          case measure => simp [intOf]; omega
      · have HB := Lib.hid hB
        have HF := Lib.hid hf
        have HN := Lib.hid hnone
        clear hB hf hnone
        go_wp2
        go_ret
        exact ⟨ret_int (by rw [← HF.out, find_none HN.out]), HB.out⟩
  rcases hso : H.scope? n with _ | t
  · exact main _ _ (scope_no h _ hso) (.inr ⟨hso, rfl, rfl⟩)
  · obtain ⟨j, rfl, ht⟩ := LHeap.scope?_some hso
    exact main _ _ (scope_yes h j (getElem?_lt ht)) (.inl ⟨j, t, rfl, ht, rfl, rfl⟩)
end
end Go.Proofs.YtfanolcjgaccpaaDoor
