/- Walks of the reference's heap that only read: cell, Has, Find, Kind, Read. -/
import Derived.Test.YtfanolcjgaccpaaDoorJ05
namespace Go.Proofs.YtfanolcjgaccpaaDoor
open Go Go.RowKit
set_option maxRecDepth 100000
set_option linter.unusedVariables false

/-- the place of a name of a scope's own -/
def LHeap.cellI (H : LHeap) (n : Int) (name : ByteArray) : Int :=
  match H.scope? n with
  | none => -1
  | some s => if s.object < 0 then optI (s.idx name) else -1

section
variable {w : World} {rb : Nat} {V : RV} {H : LHeap}

set_option maxHeartbeats 800000 in
theorem rcell_any (h : RAt w rb V H) (n : Int) (name : ByteArray) :
    Calls Tryd.prog 46 #[.pointer (some ⟨rb, 0, none⟩), .int .i64 n, .string name] w fun e w' => e = .returned (.int .i64 (H.cellI n name)) ∧ Below w.heap.size w w' := by
  have HC := Lib.hid (room_any h n)
  rcases hob : H.scope? n with _ | o
  · rw [hob] at HC
    have e : H.cellI n name = -1 := by simp [LHeap.cellI, hob]
    rw [e]
    clear h hob e
    go_enter Tryd.func46, Tryd.ntmps46
    go_wp2_with fail
    refine HC.out.mono ?_
    rintro e w1 ⟨rfl, rfl⟩
    go_wp2
    go_ret
    exact ⟨rfl, Below.refl _ _⟩
  · rw [hob] at HC
    have e : H.cellI n name = if o.object < 0 then optI (o.idx name) else -1 := by simp [LHeap.cellI, hob]
    rw [e]
    clear e
    obtain ⟨m, rfl, hm⟩ := LHeap.scope?_some hob
    obtain ⟨g, c, d0, _, d1, d2, d3, d4, d5, d6⟩ := h.roomAt hm
    have hown := h.cel m o hm
    generalize H.scopes.length = q at *
    by_cases hso : o.object < 0
    · rw [if_pos hso]
      have hnone : o.idx name = o.names.findIdx? (LBind.is name) := rfl
      rw [hnone]
      generalize o.names = l at *
      generalize o.object = oo at *
      clear hnone
      rcases ownsRow_cases hown with ⟨hv, hz⟩ | ⟨g1, c1, hv, h1, h2, hg⟩
      · rw [hv] at d6
        have : l = [] := List.eq_nil_of_length_eq_zero hz
        subst this
        clear hown h hob hz hm hv
        go_enter Tryd.func46, Tryd.ntmps46
        go_wp2_with fail
        refine HC.out.mono ?_
        rintro e w1 ⟨rfl, rfl⟩
        go_wp2
        go_loop [32] (fun i => i = .int .i64 0) (fun _ => 0)
        case atStart => rfl
        case round =>
          subst hrel
          go_wp2
          go_ret
          exact ⟨rfl, Below.refl _ _⟩
      · have hrow := fun i j a x => row_cell (f := LBind.rcells) (m := 4) (fun _ => rfl) hown (g := g1) (by rw [hv]; rfl) (i := i) (j := j) (a := a) (x := x)
        rw [hv] at d6
        obtain ⟨n, hn⟩ : ∃ n, n = l.length := ⟨_, rfl⟩
        rw [← hn] at h1 d6
        unfold maxLen at h2
        have HN := Lib.hid hn
        have HR := Lib.hid hrow
        clear hn hown h hob hm hrow hv
        go_enter Tryd.func46, Tryd.ntmps46
        go_wp2_with fail
        refine HC.out.mono ?_
        rintro e w1 ⟨rfl, rfl⟩
        go_wp2
        go_loopw [7, 8, 32] (fun _ _ i wr => ∃ k : Nat, i = .int .i64 k ∧ k ≤ n ∧ Hid (∀ j a, j < k → l[j]? = some a → LBind.is name a = false) ∧ Hid (Below w.heap.size w wr)) (fun _ _ i _ => n - (intOf i).toNat)
        case atStart => exact ⟨0, rfl, by omega, Lib.hid fun j a hj => by omega, Lib.hid (Below.refl _ _)⟩
        case round =>
          obtain ⟨k, rfl, hk, HO, HB⟩ := hrel
          have hB := HB.out
          by_cases hlt : k < n
          · have hkl : k < l.length := by have := HN.out; omega
            have hget : l[k]? = some l[k] := List.getElem?_eq_getElem hkl
            generalize l[k] = b at hget
            obtain ⟨bn, ⟨bk, bm, bs⟩, bkd, brd⟩ := b
            have c0 : wr.cell? ⟨g1, k * 4, none⟩ = some (.string bn) := (hB.cell (p := ⟨g1, k * 4, none⟩) hg).trans (HR.out k 0 _ _ hget rfl)
            have c1 : wr.cell? ⟨g1, k * 4 + 1, none⟩ = some (.int .i64 bm) := (hB.cell (p := ⟨g1, k * 4 + 1, none⟩) hg).trans (HR.out k 1 _ _ hget rfl)
            have c2 : wr.cell? ⟨g1, k * 4 + 2, none⟩ = some (.int .i64 bkd) := (hB.cell (p := ⟨g1, k * 4 + 2, none⟩) hg).trans (HR.out k 2 _ _ hget rfl)
            have c3 : wr.cell? ⟨g1, k * 4 + 3, none⟩ = some (.bool brd) := (hB.cell (p := ⟨g1, k * 4 + 3, none⟩) hg).trans (HR.out k 3 _ _ hget rfl)
            have HG := Lib.hid hget
            clear hget hB hkl
            by_cases hq : sameS bn name = true
            · have hq' : (bn.toList == name.toList) = true := (toList_beq _ _).trans hq
              go_wp2
              go_ret
              have e1 : l.findIdx? (LBind.is name) = some k := findIdx?_some_of HO.out HG.out hq
              exact ⟨by rw [e1]; rfl, HB.out.alloc HB.out.size _⟩
            · have hq' : (bn.toList == name.toList) = false := (toList_beq _ _).trans (by simpa using hq)
              go_wp2
              go_roundw
              case rel =>
                refine ⟨k + 1, by go_num, by omega, Lib.hid fun j a hj ha => ?_, Lib.hid (HB.out.alloc HB.out.size _)⟩
                by_cases hjk : j = k
                · subst hjk
                  have := HG.out.symm.trans ha
                  simp only [Option.some.injEq] at this
                  subst this
                  simpa [LBind.is] using hq
                · exact HO.out j a (by omega) ha
              case measure => simp [intOf]; omega
          · have hkn : k = n := by omega
            subst hkn
            clear hB
            go_wp2
            go_ret
            exact ⟨by rw [findIdx?_none_of (by rw [← HN.out]; exact HO.out)]; rfl, HB.out⟩
    · rw [if_neg hso]
      generalize o.object = oo at *
      clear h hob hm hown d6
      go_enter Tryd.func46, Tryd.ntmps46
      go_wp2_with fail
      refine HC.out.mono ?_
      rintro e w1 ⟨rfl, rfl⟩
      go_wp2
      go_ret
      exact ⟨rfl, Below.refl _ _⟩

theorem optI_ge {o : Option Nat} : decide (0 ≤ optI o) = o.isSome := by
  cases o with
  | none => rfl
  | some k => simp [optI]
theorem cellI_ge {n : Int} {s : LScope} {name : ByteArray} (hs : H.scope? n = some s) (ho : s.object < 0) : H.cellI n name = optI (s.idx name) := by
  simp [LHeap.cellI, hs, ho]

set_option maxHeartbeats 800000 in
theorem rhas_any (h : RAt w rb V H) (n : Int) (name : ByteArray) :
    Calls Tryd.prog 28 #[.pointer (some ⟨rb, 0, none⟩), .int .i64 n, .string name] w fun e w' => e = .returned (.bool (H.has n name)) ∧ Below w.heap.size w w' := by
  have HC := Lib.hid (room_any h n)
  rcases hob : H.scope? n with _ | o
  · rw [hob] at HC
    have HD := rcell_any h n name
    have e : H.has n name = false := by simp [LHeap.has, hob]
    have e' : H.cellI n name = -1 := by simp [LHeap.cellI, hob]
    rw [e]
    rw [e'] at HD
    have HD := Lib.hid HD
    clear h hob e e'
    go_enter Tryd.func28, Tryd.ntmps28
    go_wp2_with fail
    refine HC.out.mono ?_
    rintro e w1 ⟨rfl, rfl⟩
    go_wp2_with fail
    refine HD.out.mono ?_
    rintro e w1 ⟨rfl, hB⟩
    have HB := Lib.hid hB
    clear hB
    go_wp2
    go_ret
    exact ⟨rfl, HB.out⟩
  · rw [hob] at HC
    rw [has_eq hob]
    have HD := rcell_any h n name
    obtain ⟨m, rfl, hm⟩ := LHeap.scope?_some hob
    obtain ⟨g, c, d0, _, d1, d2, d3, d4, d5, d6⟩ := h.roomAt hm
    have HG := Lib.hid (rget_any h o.object name)
    by_cases hso : o.object < 0
    · rw [if_pos hso]
      rw [cellI_ge hob hso] at HD
      rw [← optI_ge]
      generalize optI (o.idx name) = r at *
      have HD := Lib.hid HD
      generalize H.scopes.length = q at *
      generalize o.object = oo at *
      clear h hob hm d6
      go_enter Tryd.func28, Tryd.ntmps28
      go_wp2_with fail
      refine HC.out.mono ?_
      rintro e w1 ⟨rfl, rfl⟩
      go_wp2_with fail
      refine HD.out.mono ?_
      rintro e w1 ⟨rfl, hB⟩
      have HB := Lib.hid hB
      clear hB
      go_wp2
      go_ret
      exact ⟨rfl, HB.out⟩
    · rw [if_neg hso]
      generalize (H.get o.object name).isSome = r at *
      generalize ((H.get o.object name).getD LVal.zero).n = v at *
      generalize H.scopes.length = q at *
      generalize o.object = oo at *
      clear h hob hm d6 HD
      go_enter Tryd.func28, Tryd.ntmps28
      go_wp2_with fail
      refine HC.out.mono ?_
      rintro e w1 ⟨rfl, rfl⟩
      go_wp2_with fail
      refine HG.out.mono ?_
      rintro e w1 ⟨rfl, hB⟩
      have HB := Lib.hid hB
      clear hB
      go_wp2
      go_ret
      exact ⟨rfl, HB.out⟩

set_option maxHeartbeats 800000 in
theorem rfind_any (h : RAt w rb V H) (hwf : H.WF) (n : Int) (name : ByteArray) :
    Calls Tryd.prog 23 #[.pointer (some ⟨rb, 0, none⟩), .int .i64 n, .string name] w fun e w' => e = .returned (.int .i64 (H.find n name)) ∧ Below w.heap.size w w' := by
  obtain ⟨R, hR⟩ : ∃ R, R = H.find n name := ⟨_, rfl⟩
  rw [← hR]
  have HR := Lib.hid hR
  have HH := Lib.hid h
  have HW := Lib.hid hwf
  clear hR h hwf
  go_enter Tryd.func23, Tryd.ntmps23
  go_wp2_with fail
  go_loopw [1] (fun x wr => ∃ (m : Int) (f : Nat), x = .int .i64 m ∧ Hid (H.findF name f m = R) ∧ m < f ∧ Hid (Below w.heap.size w wr)) (fun x _ => (intOf x + 1).toNat)
  case atStart => exact ⟨n, (n + 1).toNat, rfl, Lib.hid HR.out.symm, by omega, Lib.hid (Below.refl _ _)⟩
  case round =>
    obtain ⟨m, f, rfl, HF, hlt, HB⟩ := hrel
    have hH := HH.out.below HB.out
    have HC := Lib.hid (room_any hH m)
    rcases hs? : H.scope? m with _ | s
    · rw [hs?] at HC
      have hf := HF.out
      rw [find_none hs?] at hf
      clear hs? hH
      have HF' := Lib.hid hf
      clear hf
      go_wp2_with fail
      refine HC.out.mono ?_
      rintro e w1 ⟨rfl, rfl⟩
      go_wp2_with fail
      refine HC.out.mono ?_
      rintro e w1 ⟨rfl, rfl⟩
      go_wp2
      go_ret
      exact ⟨ret_int HF'.out, HB.out⟩
    · rw [hs?] at HC
      obtain ⟨f, rfl⟩ : ∃ f', f = f' + 1 := ⟨f - 1, by
        obtain ⟨k, rfl, _⟩ := LHeap.scope?_some hs?
        omega⟩
      have hf := HF.out
      rw [find_some hs?] at hf
      have HD := Lib.hid (rhas_any hH m name)
      by_cases hq : H.has m name = true
      · rw [hq] at HD hf
        simp only [if_true] at hf
        have HF' := Lib.hid hf
        have HC' := Lib.hid (fun w1 (hB1 : Below wr.heap.size wr w1) => room_any (hH.below hB1) m)
        rw [hs?] at HC'
        clear hf hs? hH
        go_wp2_with fail
        refine HC.out.mono ?_
        rintro e w1 ⟨rfl, rfl⟩
        go_wp2_with fail
        refine HD.out.mono ?_
        rintro e w1 ⟨rfl, hB1⟩
        have hc := HC'.out w1 hB1
        have HC2 := Lib.hid hc
        have HB1 := Lib.hid hB1
        clear hB1 hc
        go_wp2_with fail
        refine HC2.out.mono ?_
        rintro e w1 ⟨rfl, rfl⟩
        go_wp2
        go_ret
        exact ⟨ret_int HF'.out, HB.out.trans (HB1.out.mono HB.out.size)⟩
      · have hq' : H.has m name = false := by simpa using hq
        rw [hq'] at HD hf
        simp only [Bool.false_eq_true, if_false] at hf
        have HF' := Lib.hid hf
        obtain ⟨k, rfl, hk⟩ := LHeap.scope?_some hs?
        have hwf := HW.out k s hk
        have HRm := Lib.hid (fun w1 (hB1 : Below wr.heap.size wr w1) => (hH.below hB1).roomAt hk)
        clear hf hs? hH hk
        go_wp2_with fail
        refine HC.out.mono ?_
        rintro e w1 ⟨rfl, rfl⟩
        go_wp2_with fail
        refine HD.out.mono ?_
        rintro e w1 ⟨rfl, hB1⟩
        obtain ⟨g, c, d0, _, d1, d2, d3, d4, d5, d6⟩ := HRm.out w1 hB1
        have HB2 := Lib.hid (HB.out.trans (hB1.mono HB.out.size))
        generalize H.scopes.length = q at *
        clear hB1 d5 d6
        go_wp2
        go_roundw
        case rel => exact ⟨s.outer, f, rfl, HF', by omega, HB2⟩
        case measure => simp [intOf]; omega

/-- the kind of a scope's own binding -/
def LHeap.kindOf (H : LHeap) (n : Int) (name : ByteArray) : Int :=
  match H.scope? n with
  | none => -1
  | some s => if s.object < 0 then (match (s.idx name).bind fun k => s.names[k]? with | none => -1 | some b => b.kind) else -1
theorem RAt.cellAt (h : RAt w rb V H) {m k : Nat} {s : LScope} {b : LBind} (hm : H.scopes[m]? = some s) (hk : s.names[k]? = some b) :
    ∃ g c, V.row (.cel m) = .slice (some ⟨g, 0, none⟩) s.names.length c ∧ s.names.length ≤ c ∧ c ≤ 9223372036854775807 ∧ k < s.names.length ∧ g < w.heap.size ∧
      w.cell? ⟨g, k * 4, none⟩ = some (.string b.name) ∧ w.cell? ⟨g, k * 4 + 1, none⟩ = some (.int .i64 b.v.n) ∧ w.cell? ⟨g, k * 4 + 2, none⟩ = some (.int .i64 b.kind) ∧ w.cell? ⟨g, k * 4 + 3, none⟩ = some (.bool b.ready) := by
  have hkl := getElem?_lt hk
  have hown := h.cel m s hm
  rcases ownsRow_cases hown with ⟨hv, hz⟩ | ⟨g, c, hv, h1, h2, h3⟩
  · omega
  · have hrow := fun j x => row_cell (f := LBind.rcells) (m := 4) (fun _ => rfl) hown (g := g) (by rw [hv]; rfl) (i := k) (j := j) (x := x) hk
    exact ⟨g, c, hv, h1, by unfold maxLen at h2; omega, hkl, h3, hrow 0 _ rfl, hrow 1 _ rfl, hrow 2 _ rfl, hrow 3 _ rfl⟩

set_option maxHeartbeats 800000 in
theorem rkind_any (h : RAt w rb V H) (n : Int) (name : ByteArray) :
    Calls Tryd.prog 30 #[.pointer (some ⟨rb, 0, none⟩), .int .i64 n, .string name] w fun e w' => e = .returned (.int .i64 (H.kindOf n name)) ∧ Below w.heap.size w w' := by
  have HC := rcell_any h n name
  by_cases hne : H.cellI n name = -1
  · have e : H.kindOf n name = -1 := by
      unfold LHeap.cellI at hne
      unfold LHeap.kindOf
      rcases hob : H.scope? n with _ | s
      · rfl
      · rw [hob] at hne
        by_cases hso : s.object < 0
        · simp only [if_pos hso] at hne ⊢
          rcases hk : s.idx name with _ | k
          · rfl
          · rw [hk] at hne; simp only [optI] at hne; omega
        · simp only [if_neg hso]
    rw [hne] at HC
    rw [e]
    have HC := Lib.hid HC
    clear h hne e
    go_enter Tryd.func30, Tryd.ntmps30
    go_wp2_with fail
    refine HC.out.mono ?_
    rintro e w1 ⟨rfl, hB⟩
    have HB := Lib.hid hB
    clear hB
    go_wp2
    go_ret
    exact ⟨rfl, HB.out⟩
  · obtain ⟨m, s, k, b, rfl, hm, hso, hk, hb⟩ : ∃ (m : Nat) (s : LScope) (k : Nat) (b : LBind), n = m ∧ H.scopes[m]? = some s ∧ s.object < 0 ∧ s.idx name = some k ∧ s.names[k]? = some b := by
      unfold LHeap.cellI at hne
      rcases hob : H.scope? n with _ | s
      · rw [hob] at hne; exact absurd rfl hne
      · rw [hob] at hne
        obtain ⟨m, rfl, hm⟩ := LHeap.scope?_some hob
        by_cases hso : s.object < 0
        · simp only [if_pos hso] at hne
          rcases hk : s.idx name with _ | k
          · rw [hk] at hne; exact absurd rfl hne
          · obtain ⟨b, hb, _⟩ := LScope.idx_some hk
            exact ⟨m, s, k, b, rfl, hm, hso, hk, hb⟩
        · simp only [if_neg hso] at hne; exact absurd trivial hne
    have h0 : ¬ (m : Int) < 0 := by omega
    have hob : H.scope? (m : Int) = some s := by simp only [LHeap.scope?, if_neg h0, Int.toNat_natCast, hm]
    have e : H.kindOf m name = b.kind := by simp only [LHeap.kindOf, hob, if_pos hso, hk, Option.bind_some, hb]
    have e' : H.cellI m name = k := by rw [cellI_ge hob hso, hk]; rfl
    rw [e]
    rw [e'] at HC
    have HC := Lib.hid HC
    have HRm := Lib.hid (fun w1 (hB1 : Below w.heap.size w w1) => (h.below hB1).roomAt hm)
    have HRc := Lib.hid (fun w1 (hB1 : Below w.heap.size w w1) => (h.below hB1).cellAt hm hb)
    generalize H.scopes.length = q at *
    generalize s.names.length = q1 at *
    generalize V.row (.cel m) = v at *
    clear h hne e e' hob hm hk hb
    obtain ⟨bn, ⟨bk, bm, bs⟩, bkd, brd⟩ := b
    go_enter Tryd.func30, Tryd.ntmps30
    go_wp2_with fail
    refine HC.out.mono ?_
    rintro e w1 ⟨rfl, hB⟩
    obtain ⟨g, c, d0, _, d1, d2, d3, d4, d5, d6⟩ := HRm.out w1 hB
    obtain ⟨g1, c1, rfl, f1, f2, f3, f4, f5, f6, f7, f8⟩ := HRc.out w1 hB
    have HB := Lib.hid hB
    clear hB
    go_wp2
    go_ret
    exact ⟨rfl, HB.out⟩
end
end Go.Proofs.YtfanolcjgaccpaaDoor
