/- The searches by name: slices.IndexFunc over bindings and properties; bind and find. -/
import Derived.Test.YtgifgiipojedbaaDoorHeapR
namespace Go.Proofs.YtgifgiipojedbaaDoor
open Go Go.RowKit
set_option maxRecDepth 100000

theorem findIdx?_none_of {α : Type} {p : α → Bool} {l : List α} (h : ∀ j a, j < l.length → l[j]? = some a → p a = false) : l.findIdx? p = none := by
  rw [List.findIdx?_eq_none_iff]
  intro x hx
  obtain ⟨j, hj, rfl⟩ := List.getElem_of_mem hx
  exact h j _ hj (List.getElem?_eq_getElem hj)
theorem findIdx?_some_of {α : Type} {p : α → Bool} {l : List α} {k : Nat} {a : α} (h : ∀ j a, j < k → l[j]? = some a → p a = false) (hk : l[k]? = some a) (ha : p a = true) : l.findIdx? p = some k := by
  rw [List.findIdx?_eq_some_iff_getElem]
  obtain ⟨hlt, rfl⟩ := List.getElem?_eq_some_iff.1 hk
  refine ⟨hlt, ha, fun j hj => ?_⟩
  rw [h j _ hj (List.getElem?_eq_getElem (by omega))]
  simp

def optI : Option Nat → Int | some k => k | none => -1
def LBind.is (name : ByteArray) (b : LBind) : Bool := sameS b.name name
def LProp.is (name : ByteArray) (b : LProp) : Bool := sameS b.name name
def LScope.idx (s : LScope) (name : ByteArray) : Option Nat := s.names.findIdx? (LBind.is name)
def LObj.idx (o : LObj) (name : ByteArray) : Option Nat := o.props.findIdx? (LProp.is name)

set_option maxHeartbeats 400000 in
theorem bindClosure (w : World) (bx : Addr) (name n s : ByteArray) (k m kd : Int) (rd : Bool) (hx : w.cell? bx = some (.string name)) (hb : bx.block < w.heap.size) :
    Calls Tryd.prog 85 #[.agg #[.string n, .int .i64 k, .int .i64 m, .string s, .int .i64 kd, .bool rd], .pointer (some bx)] w fun e w' => e = .returned (.bool (sameS n name)) ∧ Below w.heap.size w w' := by
  go_enter Tryd.func85, Tryd.ntmps85
  go_wp2
  go_ret
  exact ⟨by rw [← toList_beq]; rfl, (Below.refl _ _).alloc (Nat.le_refl _) _⟩

set_option maxHeartbeats 400000 in
theorem findClosure (w : World) (bx : Addr) (name n s : ByteArray) (k m : Int) (rd : Bool) (hx : w.cell? bx = some (.string name)) (hb : bx.block < w.heap.size) :
    Calls Tryd.prog 83 #[.agg #[.string n, .int .i64 k, .int .i64 m, .string s, .bool rd], .pointer (some bx)] w fun e w' => e = .returned (.bool (sameS n name)) ∧ Below w.heap.size w w' := by
  go_enter Tryd.func83, Tryd.ntmps83
  go_wp2
  go_ret
  exact ⟨by rw [← toList_beq]; rfl, (Below.refl _ _).alloc (Nat.le_refl _) _⟩

set_option maxHeartbeats 400000 in
theorem indexB (w : World) (bx : Addr) (name : ByteArray) (hx : w.cell? bx = some (.string name)) (hb : bx.block < w.heap.size) (v : Value) (l : List LBind)
    (hown : w.ownsRow 0 119 6 v l.length (l.flatMap LBind.cells)) :
    Calls Tryd.prog 84 #[v, .func (.func 85) #[] #[.pointer (some bx)]] w fun e w' => e = .returned (.int .i64 (optI (l.findIdx? (LBind.is name)))) ∧ Below w.heap.size w w' := by
  have hrow := fun g hg i j a x => row_cell (f := LBind.cells) (m := 6) (fun _ => rfl) hown (g := g) hg (i := i) (j := j) (a := a) (x := x)
  rcases ownsRow_cases hown with ⟨hv, hz⟩ | ⟨g, c, hv, h1, h2, hg⟩
  · subst hv
    have : l = [] := List.eq_nil_of_length_eq_zero hz
    subst this
    clear hown hrow hz
    go_enter Tryd.func84, Tryd.ntmps84
    go_wp2
    go_loop [8] (fun i => i = .int .i64 0) (fun _ => 0)
    case atStart => rfl
    case round =>
      subst hrel
      go_wp2
      go_ret
      exact ⟨rfl, Below.refl _ _⟩
  · subst hv
    have hc := hrow g rfl
    clear hown hrow
    obtain ⟨n, hn⟩ : ∃ n, n = l.length := ⟨_, rfl⟩
    rw [← hn] at h1 ⊢
    unfold maxLen at h2
    have HN := Lib.hid hn
    clear hn
    go_enter Tryd.func84, Tryd.ntmps84
    go_wp2
    go_loopw [5, 8] (fun _ i wr => ∃ k : Nat, i = .int .i64 k ∧ k ≤ n ∧ (∀ j a, j < k → l[j]? = some a → LBind.is name a = false) ∧ Below w.heap.size w wr) (fun _ i _ => n - (intOf i).toNat)
    case atStart => exact ⟨0, rfl, by omega, fun j a hj => by omega, Below.refl _ _⟩
    case round =>
      obtain ⟨k, rfl, hk, hno, hB⟩ := hrel
      have hlen : n = l.length := HN.out
      by_cases hlt : k < n
      · have hkl : k < l.length := by omega
        have hget : l[k]? = some l[k] := List.getElem?_eq_getElem hkl
        generalize l[k] = b at hget
        obtain ⟨bn, ⟨bk, bm, bs⟩, bkd, brd⟩ := b
        have c0 : wr.cell? ⟨g, k * 6, none⟩ = some (.string bn) := (hB.cell (p := ⟨g, k * 6, none⟩) hg).trans (hc k 0 _ _ hget rfl)
        have c1 : wr.cell? ⟨g, k * 6 + 1, none⟩ = some (.int .i64 bk) := (hB.cell (p := ⟨g, k * 6 + 1, none⟩) hg).trans (hc k 1 _ _ hget rfl)
        have c2 : wr.cell? ⟨g, k * 6 + 2, none⟩ = some (.int .i64 bm) := (hB.cell (p := ⟨g, k * 6 + 2, none⟩) hg).trans (hc k 2 _ _ hget rfl)
        have c3 : wr.cell? ⟨g, k * 6 + 3, none⟩ = some (.string bs) := (hB.cell (p := ⟨g, k * 6 + 3, none⟩) hg).trans (hc k 3 _ _ hget rfl)
        have c4 : wr.cell? ⟨g, k * 6 + 4, none⟩ = some (.int .i64 bkd) := (hB.cell (p := ⟨g, k * 6 + 4, none⟩) hg).trans (hc k 4 _ _ hget rfl)
        have c5 : wr.cell? ⟨g, k * 6 + 5, none⟩ = some (.bool brd) := (hB.cell (p := ⟨g, k * 6 + 5, none⟩) hg).trans (hc k 5 _ _ hget rfl)
        have hx' : wr.cell? bx = some (.string name) := (hB.cell hb).trans hx
        have hb' : bx.block < wr.heap.size := Nat.lt_of_lt_of_le hb hB.size
        have HG := Lib.hid hget
        have HO := Lib.hid hno
        clear hget hno hc hx hlen
        by_cases hq : sameS bn name = true
        · go_wp2_with (go_at_call 85; refine (bindClosure _ bx name bn bs bk bm bkd brd hx' hb').mono ?_; rintro e w1 ⟨rfl, hB1⟩)
          go_ret
          exact ⟨by rw [findIdx?_some_of HO.out HG.out hq]; rfl, hB.trans (hB1.mono (hB.size))⟩
        · go_wp2_with (go_at_call 85; refine (bindClosure _ bx name bn bs bk bm bkd brd hx' hb').mono ?_; rintro e w1 ⟨rfl, hB1⟩)
          go_roundw
          case rel =>
            refine ⟨k + 1, by go_num, by omega, fun j a hj ha => ?_, hB.trans (hB1.mono hB.size)⟩
            by_cases hjk : j = k
            · subst hjk
              have := HG.out.symm.trans ha
              simp only [Option.some.injEq] at this
              subst this
              simpa [LBind.is] using hq
            · exact HO.out j a (by omega) ha
          case measure => simp [intOf]; omega
      · have hkn : k = n := by omega
        subst hkn
        have HO := Lib.hid hno
        clear hno hlen hc
        go_wp2
        go_ret
        exact ⟨by rw [findIdx?_none_of (by rw [← HN.out]; exact HO.out)]; rfl, hB⟩

set_option maxHeartbeats 400000 in
theorem indexP (w : World) (bx : Addr) (name : ByteArray) (hx : w.cell? bx = some (.string name)) (hb : bx.block < w.heap.size) (v : Value) (l : List LProp)
    (hown : w.ownsRow 0 110 5 v l.length (l.flatMap LProp.cells)) :
    Calls Tryd.prog 82 #[v, .func (.func 83) #[] #[.pointer (some bx)]] w fun e w' => e = .returned (.int .i64 (optI (l.findIdx? (LProp.is name)))) ∧ Below w.heap.size w w' := by
  have hrow := fun g hg i j a x => row_cell (f := LProp.cells) (m := 5) (fun _ => rfl) hown (g := g) hg (i := i) (j := j) (a := a) (x := x)
  rcases ownsRow_cases hown with ⟨hv, hz⟩ | ⟨g, c, hv, h1, h2, hg⟩
  · subst hv
    have : l = [] := List.eq_nil_of_length_eq_zero hz
    subst this
    clear hown hrow hz
    go_enter Tryd.func82, Tryd.ntmps82
    go_wp2
    go_loop [8] (fun i => i = .int .i64 0) (fun _ => 0)
    case atStart => rfl
    case round =>
      subst hrel
      go_wp2
      go_ret
      exact ⟨rfl, Below.refl _ _⟩
  · subst hv
    have hc := hrow g rfl
    clear hown hrow
    obtain ⟨n, hn⟩ : ∃ n, n = l.length := ⟨_, rfl⟩
    rw [← hn] at h1 ⊢
    unfold maxLen at h2
    have HN := Lib.hid hn
    clear hn
    go_enter Tryd.func82, Tryd.ntmps82
    go_wp2
    go_loopw [5, 8] (fun _ i wr => ∃ k : Nat, i = .int .i64 k ∧ k ≤ n ∧ (∀ j a, j < k → l[j]? = some a → LProp.is name a = false) ∧ Below w.heap.size w wr) (fun _ i _ => n - (intOf i).toNat)
    case atStart => exact ⟨0, rfl, by omega, fun j a hj => by omega, Below.refl _ _⟩
    case round =>
      obtain ⟨k, rfl, hk, hno, hB⟩ := hrel
      have hlen : n = l.length := HN.out
      by_cases hlt : k < n
      · have hkl : k < l.length := by omega
        have hget : l[k]? = some l[k] := List.getElem?_eq_getElem hkl
        generalize l[k] = b at hget
        obtain ⟨bn, ⟨bk, bm, bs⟩, brd⟩ := b
        have c0 : wr.cell? ⟨g, k * 5, none⟩ = some (.string bn) := (hB.cell (p := ⟨g, k * 5, none⟩) hg).trans (hc k 0 _ _ hget rfl)
        have c1 : wr.cell? ⟨g, k * 5 + 1, none⟩ = some (.int .i64 bk) := (hB.cell (p := ⟨g, k * 5 + 1, none⟩) hg).trans (hc k 1 _ _ hget rfl)
        have c2 : wr.cell? ⟨g, k * 5 + 2, none⟩ = some (.int .i64 bm) := (hB.cell (p := ⟨g, k * 5 + 2, none⟩) hg).trans (hc k 2 _ _ hget rfl)
        have c3 : wr.cell? ⟨g, k * 5 + 3, none⟩ = some (.string bs) := (hB.cell (p := ⟨g, k * 5 + 3, none⟩) hg).trans (hc k 3 _ _ hget rfl)
        have c4 : wr.cell? ⟨g, k * 5 + 4, none⟩ = some (.bool brd) := (hB.cell (p := ⟨g, k * 5 + 4, none⟩) hg).trans (hc k 4 _ _ hget rfl)
        have hx' : wr.cell? bx = some (.string name) := (hB.cell hb).trans hx
        have hb' : bx.block < wr.heap.size := Nat.lt_of_lt_of_le hb hB.size
        have HG := Lib.hid hget
        have HO := Lib.hid hno
        clear hget hno hc hx hlen
        by_cases hq : sameS bn name = true
        · go_wp2_with (go_at_call 83; refine (findClosure _ bx name bn bs bk bm brd hx' hb').mono ?_; rintro e w1 ⟨rfl, hB1⟩)
          go_ret
          exact ⟨by rw [findIdx?_some_of HO.out HG.out hq]; rfl, hB.trans (hB1.mono (hB.size))⟩
        · go_wp2_with (go_at_call 83; refine (findClosure _ bx name bn bs bk bm brd hx' hb').mono ?_; rintro e w1 ⟨rfl, hB1⟩)
          go_roundw
          case rel =>
            refine ⟨k + 1, by go_num, by omega, fun j a hj ha => ?_, hB.trans (hB1.mono hB.size)⟩
            by_cases hjk : j = k
            · subst hjk
              have := HG.out.symm.trans ha
              simp only [Option.some.injEq] at this
              subst this
              simpa [LProp.is] using hq
            · exact HO.out j a (by omega) ha
          case measure => simp [intOf]; omega
      · have hkn : k = n := by omega
        subst hkn
        have HO := Lib.hid hno
        clear hno hlen hc
        go_wp2
        go_ret
        exact ⟨by rw [findIdx?_none_of (by rw [← HN.out]; exact HO.out)]; rfl, hB⟩

section
variable {ρ : Nat → Option Role} {w : World} {hb ho : Nat} {L : HL} {H : LHeap}

/-- what a search by name comes to -/
def ptrOpt (v : Value) (size : Nat) : Option Nat → Option Addr
  | some k => v.ownBlock.map fun g => ⟨g, k * size, none⟩
  | none => none

set_option maxHeartbeats 400000 in
theorem bind_any (h : HeapAt ρ w hb ho L H) (i : Nat) (s : LScope) (hi : H.scopes[i]? = some s) (name : ByteArray) :
    Calls Tryd.prog 55 #[.pointer (some ⟨L.sb i, 0, none⟩), .string name] w fun e w' => e = .returned (.pointer (ptrOpt (L.nv i) 6 (s.idx name))) ∧ Below w.heap.size w w' := by
  obtain ⟨hblk, hown⟩ := h.scp i s hi
  have hlt : L.sb i < w.heap.size := (Array.getElem?_eq_some_iff.1 hblk).1
  have hc2 : w.cell? ⟨L.sb i, 2, none⟩ = some (L.nv i) := by simp [World.cell?, hblk]
  have hown' := hown.alloc (.cells #[.string name] 9)
  have HC := indexB (w.alloc (.cells #[.string name] 9)) ⟨w.heap.size, 0, none⟩ name (by simp) (by simp) _ s.names hown'
  clear h hblk hi
  rcases hidx : s.idx name with _ | k
  · have hix : s.names.findIdx? (LBind.is name) = none := hidx
    rw [hix] at HC
    have HV := Lib.hid HC
    have HO := Lib.hid hown
    clear hidx hix hown hown' HC
    generalize L.nv i = v at *
    rcases ownsRow_cases HO.out with ⟨hv, hz⟩ | ⟨g, c, hv, h1, h2, hg⟩
    all_goals
      subst hv
      try unfold maxLen at h2
      go_enter Tryd.func55, Tryd.ntmps55
      go_wp2_with fail
      refine HV.out.mono ?_
      rintro e w1 ⟨rfl, hB⟩
      have hB' := Lib.hid hB
      clear hB
      simp only [optI]
      go_wp2
      go_ret
      exact ⟨rfl, ((Below.refl _ _).alloc (Nat.le_refl _) _).trans (hB'.out.mono (by simp))⟩
  · have hix : s.names.findIdx? (LBind.is name) = some k := hidx
    have hkl : k < s.names.length := (List.findIdx?_eq_some_iff_getElem.1 hix).1
    rw [hix] at HC
    have HV := Lib.hid HC
    rcases ownsRow_cases hown with ⟨hv, hz⟩ | ⟨g, c, hv, h1, h2, hg⟩
    · omega
    rw [hv] at hc2 HV
    have HN := Lib.hid hv
    clear hidx hix hown hown' HC hv
    unfold maxLen at h2
    go_enter Tryd.func55, Tryd.ntmps55
    go_wp2_with fail
    refine HV.out.mono ?_
    rintro e w1 ⟨rfl, hB⟩
    have hc2' : w1.cell? ⟨L.sb i, 2, none⟩ = some (.slice (some ⟨g, 0, none⟩) s.names.length c) := (hB.cell (p := ⟨L.sb i, 2, none⟩) (by simp; omega)).trans ((cell_old hlt).trans hc2)
    have hB' := Lib.hid hB
    clear hB
    simp only [optI]
    go_wp2
    go_ret
    exact ⟨by rw [HN.out]; rfl, ((Below.refl _ _).alloc (Nat.le_refl _) _).trans (hB'.out.mono (by simp))⟩

set_option maxHeartbeats 400000 in
theorem find_any (h : HeapAt ρ w hb ho L H) (i : Nat) (s : LObj) (hi : H.objects[i]? = some s) (name : ByteArray) :
    Calls Tryd.prog 50 #[.pointer (some ⟨L.ob i, 0, none⟩), .string name] w fun e w' => e = .returned (.int .i64 (optI (s.idx name))) ∧ Below w.heap.size w w' := by
  obtain ⟨hblk, hown⟩ := h.obj i s hi
  have hlt : L.ob i < w.heap.size := (Array.getElem?_eq_some_iff.1 hblk).1
  have hc2 : w.cell? ⟨L.ob i, 0, none⟩ = some (L.pv i) := by simp [World.cell?, hblk]
  have hown' := hown.alloc (.cells #[.string name] 9)
  have HC := indexP (w.alloc (.cells #[.string name] 9)) ⟨w.heap.size, 0, none⟩ name (by simp) (by simp) _ s.props hown'
  have HV := Lib.hid HC
  have hsh := ownsRow_cases hown
  clear h hblk hi HC hown' hown
  generalize L.pv i = v at *
  rcases hsh with ⟨hv, hz⟩ | ⟨g, c, hv, h1, h2, hg⟩
  all_goals
    subst hv
    go_enter Tryd.func50, Tryd.ntmps50
    go_wp2_with fail
    refine HV.out.mono ?_
    rintro e w1 ⟨rfl, hB⟩
    have hB' := Lib.hid hB
    clear hB
    go_wp2
    go_ret
    exact ⟨rfl, ((Below.refl _ _).alloc (Nat.le_refl _) _).trans (hB'.out.mono (by simp))⟩
end
end Go.Proofs.YtgifgiipojedbaaDoor
