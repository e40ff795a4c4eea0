/- Walks of package heap that change it: slices.DeleteFunc over bindings. -/
import Derived.Test.YtgoaljfhciimhaaDoorHeapW
namespace Go.Proofs.YtgoaljfhciimhaaDoor
open Go Go.RowKit
set_option maxRecDepth 100000

set_option maxHeartbeats 400000 in
theorem dropClosure (w : World) (bx : Addr) (name n s : ByteArray) (k m kd : Int) (rd : Bool) (hx : w.cell? bx = some (.string name)) (hb : bx.block < w.heap.size) :
    Calls Tryd.prog 90 #[.agg #[.string n, .int .i64 k, .int .i64 m, .string s, .int .i64 kd, .bool rd], .pointer (some bx)] w fun e w' => e = .returned (.bool (sameS n name)) ∧ Below w.heap.size w w' := by
  go_enter Tryd.func90, Tryd.ntmps90
  go_wp2
  go_ret
  exact ⟨by rw [← toList_beq]; rfl, (Below.refl _ _).alloc (Nat.le_refl _) _⟩

set_option maxHeartbeats 400000 in
theorem indexD (w : World) (bx : Addr) (name : ByteArray) (hx : w.cell? bx = some (.string name)) (hb : bx.block < w.heap.size) (v : Value) (l : List LBind)
    (hown : w.ownsRow 0 124 6 v l.length (l.flatMap LBind.cells)) :
    Calls Tryd.prog 114 #[v, .func (.func 90) #[] #[.pointer (some bx)]] w fun e w' => e = .returned (.int .i64 (optI (l.findIdx? (LBind.is name)))) ∧ Below w.heap.size w w' := by
  have hrow := fun g hg i j a x => row_cell (f := LBind.cells) (m := 6) (fun _ => rfl) hown (g := g) hg (i := i) (j := j) (a := a) (x := x)
  rcases ownsRow_cases hown with ⟨hv, hz⟩ | ⟨g, c, hv, h1, h2, hg⟩
  · subst hv
    have : l = [] := List.eq_nil_of_length_eq_zero hz
    subst this
    clear hown hrow hz
    go_enter Tryd.func114, Tryd.ntmps114
    go_wp2
    go_loop [8] (fun i => i = .int .i64 0) (fun _ => 0)
    case atStart => rfl
    case round =>
      subst hrel
      go_wp2
      go_ret
      exact ⟨rfl, Below.refl _ _⟩
  · subst hv
    have hc := hrow g rfl
    clear hown hrow
    obtain ⟨n, hn⟩ : ∃ n, n = l.length := ⟨_, rfl⟩
    rw [← hn] at h1 ⊢
    unfold maxLen at h2
    have HN := Lib.hid hn
    clear hn
    go_enter Tryd.func114, Tryd.ntmps114
    go_wp2
    go_loopw [5, 8] (fun _ i wr => ∃ k : Nat, i = .int .i64 k ∧ k ≤ n ∧ (∀ j a, j < k → l[j]? = some a → LBind.is name a = false) ∧ Below w.heap.size w wr) (fun _ i _ => n - (intOf i).toNat)
    case atStart => exact ⟨0, rfl, by omega, fun j a hj => by omega, Below.refl _ _⟩
    case round =>
      obtain ⟨k, rfl, hk, hno, hB⟩ := hrel
      have hlen : n = l.length := HN.out
      by_cases hlt : k < n
      · have hkl : k < l.length := by omega
        have hget : l[k]? = some l[k] := List.getElem?_eq_getElem hkl
        generalize l[k] = b at hget
        obtain ⟨bn, ⟨bk, bm, bs⟩, bkd, brd⟩ := b
        have c0 : wr.cell? ⟨g, k * 6, none⟩ = some (.string bn) := (hB.cell (p := ⟨g, k * 6, none⟩) hg).trans (hc k 0 _ _ hget rfl)
        have c1 : wr.cell? ⟨g, k * 6 + 1, none⟩ = some (.int .i64 bk) := (hB.cell (p := ⟨g, k * 6 + 1, none⟩) hg).trans (hc k 1 _ _ hget rfl)
        have c2 : wr.cell? ⟨g, k * 6 + 2, none⟩ = some (.int .i64 bm) := (hB.cell (p := ⟨g, k * 6 + 2, none⟩) hg).trans (hc k 2 _ _ hget rfl)
        have c3 : wr.cell? ⟨g, k * 6 + 3, none⟩ = some (.string bs) := (hB.cell (p := ⟨g, k * 6 + 3, none⟩) hg).trans (hc k 3 _ _ hget rfl)
        have c4 : wr.cell? ⟨g, k * 6 + 4, none⟩ = some (.int .i64 bkd) := (hB.cell (p := ⟨g, k * 6 + 4, none⟩) hg).trans (hc k 4 _ _ hget rfl)
        have c5 : wr.cell? ⟨g, k * 6 + 5, none⟩ = some (.bool brd) := (hB.cell (p := ⟨g, k * 6 + 5, none⟩) hg).trans (hc k 5 _ _ hget rfl)
        have hx' : wr.cell? bx = some (.string name) := (hB.cell hb).trans hx
        have hb' : bx.block < wr.heap.size := Nat.lt_of_lt_of_le hb hB.size
        have HG := Lib.hid hget
        have HO := Lib.hid hno
        clear hget hno hc hx hlen
        by_cases hq : sameS bn name = true
        · go_wp2_with (go_at_call 90; refine (dropClosure _ bx name bn bs bk bm bkd brd hx' hb').mono ?_; rintro e w1 ⟨rfl, hB1⟩)
          go_ret
          exact ⟨by rw [findIdx?_some_of HO.out HG.out hq]; rfl, hB.trans (hB1.mono (hB.size))⟩
        · go_wp2_with (go_at_call 90; refine (dropClosure _ bx name bn bs bk bm bkd brd hx' hb').mono ?_; rintro e w1 ⟨rfl, hB1⟩)
          go_roundw
          case rel =>
            refine ⟨k + 1, by go_num, by omega, fun j a hj ha => ?_, hB.trans (hB1.mono hB.size)⟩
            by_cases hjk : j = k
            · subst hjk
              have := HG.out.symm.trans ha
              simp only [Option.some.injEq] at this
              subst this
              simpa [LBind.is] using hq
            · exact HO.out j a (by omega) ha
          case measure => simp [intOf]; omega
      · have hkn : k = n := by omega
        subst hkn
        have HO := Lib.hid hno
        clear hno hlen hc
        go_wp2
        go_ret
        exact ⟨by rw [findIdx?_none_of (by rw [← HN.out]; exact HO.out)]; rfl, hB⟩


theorem row_store6 {w : World} {base : Nat} {e : TypeId} {g cap n : Nat} {l : List LBind} (h : w.ownsRow base e 6 (.slice (some ⟨g, 0, none⟩) n cap) n (l.flatMap LBind.cells)) {k : Nat} (hk : k < l.length) (b : LBind) :
    ((((((w.setCell ⟨g, k * 6, none⟩ (.string b.name)).setCell ⟨g, k * 6 + 1, none⟩ (.int .i64 b.v.kind)).setCell ⟨g, k * 6 + 2, none⟩ (.int .i64 b.v.n)).setCell ⟨g, k * 6 + 3, none⟩ (.string b.v.s)).setCell ⟨g, k * 6 + 4, none⟩ (.int .i64 b.kind)).setCell ⟨g, k * 6 + 5, none⟩ (.bool b.ready)).ownsRow base e 6 (.slice (some ⟨g, 0, none⟩) n cap) n ((l.set k b).flatMap LBind.cells) := by
  have h3 := ((((((((((h.stored (k * 6) (.string b.name)).1.stored (k * 6 + 1) (.int .i64 b.v.kind)).1).stored (k * 6 + 2) (.int .i64 b.v.n)).1).stored (k * 6 + 3) (.string b.v.s)).1).stored (k * 6 + 4) (.int .i64 b.kind)).1).stored (k * 6 + 5) (.bool b.ready)).1
  have : (l.set k b).flatMap LBind.cells = ((((((l.flatMap LBind.cells).set (k * 6) (.string b.name)).set (k * 6 + 1) (.int .i64 b.v.kind)).set (k * 6 + 2) (.int .i64 b.v.n)).set (k * 6 + 3) (.string b.v.s)).set (k * 6 + 4) (.int .i64 b.kind)).set (k * 6 + 5) (.bool b.ready) := by
    clear h h3
    induction l generalizing k with
    | nil => simp at hk
    | cons c l ih =>
      cases k with
      | zero =>
        simp only [List.set_cons_zero, List.flatMap_cons, Nat.zero_mul, Nat.zero_add]
        rfl
      | succ k =>
        simp only [List.set_cons_succ, List.flatMap_cons]
        have e : (k + 1) * 6 = (LBind.cells c).length + k * 6 := by simp [LBind.cells]; omega
        rw [e]
        simp only [Nat.add_assoc]
        rw [List.set_append_right _ _ (by omega), List.set_append_right _ _ (by omega), List.set_append_right _ _ (by omega), List.set_append_right _ _ (by omega), List.set_append_right _ _ (by omega), List.set_append_right _ _ (by omega)]
        simp only [Nat.add_sub_cancel_left]
        rw [ih (by simpa using hk)]
  rw [this]
  exact h3

theorem grow_set {w0 w : World} {g o : Nat} (hg : w0.grownBy w (some g)) (a : Value) : w0.grownBy (w.setCell ⟨g, o, none⟩ a) (some g) :=
  ⟨hg.os, hg.tape, hg.output, by rw [World.size_setCell]; exact hg.size, fun b hb hne => (Below.heap_setCell _ _ _ _ (fun e => hne (by rw [e]))).trans (hg.block b hb hne)⟩
theorem grow_store6 {w0 w : World} {g : Nat} (hg : w0.grownBy w (some g)) (k : Nat) (a b c d e f : Value) :
    w0.grownBy ((((((w.setCell ⟨g, k, none⟩ a).setCell ⟨g, k + 1, none⟩ b).setCell ⟨g, k + 2, none⟩ c).setCell ⟨g, k + 3, none⟩ d).setCell ⟨g, k + 4, none⟩ e).setCell ⟨g, k + 5, none⟩ f) (some g) :=
  grow_set (grow_set (grow_set (grow_set (grow_set (grow_set hg a) b) c) d) e) f

theorem grow_below {w0 w w' : World} {row : Option Nat} (hg : w0.grownBy w row) (hB : Below w.heap.size w w') : w0.grownBy w' row :=
  ⟨hB.os.trans hg.os, hB.tape.trans hg.tape, hB.output.trans hg.output, Nat.le_trans hg.size hB.size, fun b hb hne => (hB.block b (Nat.lt_of_lt_of_le hb hg.size)).trans (hg.block b hb hne)⟩
theorem grow_refl (w : World) (row : Option Nat) : w.grownBy w row := ⟨rfl, rfl, rfl, Nat.le_refl _, fun _ _ _ => rfl⟩

theorem flatMap_take {α : Type} {f : α → List Value} {m : Nat} (hf : ∀ a, (f a).length = m) (l : List α) (i : Nat) : (l.take i).flatMap f = (l.flatMap f).take (i * m) := by
  induction l generalizing i with
  | nil => simp
  | cons a l ih =>
    cases i with
    | zero => simp
    | succ i =>
      simp only [List.take_succ_cons, List.flatMap_cons]
      rw [ih, show (i + 1) * m = (f a).length + i * m by rw [hf, Nat.succ_mul]; omega, List.take_length_add_append]

/-- clear(s[i:]) -/
theorem clear_own {P : Program} {w : World} {e t : TypeId} {m : Nat} {g cap : Nat} {α : Type} {f : α → List Value} {l : List α} (hf : ∀ a, (f a).length = m) (hm : 0 < m) (z : Value) (ht : P.underlying t = some (.slice e)) (hz : ∀ w, (zeroValue e).run P w = .ok z w) (hzs : z.cells.size = m)
    (h1 : ∀ v ∈ z.cells.toList, v.oneCell' = true) (h : w.ownsRow 0 e m (.slice (some ⟨g, 0, none⟩) l.length cap) l.length (l.flatMap f)) {i : Nat} (hi : i < l.length) (ty : TypeId) :
    ∃ w', (Builtin.clear_ #[t] ty #[.slice (some ⟨g, i * m, none⟩) (l.length - i) (cap - i)]).run P w = .ok (.tuple #[]) w' ∧ w'.ownsRow 0 e m (.slice (some ⟨g, 0, none⟩) i cap) i ((l.take i).flatMap f) ∧ w.grownBy w' (some g) := by
  rcases h.2 with ⟨h', _⟩ | ⟨g', cap', cur, h', hb, hg, hnc, hcm, hcs, htake⟩
  · simp at h'
  simp only [Value.slice.injEq, Option.some.injEq, Addr.mk.injEq, and_true, true_and] at h'
  obtain ⟨rfl, rfl⟩ := h'
  have hzl : (Builtin.zeroCells z.cells (l.length - i)).toList.length = (l.length - i) * m := by rw [Array.length_toList, size_zeroCells, hzs]
  have hmul : l.length * m ≤ cap * m := Nat.mul_le_mul_right _ hnc
  have hsub : (l.length - i) * m = l.length * m - i * m := Nat.sub_mul ..
  have hile : i * m ≤ l.length * m := Nat.mul_le_mul_right _ (by omega)
  have hst := run_storeCells_at P g (i * m) e (Builtin.zeroCells z.cells (l.length - i)).toList 0 cur w hg (by rw [hzl, hcs]; omega) (by
    intro v hv
    simp only [Builtin.zeroCells] at hv
    obtain ⟨k, hk, rfl⟩ := List.getElem_of_mem hv
    simp only [Array.getElem_toList]
    rcases Nat.lt_or_ge (k % z.cells.size) z.cells.size with h' | h'
    · exact h1 _ (by simp [h'])
    · rw [hzs] at h'; exact absurd (Nat.mod_lt k hm) (by omega))
  have hpos : ∃ d, l.length - i = d + 1 := ⟨l.length - i - 1, by omega⟩
  obtain ⟨d, hd⟩ := hpos
  refine ⟨w.setRow g (cur.toList.take (i * m + 0) ++ (Builtin.zeroCells z.cells (l.length - i)).toList ++ cur.toList.drop (i * m + 0 + (Builtin.zeroCells z.cells (l.length - i)).toList.length)).toArray, ?_, ?_, ?_⟩
  · rw [hd] at hst ⊢
    simp [Builtin.clear_, run_underlying ht, hz, hst]
  · refine ⟨by rw [flatMap_len hf, List.length_take]; congr 1; omega, .inr ⟨g, cap, _, rfl, Nat.zero_le _, setRow_heap w g cur _ e (0, 0) hg, by omega, hcm, ?_, ?_⟩⟩
    · simp only [Nat.add_zero, List.size_toArray, List.length_append, List.length_take, List.length_drop, Array.length_toList, hcs]
      rw [← Array.length_toList, hzl]
      omega
    · simp only [Nat.add_zero, List.append_assoc]
      rw [List.take_append_of_le_length (by simp only [List.length_take, Array.length_toList, hcs]; omega), List.take_take, Nat.min_self]
      have e1 := flatMap_take hf l i
      rw [e1, ← htake, List.take_take, Nat.min_eq_left hile]
  · exact ⟨rfl, rfl, rfl, by simp, fun k hk hne => setRow_other w g k _ (fun e => hne (by rw [e]))⟩

def unnamed (name : ByteArray) (l : List LBind) : List LBind := l.filter fun b => !LBind.is name b

theorem zeroBind (w : World) : (zeroValue 124).run Tryd.prog w = .ok (.agg #[.string ⟨#[]⟩, .int .i64 0, .int .i64 0, .string ⟨#[]⟩, .int .i64 0, .bool false]) w := by kernel_rfl

theorem unnamed_take_succ {name : ByteArray} {l : List LBind} {j : Nat} {b : LBind} (h : l[j]? = some b) : unnamed name (l.take (j + 1)) = unnamed name (l.take j) ++ (if LBind.is name b then [] else [b]) := by
  unfold unnamed
  rw [List.take_add_one, h, Option.toList_some, List.filter_append]
  congr 1
  by_cases hb : LBind.is name b = true <;> simp [hb]

theorem unnamed_none {name : ByteArray} {l : List LBind} (h : ∀ (j : Nat) b, l[j]? = some b → LBind.is name b = false) : unnamed name l = l := by
  unfold unnamed
  rw [List.filter_eq_self]
  intro b hb
  obtain ⟨j, hj, rfl⟩ := List.getElem_of_mem hb
  rw [h j _ (List.getElem?_eq_getElem hj)]
  rfl

set_option maxHeartbeats 1600000 in
theorem deleteFunc_any (w : World) (bx : Addr) (name : ByteArray) (hx : w.cell? bx = some (.string name)) (hb : bx.block < w.heap.size) (v : Value) (l : List LBind) (hbx : v.ownBlock ≠ some bx.block)
    (hown : w.ownsRow 0 124 6 v l.length (l.flatMap LBind.cells)) :
    Calls Tryd.prog 89 #[v, .func (.func 90) #[] #[.pointer (some bx)]] w fun e w' => ∃ v', e = .returned v' ∧ w'.ownsRow 0 124 6 v' (unnamed name l).length ((unnamed name l).flatMap LBind.cells) ∧ w.grownBy w' v.ownBlock ∧ v'.ownBlock = v.ownBlock := by
  have HI := Lib.hid (indexD w bx name hx hb v l hown)
  rcases hidx : l.findIdx? (LBind.is name) with _ | k0
  · rw [hidx] at HI
    have hall : unnamed name l = l := by
      have := List.findIdx?_eq_none_iff.1 hidx
      exact unnamed_none fun j b hj => this b (List.mem_of_getElem? hj)
    rw [hall]
    have HO := Lib.hid hown
    clear hown hall hidx hx
    go_enter Tryd.func89, Tryd.ntmps89
    go_wp2_with fail
    refine HI.out.mono ?_
    rintro e w1 ⟨rfl, hB⟩
    simp only [optI]
    have HB := Lib.hid hB
    clear hB
    go_wp2
    go_ret
    exact ⟨v, rfl, ownsRow_block HO.out fun g hg => HB.out.block g (HO.out.lt g hg).2, grow_below (grow_refl w v.ownBlock) HB.out, rfl⟩
  · rw [hidx] at HI
    obtain ⟨hk0, hisk, hbefore⟩ := List.findIdx?_eq_some_iff_getElem.1 hidx
    rcases ownsRow_cases hown with ⟨rfl, hz⟩ | ⟨g, c, rfl, h1, h2, hg⟩
    · omega
    unfold maxLen at h2
    have hgb : g ≠ bx.block := fun e => hbx (by rw [← e]; rfl)
    obtain ⟨n, hn⟩ : ∃ n, n = l.length := ⟨_, rfl⟩
    rw [← hn] at h1 hown HI ⊢
    have hk0n : k0 < n := by omega
    have hun0 : unnamed name (l.take k0) = l.take k0 := unnamed_none fun j b hj => by
      have hjk : j < k0 := by have := getElem?_lt hj; simp at this; omega
      rw [List.getElem?_take, if_pos hjk] at hj
      obtain ⟨hjl, rfl⟩ := List.getElem?_eq_some_iff.1 hj
      simpa using hbefore j hjk
    have hun1 : unnamed name (l.take (k0 + 1)) = l.take k0 := by
      rw [unnamed_take_succ (List.getElem?_eq_getElem hk0), hun0, if_pos hisk, List.append_nil]
    have HN := Lib.hid hn
    have HO := Lib.hid hown
    have HU := Lib.hid hun1
    clear hown hidx hisk hbefore hun0 hun1 hbx hn
    have hne1 : ((k0 : Int) == -1) = false := beq_eq_false_iff_ne.2 (by omega)
    go_enter Tryd.func89, Tryd.ntmps89
    go_wp2_with fail
    refine HI.out.mono ?_
    rintro e w1 ⟨rfl, hB⟩
    simp only [optI]
    have HB := Lib.hid hB
    clear hB
    go_wp2_with fail
    go_loopw [5, 6, 7] (fun a b _ wr => ∃ (i j : Nat) (M : List LBind), a = .int .i64 i ∧ b = .int .i64 j ∧ i < j ∧ j ≤ n ∧ M.length = n ∧ M.take i = unnamed name (l.take j) ∧ M.drop j = l.drop j ∧ wr.ownsRow 0 124 6 (.slice (some ⟨g, 0, none⟩) n c) n (M.flatMap LBind.cells) ∧ w.grownBy wr (some g)) (fun _ b _ _ => n - (intOf b).toNat)
    case atStart =>
      refine ⟨k0, k0 + 1, l, by go_num, by go_num, by omega, by omega, HN.out.symm, HU.out.symm, rfl, ?_, grow_below (grow_refl w _) HB.out⟩
      exact ownsRow_block HO.out fun g' hg' => HB.out.block g' (HO.out.lt g' hg').2
    case round =>
      obtain ⟨i, j, M, rfl, rfl, hij, hjn, hM, hMt, hMd, hown, hgr⟩ := hrel
      have hlen : n = l.length := HN.out
      have hxr : wr.cell? bx = some (.string name) := (World.cell?_of_block (hgr.block bx.block hb (fun e => hgb (Option.some.inj e).symm))).trans hx
      have hbr : bx.block < wr.heap.size := Nat.lt_of_lt_of_le hb hgr.size
      have hgl : g < wr.heap.size := Nat.lt_of_lt_of_le hg hgr.size
      by_cases hlt : j < n
      · have hjM : M[j]? = l[j]? := by
          have := congrArg (fun x : List LBind => x[0]?) hMd
          simpa using this
        have hgetl : l[j]? = some l[j] := List.getElem?_eq_getElem (by omega)
        have hgetM := hjM.trans hgetl
        have hdj : M.drop (j + 1) = l.drop (j + 1) := by
          have := congrArg (List.drop 1) hMd
          simpa using this
        generalize l[j] = b at hgetl hgetM
        have hMi : M[i]? = some M[i] := List.getElem?_eq_getElem (by omega)
        generalize M[i] = bi at hMi
        obtain ⟨bn, ⟨bk, bm, bs⟩, bkd, brd⟩ := b
        have hrow := fun k x j' b (hb' : M[k]? = some b) => row_cell (f := LBind.cells) (m := 6) (fun _ => rfl) hown (g := g) rfl (i := k) (j := j') (x := x) hb'
        have c0 : wr.cell? ⟨g, j * 6, none⟩ = some (.string bn) := hrow j (.string bn) 0 _ hgetM rfl
        have c1 := hrow j (.int .i64 bk) 1 _ hgetM rfl
        have c2 := hrow j (.int .i64 bm) 2 _ hgetM rfl
        have c3 := hrow j (.string bs) 3 _ hgetM rfl
        have c4 := hrow j (.int .i64 bkd) 4 _ hgetM rfl
        have c5 := hrow j (.bool brd) 5 _ hgetM rfl
        have hx2 : (wr.alloc (.cells #[.string bn, .int .i64 bk, .int .i64 bm, .string bs, .int .i64 bkd, .bool brd] 124)).cell? bx = some (.string name) := (cell_old hbr).trans hxr
        have hC := dropClosure _ bx name bn bs bk bm bkd brd hx2 (by simp; omega)
        have HO2 := Lib.hid hown
        have HG2 := Lib.hid hgr
        have HgM := Lib.hid hgetM
        have Hgl := Lib.hid hgetl
        have Hdj := Lib.hid hdj
        have Htk := Lib.hid hMt
        have HMl := Lib.hid hM
        have HMi := Lib.hid hMi
        by_cases hq : sameS bn name = true
        · rw [hq] at hC
          have HC := Lib.hid hC
          clear hown hgr hgetM hgetl hdj hMt hM hMi hMd hjM hrow hC hx2 hlen
          go_wp2_with fail
          refine HC.out.mono ?_
          rintro e w1 ⟨rfl, hB⟩
          have HB1 := Lib.hid (below_old hB)
          clear hB
          go_wp2
          go_roundw
          case rel =>
            refine ⟨i, j + 1, M, rfl, by go_num, by omega, by omega, HMl.out, ?_, Hdj.out, ?_, grow_below HG2.out HB1.out⟩
            · rw [unnamed_take_succ Hgl.out, Htk.out, if_pos (show LBind.is name ⟨bn, ⟨bk, bm, bs⟩, bkd, brd⟩ = true from hq), List.append_nil]
            · exact ownsRow_block HO2.out fun g' hg' => HB1.out.block g' (HO2.out.lt g' hg').2
          case measure => simp [intOf]; omega
        · have hq' : sameS bn name = false := by simpa using hq
          rw [hq'] at hC
          have HC := Lib.hid hC
          have HR := Lib.hid hrow
          clear hown hgr hgetM hgetl hdj hMt hM hMi hMd hjM hrow hC hx2 hlen
          go_wp2_with fail
          refine HC.out.mono ?_
          rintro e w1 ⟨rfl, hB⟩
          have q0 := below_newcell hB 0 (.string bn) rfl
          have q1 := below_newcell hB 1 (.int .i64 bk) rfl
          have q2 := below_newcell hB 2 (.int .i64 bm) rfl
          have q3 := below_newcell hB 3 (.string bs) rfl
          have q4 := below_newcell hB 4 (.int .i64 bkd) rfl
          have q5 := below_newcell hB 5 (.bool brd) rfl
          have hB1 := below_old hB
          have hown1 : w1.ownsRow 0 124 6 (.slice (some ⟨g, 0, none⟩) n c) n (M.flatMap LBind.cells) := ownsRow_block HO2.out fun g' hg' => hB1.block g' (HO2.out.lt g' hg').2
          have hrow1 := fun x j' => row_cell (f := LBind.cells) (m := 6) (fun _ => rfl) hown1 (g := g) rfl (i := i) (j := j') (x := x) HMi.out
          have e0 : w1.cell? ⟨g, i * 6, none⟩ = some (.string bi.name) := hrow1 _ 0 rfl
          have e1 := hrow1 _ 1 rfl
          have e2 := hrow1 _ 2 rfl
          have e3 := hrow1 _ 3 rfl
          have e4 := hrow1 _ 4 rfl
          have e5 := hrow1 _ 5 rfl
          have f0 := ownsRow_frozen hown1 (g := g) rfl (i * 6)
          have f1 := ownsRow_frozen hown1 (g := g) rfl (i * 6 + 1)
          have f2 := ownsRow_frozen hown1 (g := g) rfl (i * 6 + 2)
          have f3 := ownsRow_frozen hown1 (g := g) rfl (i * 6 + 3)
          have f4 := ownsRow_frozen hown1 (g := g) rfl (i * 6 + 4)
          have f5 := ownsRow_frozen hown1 (g := g) rfl (i * 6 + 5)
          have HB1 := Lib.hid hB1
          have HO1 := Lib.hid hown1
          clear hB hB1 hown1 hrow1 c0 c1 c2 c3 c4 c5 hxr hx
          have hin : i < n := by omega
          go_wp2
          go_roundw
          case rel =>
            refine ⟨i + 1, j + 1, M.set i ⟨bn, ⟨bk, bm, bs⟩, bkd, brd⟩, by go_num, by go_num, by omega, by omega, by simp [HMl.out], ?_, ?_, ?_, ?_⟩
            · rw [unnamed_take_succ Hgl.out, if_neg (show ¬ LBind.is name ⟨bn, ⟨bk, bm, bs⟩, bkd, brd⟩ = true from hq), ← Htk.out, List.take_add_one, List.getElem?_set_self (by rw [HMl.out]; omega), List.take_set_of_le (Nat.le_refl _)]
              rfl
            · rw [List.drop_set_of_lt (by omega)]; exact Hdj.out
            · exact row_store6 HO1.out (by rw [HMl.out]; omega) ⟨bn, ⟨bk, bm, bs⟩, bkd, brd⟩
            · exact grow_store6 (grow_below HG2.out HB1.out) _ _ _ _ _ _ _
          case measure => simp [intOf]; omega
      · have hjn' : j = n := by omega
        subst hjn'
        have hcl := clear_own (P := Tryd.prog) (f := LBind.cells) (m := 6) (l := M) (t := 118) (g := g) (cap := c) (w := wr) (fun _ => rfl) (by decide) _ Tryd.underlying118 zeroBind rfl (by intro v hv; simp [Value.cells] at hv; rcases hv with rfl | rfl | rfl | rfl | rfl <;> rfl) (by rw [hM]; exact hown) (i := i) (by omega) 0
        rw [hM] at hcl
        obtain ⟨w2, hrun, hown2, hgr2⟩ := hcl
        have hMu : M.take i = unnamed name l := by rw [hMt, List.take_of_length_le (by omega)]
        have hMl : (unnamed name l).length = i := by rw [← hMu, List.length_take]; omega
        rw [hMu] at hown2
        have HO2 := Lib.hid hown2
        have HG2 := Lib.hid (show w.grownBy w2 (some g) from ⟨hgr2.os.trans hgr.os, hgr2.tape.trans hgr.tape, hgr2.output.trans hgr.output, Nat.le_trans hgr.size hgr2.size, fun b h1 h2 => (hgr2.block b (Nat.lt_of_lt_of_le h1 hgr.size) h2).trans (hgr.block b h1 h2)⟩)
        have HMl := Lib.hid hMl
        clear hown hgr hMt hM hMd hown2 hgr2 hMu hMl hlen hx hxr
        have hic : i < c := by omega
        go_wp2
        go_ret
        exact ⟨_, rfl, by rw [HMl.out]; exact HO2.out, HG2.out, rfl⟩
end Go.Proofs.YtgoaljfhciimhaaDoor
