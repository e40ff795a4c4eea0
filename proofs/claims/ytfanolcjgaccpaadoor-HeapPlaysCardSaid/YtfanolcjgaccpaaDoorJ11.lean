/- Walks of package heap that change it: slices.DeleteFunc over bindings. Walks of package heap that change it: slices.Delete over properties, Cut. -/
import Derived.Test.YtfanolcjgaccpaaDoorJ10
namespace Go.Proofs.YtfanolcjgaccpaaDoor
open Go Go.RowKit
set_option maxRecDepth 100000

set_option maxHeartbeats 400000 in
theorem dropClosure (w : World) (bx : Addr) (name n s : ByteArray) (k m kd : Int) (rd : Bool) (hx : w.cell? bx = some (.string name)) (hb : bx.block < w.heap.size) :
    Calls Tryd.prog 48 #[.agg #[.string n, .int .i64 k, .int .i64 m, .string s, .int .i64 kd, .bool rd], .pointer (some bx)] w fun e w' => e = .returned (.bool (sameS n name)) ∧ Below w.heap.size w w' := by
  go_enter Tryd.func48, Tryd.ntmps48
  go_wp2
  go_ret
  exact ⟨by rw [← toList_beq]; rfl, (Below.refl _ _).alloc (Nat.le_refl _) _⟩

set_option maxHeartbeats 400000 in
theorem indexD (w : World) (bx : Addr) (name : ByteArray) (hx : w.cell? bx = some (.string name)) (hb : bx.block < w.heap.size) (v : Value) (l : List LBind)
    (hown : w.ownsRow 0 96 6 v l.length (l.flatMap LBind.cells)) :
    Calls Tryd.prog 55 #[v, .func (.func 48) #[] #[.pointer (some bx)]] w fun e w' => e = .returned (.int .i64 (optI (l.findIdx? (LBind.is name)))) ∧ Below w.heap.size w w' := by
  have hrow := fun g hg i j a x => row_cell (f := LBind.cells) (m := 6) (fun _ => rfl) hown (g := g) hg (i := i) (j := j) (a := a) (x := x)
  rcases ownsRow_cases hown with ⟨hv, hz⟩ | ⟨g, c, hv, h1, h2, hg⟩
  · subst hv
    have : l = [] := List.eq_nil_of_length_eq_zero hz
    subst this
    clear hown hrow hz
    go_enter Tryd.func55, Tryd.ntmps55
    go_wp2
    go_loop [8] (fun i => i = .int .i64 0) (fun _ => 0)
    case atStart => rfl
    case round =>
      subst hrel
      go_wp2
      go_ret
      exact ⟨rfl, Below.refl _ _⟩
  · subst hv
    have hc := hrow g rfl
    clear hown hrow
    obtain ⟨n, hn⟩ : ∃ n, n = l.length := ⟨_, rfl⟩
    rw [← hn] at h1 ⊢
    unfold maxLen at h2
    have HN := Lib.hid hn
    clear hn
    go_enter Tryd.func55, Tryd.ntmps55
    go_wp2
    go_loopw [5, 8] (fun _ i wr => ∃ k : Nat, i = .int .i64 k ∧ k ≤ n ∧ (∀ j a, j < k → l[j]? = some a → LBind.is name a = false) ∧ Below w.heap.size w wr) (fun _ i _ => n - (intOf i).toNat)
    case atStart => exact ⟨0, rfl, by omega, fun j a hj => by omega, Below.refl _ _⟩
    case round =>
      obtain ⟨k, rfl, hk, hno, hB⟩ := hrel
      have hlen : n = l.length := HN.out
      by_cases hlt : k < n
      · have hkl : k < l.length := by omega
        have hget : l[k]? = some l[k] := List.getElem?_eq_getElem hkl
        generalize l[k] = b at hget
        obtain ⟨bn, ⟨bk, bm, bs⟩, bkd, brd⟩ := b
        have c0 : wr.cell? ⟨g, k * 6, none⟩ = some (.string bn) := (hB.cell (p := ⟨g, k * 6, none⟩) hg).trans (hc k 0 _ _ hget rfl)
        have c1 : wr.cell? ⟨g, k * 6 + 1, none⟩ = some (.int .i64 bk) := (hB.cell (p := ⟨g, k * 6 + 1, none⟩) hg).trans (hc k 1 _ _ hget rfl)
        have c2 : wr.cell? ⟨g, k * 6 + 2, none⟩ = some (.int .i64 bm) := (hB.cell (p := ⟨g, k * 6 + 2, none⟩) hg).trans (hc k 2 _ _ hget rfl)
        have c3 : wr.cell? ⟨g, k * 6 + 3, none⟩ = some (.string bs) := (hB.cell (p := ⟨g, k * 6 + 3, none⟩) hg).trans (hc k 3 _ _ hget rfl)
        have c4 : wr.cell? ⟨g, k * 6 + 4, none⟩ = some (.int .i64 bkd) := (hB.cell (p := ⟨g, k * 6 + 4, none⟩) hg).trans (hc k 4 _ _ hget rfl)
        have c5 : wr.cell? ⟨g, k * 6 + 5, none⟩ = some (.bool brd) := (hB.cell (p := ⟨g, k * 6 + 5, none⟩) hg).trans (hc k 5 _ _ hget rfl)
        have hx' : wr.cell? bx = some (.string name) := (hB.cell hb).trans hx
        have hb' : bx.block < wr.heap.size := Nat.lt_of_lt_of_le hb hB.size
        have HG := Lib.hid hget
        have HO := Lib.hid hno
        clear hget hno hc hx hlen
        by_cases hq : sameS bn name = true
        · go_wp2_with (go_at_call 48; refine (dropClosure _ bx name bn bs bk bm bkd brd hx' hb').mono ?_; rintro e w1 ⟨rfl, hB1⟩)
          go_ret
          exact ⟨by rw [findIdx?_some_of HO.out HG.out hq]; rfl, hB.trans (hB1.mono (hB.size))⟩
        · go_wp2_with (go_at_call 48; refine (dropClosure _ bx name bn bs bk bm bkd brd hx' hb').mono ?_; rintro e w1 ⟨rfl, hB1⟩)
          go_roundw
          case rel =>
            refine ⟨k + 1, by go_num, by omega, fun j a hj ha => ?_, hB.trans (hB1.mono hB.size)⟩
            by_cases hjk : j = k
            · subst hjk
              have := HG.out.symm.trans ha
              simp only [Option.some.injEq] at this
              subst this
              simpa [LBind.is] using hq
            · exact HO.out j a (by omega) ha
          case measure => simp [intOf]; omega
      · have hkn : k = n := by omega
        subst hkn
        have HO := Lib.hid hno
        clear hno hlen hc
        go_wp2
        go_ret
        exact ⟨by rw [findIdx?_none_of (by rw [← HN.out]; exact HO.out)]; rfl, hB⟩


theorem row_store6 {w : World} {base : Nat} {e : TypeId} {g cap n : Nat} {l : List LBind} (h : w.ownsRow base e 6 (.slice (some ⟨g, 0, none⟩) n cap) n (l.flatMap LBind.cells)) {k : Nat} (hk : k < l.length) (b : LBind) :
    ((((((w.setCell ⟨g, k * 6, none⟩ (.string b.name)).setCell ⟨g, k * 6 + 1, none⟩ (.int .i64 b.v.kind)).setCell ⟨g, k * 6 + 2, none⟩ (.int .i64 b.v.n)).setCell ⟨g, k * 6 + 3, none⟩ (.string b.v.s)).setCell ⟨g, k * 6 + 4, none⟩ (.int .i64 b.kind)).setCell ⟨g, k * 6 + 5, none⟩ (.bool b.ready)).ownsRow base e 6 (.slice (some ⟨g, 0, none⟩) n cap) n ((l.set k b).flatMap LBind.cells) := by
  have h3 := ((((((((((h.stored (k * 6) (.string b.name)).1.stored (k * 6 + 1) (.int .i64 b.v.kind)).1).stored (k * 6 + 2) (.int .i64 b.v.n)).1).stored (k * 6 + 3) (.string b.v.s)).1).stored (k * 6 + 4) (.int .i64 b.kind)).1).stored (k * 6 + 5) (.bool b.ready)).1
  have : (l.set k b).flatMap LBind.cells = ((((((l.flatMap LBind.cells).set (k * 6) (.string b.name)).set (k * 6 + 1) (.int .i64 b.v.kind)).set (k * 6 + 2) (.int .i64 b.v.n)).set (k * 6 + 3) (.string b.v.s)).set (k * 6 + 4) (.int .i64 b.kind)).set (k * 6 + 5) (.bool b.ready) := by
    clear h h3
    induction l generalizing k with
    | nil => simp at hk
    | cons c l ih =>
      cases k with
      | zero =>
        simp only [List.set_cons_zero, List.flatMap_cons, Nat.zero_mul, Nat.zero_add]
        rfl
      | succ k =>
        simp only [List.set_cons_succ, List.flatMap_cons]
        have e : (k + 1) * 6 = (LBind.cells c).length + k * 6 := by simp [LBind.cells]; omega
        rw [e]
        simp only [Nat.add_assoc]
        rw [List.set_append_right _ _ (by omega), List.set_append_right _ _ (by omega), List.set_append_right _ _ (by omega), List.set_append_right _ _ (by omega), List.set_append_right _ _ (by omega), List.set_append_right _ _ (by omega)]
        simp only [Nat.add_sub_cancel_left]
        rw [ih (by simpa using hk)]
  rw [this]
  exact h3

theorem grow_set {w0 w : World} {g o : Nat} (hg : w0.grownBy w (some g)) (a : Value) : w0.grownBy (w.setCell ⟨g, o, none⟩ a) (some g) :=
  ⟨hg.os, hg.tape, hg.output, by rw [World.size_setCell]; exact hg.size, fun b hb hne => (Below.heap_setCell _ _ _ _ (fun e => hne (by rw [e]))).trans (hg.block b hb hne)⟩
theorem grow_store6 {w0 w : World} {g : Nat} (hg : w0.grownBy w (some g)) (k : Nat) (a b c d e f : Value) :
    w0.grownBy ((((((w.setCell ⟨g, k, none⟩ a).setCell ⟨g, k + 1, none⟩ b).setCell ⟨g, k + 2, none⟩ c).setCell ⟨g, k + 3, none⟩ d).setCell ⟨g, k + 4, none⟩ e).setCell ⟨g, k + 5, none⟩ f) (some g) :=
  grow_set (grow_set (grow_set (grow_set (grow_set (grow_set hg a) b) c) d) e) f

theorem grow_below {w0 w w' : World} {row : Option Nat} (hg : w0.grownBy w row) (hB : Below w.heap.size w w') : w0.grownBy w' row :=
  ⟨hB.os.trans hg.os, hB.tape.trans hg.tape, hB.output.trans hg.output, Nat.le_trans hg.size hB.size, fun b hb hne => (hB.block b (Nat.lt_of_lt_of_le hb hg.size)).trans (hg.block b hb hne)⟩
theorem grow_refl (w : World) (row : Option Nat) : w.grownBy w row := ⟨rfl, rfl, rfl, Nat.le_refl _, fun _ _ _ => rfl⟩

theorem flatMap_take {α : Type} {f : α → List Value} {m : Nat} (hf : ∀ a, (f a).length = m) (l : List α) (i : Nat) : (l.take i).flatMap f = (l.flatMap f).take (i * m) := by
  induction l generalizing i with
  | nil => simp
  | cons a l ih =>
    cases i with
    | zero => simp
    | succ i =>
      simp only [List.take_succ_cons, List.flatMap_cons]
      rw [ih, show (i + 1) * m = (f a).length + i * m by rw [hf, Nat.succ_mul]; omega, List.take_length_add_append]

/-- clear(s[i:]) -/
theorem clear_own {P : Program} {w : World} {e t : TypeId} {m : Nat} {g cap : Nat} {α : Type} {f : α → List Value} {l : List α} (hf : ∀ a, (f a).length = m) (hm : 0 < m) (z : Value) (ht : P.underlying t = some (.slice e)) (hz : ∀ w, (zeroValue e).run P w = .ok z w) (hzs : z.cells.size = m)
    (h1 : ∀ v ∈ z.cells.toList, v.oneCell' = true) (h : w.ownsRow 0 e m (.slice (some ⟨g, 0, none⟩) l.length cap) l.length (l.flatMap f)) {i : Nat} (hi : i < l.length) (ty : TypeId) :
    ∃ w', (Builtin.clear_ #[t] ty #[.slice (some ⟨g, i * m, none⟩) (l.length - i) (cap - i)]).run P w = .ok (.tuple #[]) w' ∧ w'.ownsRow 0 e m (.slice (some ⟨g, 0, none⟩) i cap) i ((l.take i).flatMap f) ∧ w.grownBy w' (some g) := by
  rcases h.2 with ⟨h', _⟩ | ⟨g', cap', cur, h', hb, hg, hnc, hcm, hcs, htake⟩
  · simp at h'
  simp only [Value.slice.injEq, Option.some.injEq, Addr.mk.injEq, and_true, true_and] at h'
  obtain ⟨rfl, rfl⟩ := h'
  have hzl : (Builtin.zeroCells z.cells (l.length - i)).toList.length = (l.length - i) * m := by rw [Array.length_toList, size_zeroCells, hzs]
  have hmul : l.length * m ≤ cap * m := Nat.mul_le_mul_right _ hnc
  have hsub : (l.length - i) * m = l.length * m - i * m := Nat.sub_mul ..
  have hile : i * m ≤ l.length * m := Nat.mul_le_mul_right _ (by omega)
  have hst := run_storeCells_at P g (i * m) e (Builtin.zeroCells z.cells (l.length - i)).toList 0 cur w hg (by rw [hzl, hcs]; omega) (by
    intro v hv
    simp only [Builtin.zeroCells] at hv
    obtain ⟨k, hk, rfl⟩ := List.getElem_of_mem hv
    simp only [Array.getElem_toList]
    rcases Nat.lt_or_ge (k % z.cells.size) z.cells.size with h' | h'
    · exact h1 _ (by simp [h'])
    · rw [hzs] at h'; exact absurd (Nat.mod_lt k hm) (by omega))
  have hpos : ∃ d, l.length - i = d + 1 := ⟨l.length - i - 1, by omega⟩
  obtain ⟨d, hd⟩ := hpos
  refine ⟨w.setRow g (cur.toList.take (i * m + 0) ++ (Builtin.zeroCells z.cells (l.length - i)).toList ++ cur.toList.drop (i * m + 0 + (Builtin.zeroCells z.cells (l.length - i)).toList.length)).toArray, ?_, ?_, ?_⟩
  · rw [hd] at hst ⊢
    simp [Builtin.clear_, run_underlying ht, hz, hst]
  · refine ⟨by rw [flatMap_len hf, List.length_take]; congr 1; omega, .inr ⟨g, cap, _, rfl, Nat.zero_le _, setRow_heap w g cur _ e (0, 0) hg, by omega, hcm, ?_, ?_⟩⟩
    · simp only [Nat.add_zero, List.size_toArray, List.length_append, List.length_take, List.length_drop, Array.length_toList, hcs]
      rw [← Array.length_toList, hzl]
      omega
    · simp only [Nat.add_zero, List.append_assoc]
      rw [List.take_append_of_le_length (by simp only [List.length_take, Array.length_toList, hcs]; omega), List.take_take, Nat.min_self]
      have e1 := flatMap_take hf l i
      rw [e1, ← htake, List.take_take, Nat.min_eq_left hile]
  · exact ⟨rfl, rfl, rfl, by simp, fun k hk hne => setRow_other w g k _ (fun e => hne (by rw [e]))⟩

def unnamed (name : ByteArray) (l : List LBind) : List LBind := l.filter fun b => !LBind.is name b

theorem zeroBind (w : World) : (zeroValue 96).run Tryd.prog w = .ok (.agg #[.string ⟨#[]⟩, .int .i64 0, .int .i64 0, .string ⟨#[]⟩, .int .i64 0, .bool false]) w := by kernel_rfl

theorem unnamed_take_succ {name : ByteArray} {l : List LBind} {j : Nat} {b : LBind} (h : l[j]? = some b) : unnamed name (l.take (j + 1)) = unnamed name (l.take j) ++ (if LBind.is name b then [] else [b]) := by
  unfold unnamed
  rw [List.take_add_one, h, Option.toList_some, List.filter_append]
  congr 1
  by_cases hb : LBind.is name b = true <;> simp [hb]

theorem unnamed_none {name : ByteArray} {l : List LBind} (h : ∀ (j : Nat) b, l[j]? = some b → LBind.is name b = false) : unnamed name l = l := by
  unfold unnamed
  rw [List.filter_eq_self]
  intro b hb
  obtain ⟨j, hj, rfl⟩ := List.getElem_of_mem hb
  rw [h j _ (List.getElem?_eq_getElem hj)]
  rfl

set_option maxHeartbeats 1600000 in
theorem deleteFunc_any (w : World) (bx : Addr) (name : ByteArray) (hx : w.cell? bx = some (.string name)) (hb : bx.block < w.heap.size) (v : Value) (l : List LBind) (hbx : v.ownBlock ≠ some bx.block)
    (hown : w.ownsRow 0 96 6 v l.length (l.flatMap LBind.cells)) :
    Calls Tryd.prog 47 #[v, .func (.func 48) #[] #[.pointer (some bx)]] w fun e w' => ∃ v', e = .returned v' ∧ w'.ownsRow 0 96 6 v' (unnamed name l).length ((unnamed name l).flatMap LBind.cells) ∧ w.grownBy w' v.ownBlock ∧ v'.ownBlock = v.ownBlock := by
  have HI := Lib.hid (indexD w bx name hx hb v l hown)
  rcases hidx : l.findIdx? (LBind.is name) with _ | k0
  · rw [hidx] at HI
    have hall : unnamed name l = l := by
      have := List.findIdx?_eq_none_iff.1 hidx
      exact unnamed_none fun j b hj => this b (List.mem_of_getElem? hj)
    rw [hall]
    have HO := Lib.hid hown
    clear hown hall hidx hx
    go_enter Tryd.func47, Tryd.ntmps47
    go_wp2_with fail
    refine HI.out.mono ?_
    rintro e w1 ⟨rfl, hB⟩
    simp only [optI]
    have HB := Lib.hid hB
    clear hB
    go_wp2
    go_ret
    exact ⟨v, rfl, ownsRow_block HO.out fun g hg => HB.out.block g (HO.out.lt g hg).2, grow_below (grow_refl w v.ownBlock) HB.out, rfl⟩
  · rw [hidx] at HI
    obtain ⟨hk0, hisk, hbefore⟩ := List.findIdx?_eq_some_iff_getElem.1 hidx
    rcases ownsRow_cases hown with ⟨rfl, hz⟩ | ⟨g, c, rfl, h1, h2, hg⟩
    · omega
    unfold maxLen at h2
    have hgb : g ≠ bx.block := fun e => hbx (by rw [← e]; rfl)
    obtain ⟨n, hn⟩ : ∃ n, n = l.length := ⟨_, rfl⟩
    rw [← hn] at h1 hown HI ⊢
    have hk0n : k0 < n := by omega
    have hun0 : unnamed name (l.take k0) = l.take k0 := unnamed_none fun j b hj => by
      have hjk : j < k0 := by have := getElem?_lt hj; simp at this; omega
      rw [List.getElem?_take, if_pos hjk] at hj
      obtain ⟨hjl, rfl⟩ := List.getElem?_eq_some_iff.1 hj
      simpa using hbefore j hjk
    have hun1 : unnamed name (l.take (k0 + 1)) = l.take k0 := by
      rw [unnamed_take_succ (List.getElem?_eq_getElem hk0), hun0, if_pos hisk, List.append_nil]
    have HN := Lib.hid hn
    have HO := Lib.hid hown
    have HU := Lib.hid hun1
    clear hown hidx hisk hbefore hun0 hun1 hbx hn
    have hne1 : ((k0 : Int) == -1) = false := beq_eq_false_iff_ne.2 (by omega)
    go_enter Tryd.func47, Tryd.ntmps47
    go_wp2_with fail
    refine HI.out.mono ?_
    rintro e w1 ⟨rfl, hB⟩
    simp only [optI]
    have HB := Lib.hid hB
    clear hB
    go_wp2_with fail
    go_loopw [5, 6, 7] (fun a b _ wr => ∃ (i j : Nat) (M : List LBind), a = .int .i64 i ∧ b = .int .i64 j ∧ i < j ∧ j ≤ n ∧ M.length = n ∧ M.take i = unnamed name (l.take j) ∧ M.drop j = l.drop j ∧ wr.ownsRow 0 96 6 (.slice (some ⟨g, 0, none⟩) n c) n (M.flatMap LBind.cells) ∧ w.grownBy wr (some g)) (fun _ b _ _ => n - (intOf b).toNat)
    case atStart =>
      refine ⟨k0, k0 + 1, l, by go_num, by go_num, by omega, by omega, HN.out.symm, HU.out.symm, rfl, ?_, grow_below (grow_refl w _) HB.out⟩
      exact ownsRow_block HO.out fun g' hg' => HB.out.block g' (HO.out.lt g' hg').2
    case round =>
      obtain ⟨i, j, M, rfl, rfl, hij, hjn, hM, hMt, hMd, hown, hgr⟩ := hrel
      have hlen : n = l.length := HN.out
      have hxr : wr.cell? bx = some (.string name) := (World.cell?_of_block (hgr.block bx.block hb (fun e => hgb (Option.some.inj e).symm))).trans hx
      have hbr : bx.block < wr.heap.size := Nat.lt_of_lt_of_le hb hgr.size
      have hgl : g < wr.heap.size := Nat.lt_of_lt_of_le hg hgr.size
      by_cases hlt : j < n
      · have hjM : M[j]? = l[j]? := by
          have := congrArg (fun x : List LBind => x[0]?) hMd
          simpa using this
        have hgetl : l[j]? = some l[j] := List.getElem?_eq_getElem (by omega)
        have hgetM := hjM.trans hgetl
        have hdj : M.drop (j + 1) = l.drop (j + 1) := by
          have := congrArg (List.drop 1) hMd
          simpa using this
        generalize l[j] = b at hgetl hgetM
        have hMi : M[i]? = some M[i] := List.getElem?_eq_getElem (by omega)
        generalize M[i] = bi at hMi
        obtain ⟨bn, ⟨bk, bm, bs⟩, bkd, brd⟩ := b
        have hrow := fun k x j' b (hb' : M[k]? = some b) => row_cell (f := LBind.cells) (m := 6) (fun _ => rfl) hown (g := g) rfl (i := k) (j := j') (x := x) hb'
        have c0 : wr.cell? ⟨g, j * 6, none⟩ = some (.string bn) := hrow j (.string bn) 0 _ hgetM rfl
        have c1 := hrow j (.int .i64 bk) 1 _ hgetM rfl
        have c2 := hrow j (.int .i64 bm) 2 _ hgetM rfl
        have c3 := hrow j (.string bs) 3 _ hgetM rfl
        have c4 := hrow j (.int .i64 bkd) 4 _ hgetM rfl
        have c5 := hrow j (.bool brd) 5 _ hgetM rfl
        have hx2 : (wr.alloc (.cells #[.string bn, .int .i64 bk, .int .i64 bm, .string bs, .int .i64 bkd, .bool brd] 96)).cell? bx = some (.string name) := (cell_old hbr).trans hxr
        have hC := dropClosure _ bx name bn bs bk bm bkd brd hx2 (by simp; omega)
        have HO2 := Lib.hid hown
        have HG2 := Lib.hid hgr
        have HgM := Lib.hid hgetM
        have Hgl := Lib.hid hgetl
        have Hdj := Lib.hid hdj
        have Htk := Lib.hid hMt
        have HMl := Lib.hid hM
        have HMi := Lib.hid hMi
        by_cases hq : sameS bn name = true
        · rw [hq] at hC
          have HC := Lib.hid hC
          clear hown hgr hgetM hgetl hdj hMt hM hMi hMd hjM hrow hC hx2 hlen
          go_wp2_with fail
          refine HC.out.mono ?_
          rintro e w1 ⟨rfl, hB⟩
          have HB1 := Lib.hid (below_old hB)
          clear hB
          go_wp2
          go_roundw
          case rel =>
            refine ⟨i, j + 1, M, rfl, by go_num, by omega, by omega, HMl.out, ?_, Hdj.out, ?_, grow_below HG2.out HB1.out⟩
            · rw [unnamed_take_succ Hgl.out, Htk.out, if_pos (show LBind.is name ⟨bn, ⟨bk, bm, bs⟩, bkd, brd⟩ = true from hq), List.append_nil]
            · exact ownsRow_block HO2.out fun g' hg' => HB1.out.block g' (HO2.out.lt g' hg').2
          case measure => simp [intOf]; omega
        · have hq' : sameS bn name = false := by simpa using hq
          rw [hq'] at hC
          have HC := Lib.hid hC
          have HR := Lib.hid hrow
          clear hown hgr hgetM hgetl hdj hMt hM hMi hMd hjM hrow hC hx2 hlen
          go_wp2_with fail
          refine HC.out.mono ?_
          rintro e w1 ⟨rfl, hB⟩
          have q0 := below_newcell hB 0 (.string bn) rfl
          have q1 := below_newcell hB 1 (.int .i64 bk) rfl
          have q2 := below_newcell hB 2 (.int .i64 bm) rfl
          have q3 := below_newcell hB 3 (.string bs) rfl
          have q4 := below_newcell hB 4 (.int .i64 bkd) rfl
          have q5 := below_newcell hB 5 (.bool brd) rfl
          have hB1 := below_old hB
          have hown1 : w1.ownsRow 0 96 6 (.slice (some ⟨g, 0, none⟩) n c) n (M.flatMap LBind.cells) := ownsRow_block HO2.out fun g' hg' => hB1.block g' (HO2.out.lt g' hg').2
          have hrow1 := fun x j' => row_cell (f := LBind.cells) (m := 6) (fun _ => rfl) hown1 (g := g) rfl (i := i) (j := j') (x := x) HMi.out
          have e0 : w1.cell? ⟨g, i * 6, none⟩ = some (.string bi.name) := hrow1 _ 0 rfl
          have e1 := hrow1 _ 1 rfl
          have e2 := hrow1 _ 2 rfl
          have e3 := hrow1 _ 3 rfl
          have e4 := hrow1 _ 4 rfl
          have e5 := hrow1 _ 5 rfl
          have f0 := ownsRow_frozen hown1 (g := g) rfl (i * 6)
          have f1 := ownsRow_frozen hown1 (g := g) rfl (i * 6 + 1)
          have f2 := ownsRow_frozen hown1 (g := g) rfl (i * 6 + 2)
          have f3 := ownsRow_frozen hown1 (g := g) rfl (i * 6 + 3)
          have f4 := ownsRow_frozen hown1 (g := g) rfl (i * 6 + 4)
          have f5 := ownsRow_frozen hown1 (g := g) rfl (i * 6 + 5)
          have HB1 := Lib.hid hB1
          have HO1 := Lib.hid hown1
          clear hB hB1 hown1 hrow1 c0 c1 c2 c3 c4 c5 hxr hx
          have hin : i < n := by omega
          go_wp2
          go_roundw
          case rel =>
            refine ⟨i + 1, j + 1, M.set i ⟨bn, ⟨bk, bm, bs⟩, bkd, brd⟩, by go_num, by go_num, by omega, by omega, by simp [HMl.out], ?_, ?_, ?_, ?_⟩
            · rw [unnamed_take_succ Hgl.out, if_neg (show ¬ LBind.is name ⟨bn, ⟨bk, bm, bs⟩, bkd, brd⟩ = true from hq), ← Htk.out, List.take_add_one, List.getElem?_set_self (by rw [HMl.out]; omega), List.take_set_of_le (Nat.le_refl _)]
              rfl
            · rw [List.drop_set_of_lt (by omega)]; exact Hdj.out
            · exact row_store6 HO1.out (by rw [HMl.out]; omega) ⟨bn, ⟨bk, bm, bs⟩, bkd, brd⟩
            · exact grow_store6 (grow_below HG2.out HB1.out) _ _ _ _ _ _ _
          case measure => simp [intOf]; omega
      · have hjn' : j = n := by omega
        subst hjn'
        have hcl := clear_own (P := Tryd.prog) (f := LBind.cells) (m := 6) (l := M) (t := 76) (g := g) (cap := c) (w := wr) (fun _ => rfl) (by decide) _ Tryd.underlying76 zeroBind rfl (by intro v hv; simp [Value.cells] at hv; rcases hv with rfl | rfl | rfl | rfl | rfl <;> rfl) (by rw [hM]; exact hown) (i := i) (by omega) 0
        rw [hM] at hcl
        obtain ⟨w2, hrun, hown2, hgr2⟩ := hcl
        have hMu : M.take i = unnamed name l := by rw [hMt, List.take_of_length_le (by omega)]
        have hMl : (unnamed name l).length = i := by rw [← hMu, List.length_take]; omega
        rw [hMu] at hown2
        have HO2 := Lib.hid hown2
        have HG2 := Lib.hid (show w.grownBy w2 (some g) from ⟨hgr2.os.trans hgr.os, hgr2.tape.trans hgr.tape, hgr2.output.trans hgr.output, Nat.le_trans hgr.size hgr2.size, fun b h1 h2 => (hgr2.block b (Nat.lt_of_lt_of_le h1 hgr.size) h2).trans (hgr.block b h1 h2)⟩)
        have HMl := Lib.hid hMl
        clear hown hgr hMt hM hMd hown2 hgr2 hMu hMl hlen hx hxr
        have hic : i < c := by omega
        go_wp2
        go_ret
        exact ⟨_, rfl, by rw [HMl.out]; exact HO2.out, HG2.out, rfl⟩
end Go.Proofs.YtfanolcjgaccpaaDoor

namespace Go.Proofs.YtfanolcjgaccpaaDoor
open Go Go.RowKit
set_option maxRecDepth 100000

/-- append(s[:k], s[k+1:]...) on a row of one's own -/
theorem wpList_close {P : Program} {w : World} {ops : Array Oper} {rest : List Oper} {o : Oper} {a : Act} {Q : Exit → Act → World → Prop} (hgd : o.guard = none) (s x : Operand) (t : TypeId)
    (ho : o.op = .call { callee := .builtin .append, args := #[s, x], argTypes := #[t, t] })
    (e : TypeId) (i : TypeInfo) (m : Nat) (ht : P.underlying t = some (.slice e)) (hi : P.info? e = some i) (hsize : i.size = m)
    (g cap k : Nat) {α : Type} (f : α → List Value) (l : List α) (hf : ∀ a, (f a).length = m) (h1 : ∀ a, ∀ v ∈ f a, v.oneCell' = true)
    (hown : w.ownsRow 0 e m (.slice (some ⟨g, 0, none⟩) l.length cap) l.length (l.flatMap f)) (hk : k < l.length)
    (hs : a.eval s = .slice (some ⟨g, 0, none⟩) k cap) (ad : Addr) (c : Nat) (hx : a.eval x = .slice (some ad) (l.length - (k + 1)) c) (had : k + 1 < l.length → ad = ⟨g, (k + 1) * m, none⟩)
    (h : ∀ w', w'.ownsRow 0 e m (.slice (some ⟨g, 0, none⟩) l.length cap) l.length ((l.take k ++ l.drop (k + 1) ++ l.drop (l.length - 1)).flatMap f) → w.grownBy w' (some g) → wpList P ops Q rest (a.put o.dst (.slice (some ⟨g, 0, none⟩) (k + (l.length - (k + 1))) cap)) w') :
    wpList P ops Q (o :: rest) a w := by
  refine wpList_plain hgd fun K hK => ?_
  rcases hown.2 with ⟨h', _⟩ | ⟨g', cap', cur, h', hb, hg, hnc, hcm, hcs, htake⟩
  · simp at h'
  simp only [Value.slice.injEq, Option.some.injEq, Addr.mk.injEq, and_true, true_and] at h'
  obtain ⟨rfl, rfl⟩ := h'
  subst hsize
  have hmul : l.length * i.size ≤ cap * i.size := Nat.mul_le_mul_right _ hnc
  have hnl : ((l.drop (k + 1)).flatMap f).length = (l.length - (k + 1)) * i.size := by rw [flatMap_len hf, List.length_drop]
  have hfit : k * i.size + (l.length - (k + 1)) * i.size + i.size = l.length * i.size := by
    rw [← Nat.add_mul, ← Nat.succ_mul]; congr 1; omega
  have hr := run_append_room (P := P) w t o.type e i ht hi g k cap cur hg ad (l.length - (k + 1)) c ((l.drop (k + 1)).flatMap f) hnl (by
    intro j u hu
    have hj : j < (l.length - (k + 1)) * i.size := by rw [← hnl]; exact (List.getElem?_eq_some_iff.1 hu).1
    have hlt : k + 1 < l.length := by
      rcases Nat.lt_or_ge (k + 1) l.length with h | h
      · exact h
      · rw [show l.length - (k + 1) = 0 by omega] at hj; omega
    rw [had hlt]
    have e1 : (⟨g, (k + 1) * i.size, none⟩ : Addr).add j = ⟨g, (k + 1) * i.size + j, none⟩ := by unfold Addr.add; split <;> simp_all
    rw [e1, hown.cellAt ((k + 1) * i.size + j) (by
      have : (k + 1) * i.size + (l.length - (k + 1)) * i.size = l.length * i.size := by rw [← Nat.add_mul]; congr 1; omega
      omega)]
    have e2 : (l.drop (k + 1)).flatMap f = (l.flatMap f).drop ((k + 1) * i.size) := by
      have := flatMap_take hf l (k + 1)
      have h2 : l.flatMap f = (l.take (k + 1)).flatMap f ++ (l.drop (k + 1)).flatMap f := by rw [← List.flatMap_append, List.take_append_drop]
      rw [h2, List.drop_left' (by rw [flatMap_len hf, List.length_take]; congr 1; omega)]
    rw [e2, List.getElem?_drop] at hu
    exact hu) (by
    intro v hv
    obtain ⟨a', _, ha⟩ := List.mem_flatMap.1 hv
    exact h1 a' v ha) (by omega) (by rw [hnl, hcs]; omega)
  unfold Oper.wp execOp
  simp only [ho, resolve, invoke, builtin, Sem.run_bind, Sem.run_pure, Result.andThen_ok, List.map_toArray, List.map_cons, List.map_nil, hs, hx, hr]
  refine hK _ _ (h _ ⟨?_, .inr ⟨g, cap, _, rfl, Nat.zero_le _, setRow_heap w g cur _ e (0, 0) hg, hnc, hcm, ?_, ?_⟩⟩ ⟨rfl, rfl, rfl, by simp, fun k' hk' hne => setRow_other w g k' _ (fun e => hne (by rw [e]))⟩)
  · rw [flatMap_len hf]; congr 1; simp; omega
  · simp only [List.size_toArray, List.length_append, List.length_take, List.length_drop, Array.length_toList, hcs, hnl]
    omega
  · rw [hnl]
    have hcl : cur.toList.length = cap * i.size := by rw [Array.length_toList, hcs]
    have d1 : cur.toList = l.flatMap f ++ cur.toList.drop (l.length * i.size) := by rw [← htake, List.take_append_drop]
    have t1 : cur.toList.take (k * i.size) = (l.take k).flatMap f := by
      rw [flatMap_take hf, ← htake, List.take_take, Nat.min_eq_left (Nat.mul_le_mul_right _ (by omega))]
    have t2 : (cur.toList.drop (k * i.size + (l.length - (k + 1)) * i.size)).take i.size = (l.drop (l.length - 1)).flatMap f := by
      have e3 : k * i.size + (l.length - (k + 1)) * i.size = (l.length - 1) * i.size := by rw [← Nat.add_mul]; congr 1; omega
      have h2 : l.flatMap f = (l.take (l.length - 1)).flatMap f ++ (l.drop (l.length - 1)).flatMap f := by rw [← List.flatMap_append, List.take_append_drop]
      rw [e3, d1, h2, List.append_assoc, List.drop_left' (by rw [flatMap_len hf, List.length_take]; congr 1; omega), List.take_left' (by rw [flatMap_len hf, List.length_drop, show l.length - (l.length - 1) = 1 by omega, Nat.one_mul])]
    rw [t1]
    simp only [List.flatMap_append]
    rw [List.take_append, List.take_of_length_le (by simp only [List.length_append, flatMap_len hf, List.length_take, List.length_drop]; rw [Nat.min_eq_left (by omega)]; omega)]
    congr 1
    rw [← t2]
    congr 1
    simp only [List.length_append, flatMap_len hf, List.length_take, List.length_drop]
    rw [Nat.min_eq_left (by omega)]
    omega

theorem zeroProp (w : World) : (zeroValue 87).run Tryd.prog w = .ok (.agg #[.string ⟨#[]⟩, .int .i64 0, .int .i64 0, .string ⟨#[]⟩, .bool false]) w := by kernel_rfl

set_option maxHeartbeats 1600000 in
theorem delete_any (w : World) (g c k : Nat) (l : List LProp) (hk : k < l.length) (hown : w.ownsRow 0 87 5 (.slice (some ⟨g, 0, none⟩) l.length c) l.length (l.flatMap LProp.cells)) :
    Calls Tryd.prog 42 #[.slice (some ⟨g, 0, none⟩) l.length c, .int .i64 k, .int .i64 (k + 1)] w fun e w' => e = .returned (.slice (some ⟨g, 0, none⟩) (l.length - 1) c) ∧ w'.ownsRow 0 87 5 (.slice (some ⟨g, 0, none⟩) (l.length - 1) c) (l.length - 1) ((l.eraseIdx k).flatMap LProp.cells) ∧ w.grownBy w' (some g) := by
  obtain ⟨i0, hi, hz0, hz1, hz2⟩ := info_parts Tryd.infoProp
  obtain ⟨h1, h2⟩ : l.length ≤ c ∧ c ≤ maxLen := by
    rcases ownsRow_cases hown with ⟨hv, _⟩ | ⟨g', c', hv, h1, h2, _⟩
    · cases hv
    · cases hv; exact ⟨h1, h2⟩
  unfold maxLen at h2
  obtain ⟨n, hn⟩ : ∃ n, l.length = n + 1 := ⟨l.length - 1, by omega⟩
  have hown' := hown
  rw [hn] at hown' h1 hk ⊢
  simp only [Nat.add_sub_cancel]
  have HO := Lib.hid hown
  have HO' := Lib.hid hown'
  have HN := Lib.hid hn
  clear hown hown' hn
  have hne : ((k : Int) == (k : Int) + 1) = false := beq_eq_false_iff_ne.2 (by omega)
  have hkc : k < c := by omega
  have hnc : n < c := by omega
  have hkc2 : k ≤ c := by omega
  have hkn2 : k ≤ n := by omega
  have hclr : ∀ w1 : World, w1.ownsRow 0 87 5 (.slice (some ⟨g, 0, none⟩) l.length c) l.length ((l.take k ++ l.drop (k + 1) ++ l.drop (l.length - 1)).flatMap LProp.cells) →
      ∃ w2, (Builtin.clear_ #[72] 0 #[.slice (some ⟨g, n * 5, none⟩) 1 (c - n)]).run Tryd.prog w1 = .ok (.tuple #[]) w2 ∧ w2.ownsRow 0 87 5 (.slice (some ⟨g, 0, none⟩) n c) n ((l.eraseIdx k).flatMap LProp.cells) ∧ w1.grownBy w2 (some g) := by
    intro w1 ho
    have hl2 : (l.take k ++ l.drop (k + 1) ++ l.drop (l.length - 1)).length = n + 1 := by have := HN.out; simp; omega
    have ho' : w1.ownsRow 0 87 5 (.slice (some ⟨g, 0, none⟩) (n + 1) c) (n + 1) ((l.take k ++ l.drop (k + 1) ++ l.drop (l.length - 1)).flatMap LProp.cells) := by
      have := HN.out
      rw [this] at ho ⊢
      exact ho
    have := clear_own (P := Tryd.prog) (f := LProp.cells) (m := 5) (l := l.take k ++ l.drop (k + 1) ++ l.drop (l.length - 1)) (t := 72) (g := g) (cap := c) (w := w1) (fun _ => rfl) (by decide) _ Tryd.underlying72 zeroProp rfl (by intro v hv; simp [Value.cells] at hv; rcases hv with rfl | rfl | rfl | rfl <;> rfl) (by rw [hl2]; exact ho') (i := n) (by omega) 0
    rw [hl2, Nat.add_sub_cancel_left] at this
    obtain ⟨w2, e1, e2, e3⟩ := this
    have hl3 : (l.take k ++ l.drop (k + 1)).length = n := by have := HN.out; simp; omega
    rw [List.take_left' hl3, ← List.eraseIdx_eq_take_drop_succ] at e2
    exact ⟨w2, e1, e2, e3⟩
  have HCl := Lib.hid hclr
  clear hclr
  have hkn : k + (n - k) = n := by omega
  have hks : n + 1 - (k + 1) = n - k := by omega
  have HKN := Lib.hid hkn
  have HKS := Lib.hid hks
  clear hkn hks
  have hk0 : (0 : Int) ≤ (k : Int) + 1 := by omega
  rcases Nat.lt_or_ge (k + 1) c with hc | hc
  · have hcne : ¬ c = k + 1 := by omega
    have hk1c : k + 1 ≤ c := by omega
    go_enter Tryd.func42, Tryd.ntmps42
    go_wp2_with fail
    refine wp_region_plan [(true, 0), (true, 1), (true, 2), (true, 3), (true, 4), (true, 5)] [6, 7] (fun _ => True) (by kernel_rfl) (by kernel_rfl) (fun _ _ d _ _ h => by cases d <;> exact h) trivial (fun hS0 => ?_)
    simp only [planOps, List.filterMap_cons, List.filterMap_nil, List.getElem?_toArray, List.getElem?_cons_zero, List.getElem?_cons_succ, Option.map_some]
    iterate 6
      first
        | (refine wpPlan_take ?_ (by rfl) (fun w' _ => ?_) ?_; rotate_left; (go_simp; first | done | with_reducible rfl); simp only [Act.put, List.setIfInBounds_toArray, List.set_cons_zero, List.set_cons_succ])
        | (refine wpPlan_skip (by rfl) ?_; simp only [Act.put, List.setIfInBounds_toArray, List.set_cons_zero, List.set_cons_succ])
    refine wpPlan_end ?_
    refine wpList_close rfl (.tmp 22) (.tmp 25) 72 rfl 87 i0 5 Tryd.underlying72 hi hz1 g c k LProp.cells l (fun _ => rfl) ?_ HO.out.drew (by rw [HN.out]; omega) (by rfl) ⟨g, (k + 1) * 5, none⟩ (c - (k + 1)) ?_ (fun _ => rfl) ?_
    · intro a v hv; simp [LProp.cells] at hv; rcases hv with rfl | rfl | rfl | rfl | rfl <;> rfl
    · rw [HN.out, HKS.out]; rfl
    intro w1 ho hg
    obtain ⟨w2, hrun, ho2, hg2⟩ := HCl.out w1 ho
    have HO2 := Lib.hid ho2
    have HG2 := Lib.hid hg2
    have HG := Lib.hid hg
    clear ho ho2 hg hg2
    rw [HN.out, HKS.out, HKN.out]
    simp only [Act.put, List.setIfInBounds_toArray, List.set_cons_zero, List.set_cons_succ]
    go_wp2
    go_ret
    exact ⟨rfl, HO2.out, ⟨HG2.out.os.trans HG.out.os, HG2.out.tape.trans HG.out.tape, HG2.out.output.trans HG.out.output, Nat.le_trans HG.out.size HG2.out.size, fun b h1 h2 => (HG2.out.block b (Nat.lt_of_lt_of_le h1 HG.out.size) h2).trans (HG.out.block b h1 h2)⟩⟩
  · obtain rfl : n = k := by omega
    obtain rfl : c = n + 1 := by omega
    have hI : (n : Int) ≤ (n : Int) + 1 := by omega
    go_enter Tryd.func42, Tryd.ntmps42
    go_wp2_with fail
    refine wp_region_plan [(true, 0), (true, 1), (true, 2), (true, 3), (true, 4), (true, 5)] [6, 7] (fun _ => True) (by kernel_rfl) (by kernel_rfl) (fun _ _ d _ _ h => by cases d <;> exact h) trivial (fun hS0 => ?_)
    simp only [planOps, List.filterMap_cons, List.filterMap_nil, List.getElem?_toArray, List.getElem?_cons_zero, List.getElem?_cons_succ, Option.map_some]
    iterate 6
      first
        | (refine wpPlan_take ?_ (by rfl) (fun w' _ => ?_) ?_; rotate_left; (go_simp; first | done | with_reducible rfl); simp only [Act.put, List.setIfInBounds_toArray, List.set_cons_zero, List.set_cons_succ])
        | (refine wpPlan_skip (by rfl) ?_; simp only [Act.put, List.setIfInBounds_toArray, List.set_cons_zero, List.set_cons_succ])
    refine wpPlan_end ?_
    refine wpList_close rfl (.tmp 22) (.tmp 25) 72 rfl 87 i0 5 Tryd.underlying72 hi hz1 g (n + 1) n LProp.cells l (fun _ => rfl) ?_ HO.out.drew (by rw [HN.out]; omega) (by rfl) ⟨g, 0, none⟩ 0 ?_ (fun h => by rw [HN.out] at h; omega) ?_
    · intro a v hv; simp [LProp.cells] at hv; rcases hv with rfl | rfl | rfl | rfl | rfl <;> rfl
    · rw [HN.out, Nat.sub_self]; rfl
    intro w1 ho hg
    obtain ⟨w2, hrun, ho2, hg2⟩ := HCl.out w1 ho
    have HO2 := Lib.hid ho2
    have HG2 := Lib.hid hg2
    have HG := Lib.hid hg
    clear ho ho2 hg hg2
    rw [HN.out, Nat.sub_self, Nat.add_zero]
    simp only [Nat.add_sub_cancel_left] at hrun
    simp only [Act.put, List.setIfInBounds_toArray, List.set_cons_zero, List.set_cons_succ]
    go_wp2
    go_ret
    exact ⟨rfl, HO2.out, ⟨HG2.out.os.trans HG.out.os, HG2.out.tape.trans HG.out.tape, HG2.out.output.trans HG.out.output, Nat.le_trans HG.out.size HG2.out.size, fun b h1 h2 => (HG2.out.block b (Nat.lt_of_lt_of_le h1 HG.out.size) h2).trans (HG.out.block b h1 h2)⟩⟩
end Go.Proofs.YtfanolcjgaccpaaDoor
