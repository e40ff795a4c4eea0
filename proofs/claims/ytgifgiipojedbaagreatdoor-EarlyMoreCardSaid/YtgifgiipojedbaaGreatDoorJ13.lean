/- Maps from nodes to numbers. Package tree: Walk with run.Number$1. Package run: Number. Package tree: Walk with where.Evals$1. Package where: Evals. -/
import Derived.Test.YtgifgiipojedbaaGreatDoorJ12
import Derived.LaidEql
import Derived.Test.YtgifgiipojedbaaGreatDoorJ09
namespace Go.Proofs.YtgifgiipojedbaaGreatDoor
open Go Go.RowKit Go.ChangeMaps Go.MapKept
set_option maxRecDepth 100000
set_option linter.unusedVariables false

def nodeP (b : Nat) : Value := .pointer (some ⟨b, 0, none⟩)
/-- a block of cells -/
def Cells (w : World) (k : Nat) : Prop := ∃ c t, w.heap[k]? = some (.cells c t (0, 0))
/-- a map of nodes to numbers, in the order of its growth -/
def PMap (w : World) (b : Nat) (l : List (Nat × Nat)) : Prop :=
  ∃ es clock, w.heap[b]? = some (.map es clock) ∧ es.toList.map (fun e => (e.key, e.val)) = l.map (fun x => (nodeP x.1, Value.int .i64 x.2))
theorem equal_node (w : World) (a b : Nat) (ha : Cells w a) (hb : Cells w b) : (Op.equal 22 (nodeP a) (nodeP b)).run Tryz.prog w = .ok (decide (a = b)) w := by
  obtain ⟨c1, t1, h1⟩ := ha
  obtain ⟨c2, t2, h2⟩ := hb
  have hsz : (sizeOf 37).run Tryz.prog w = .ok 4 w := by kernel_rfl
  show (Op.equalIn (9999 + 1) _ _ _).run Tryz.prog w = _
  unfold Op.equalIn nodeP
  simp only [Sem.run_bind, run_underlying Tryz.underlying22, Result.andThen, hsz]
  by_cases h : a = b
  · subst h
    simp [run_sameAddr_same]
  · have hne : (⟨a, 0, none⟩ : Addr) ≠ ⟨b, 0, none⟩ := fun e => h (congrArg Addr.block e)
    rw [decide_eq_false h]
    simp
    exact run_sameAddr_other w hne h1 h2
theorem ask_none (w : World) (k : Nat) (hk : Cells w k) : ∀ (es : List MapEntry) (l : List (Nat × Nat)) (i : Nat), es.map (fun e => (e.key, e.val)) = l.map (fun x => (nodeP x.1, Value.int .i64 x.2)) → (∀ x ∈ l, Cells w x.1 ∧ x.1 ≠ k) →
    (Instr.findAsking 22 (nodeP k) es i).run Tryz.prog w = .ok none w := by
  intro es
  induction es with
  | nil => intro l i _ _; rfl
  | cons e es ih =>
    intro l i hl hx
    cases l with
    | nil => simp at hl
    | cons x l =>
      simp only [List.map_cons, List.cons.injEq, Prod.mk.injEq] at hl
      obtain ⟨⟨h1, h2⟩, h3⟩ := hl
      have hx0 := hx x (by simp)
      unfold Instr.findAsking
      rw [h1]
      simp only [Sem.run_bind, equal_node w k x.1 hk hx0.1, Result.andThen]
      rw [show decide (k = x.1) = false by simp; exact fun e => hx0.2 e.symm]
      exact ih l (i + 1) h3 fun y hy => hx y (List.mem_cons_of_mem _ hy)
theorem ask_some (w : World) (k v : Nat) (hk : Cells w k) : ∀ (es : List MapEntry) (l : List (Nat × Nat)) (i : Nat), es.map (fun e => (e.key, e.val)) = l.map (fun x => (nodeP x.1, Value.int .i64 x.2)) → (∀ x ∈ l, Cells w x.1) → (l.map (·.1)).Nodup → (k, v) ∈ l →
    ∃ j, (Instr.findAsking 22 (nodeP k) es i).run Tryz.prog w = .ok (some (j, .int .i64 v)) w := by
  intro es
  induction es with
  | nil => intro l i hl _ _ hm; cases l; (cases hm); (simp at hl)
  | cons e es ih =>
    intro l i hl hx hd hm
    cases l with
    | nil => cases hm
    | cons x l =>
      simp only [List.map_cons, List.cons.injEq, Prod.mk.injEq] at hl
      obtain ⟨⟨h1, h2⟩, h3⟩ := hl
      have hx0 := hx x (by simp)
      rw [List.map_cons, List.nodup_cons] at hd
      unfold Instr.findAsking
      rw [h1]
      simp only [Sem.run_bind, equal_node w k x.1 hk hx0, Result.andThen]
      by_cases hkx : k = x.1
      · have hv : x = (k, v) := by
          rcases List.mem_cons.1 hm with h | h
          · exact h.symm
          · exact absurd (List.mem_map.2 ⟨(k, v), h, hkx⟩) hd.1
        rw [decide_eq_true hkx]
        refine ⟨i, ?_⟩
        rw [h2, hv]
        rfl
      · rw [decide_eq_false hkx]
        refine ih l (i + 1) h3 (fun y hy => hx y (List.mem_cons_of_mem _ hy)) hd.2 ?_
        rcases List.mem_cons.1 hm with h | h
        · exact absurd (by rw [← h]) hkx
        · exact h
theorem find_now (k : Nat) (es : List MapEntry) (l : List (Nat × Nat)) (h : es.map (fun e => (e.key, e.val)) = l.map (fun x => (nodeP x.1, Value.int .i64 x.2))) :
    (l = [] ∧ Instr.findNow (.pointer 37) (nodeP k) es 0 = some none) ∨ (l ≠ [] ∧ Instr.findNow (.pointer 37) (nodeP k) es 0 = none) := by
  cases es with
  | nil =>
    cases l with
    | nil => exact .inl ⟨rfl, rfl⟩
    | cons x l => simp at h
  | cons e es =>
    cases l with
    | nil => simp at h
    | cons x l =>
      simp only [List.map_cons, List.cons.injEq, Prod.mk.injEq] at h
      refine .inr ⟨by simp, ?_⟩
      unfold Instr.findNow
      rw [h.1.1]
      rfl
theorem key_none {w : World} {k : Nat} (hk : Cells w k) {es : List MapEntry} {l : List (Nat × Nat)} (h : es.map (fun e => (e.key, e.val)) = l.map (fun x => (nodeP x.1, Value.int .i64 x.2))) (hx : ∀ x ∈ l, Cells w x.1 ∧ x.1 ≠ k) :
    (Instr.findKey 22 (nodeP k) es).run Tryz.prog w = .ok none w := by
  unfold Instr.findKey
  simp only [Sem.run_bind, run_underlying Tryz.underlying22, Result.andThen]
  rcases find_now k es l h with ⟨_, h1⟩ | ⟨_, h1⟩
  · rw [h1]; rfl
  · rw [h1]; exact ask_none w k hk es l 0 h hx
theorem key_some {w : World} {k v : Nat} (hk : Cells w k) {es : List MapEntry} {l : List (Nat × Nat)} (h : es.map (fun e => (e.key, e.val)) = l.map (fun x => (nodeP x.1, Value.int .i64 x.2))) (hx : ∀ x ∈ l, Cells w x.1) (hd : (l.map (·.1)).Nodup) (hm : (k, v) ∈ l) :
    ∃ j, (Instr.findKey 22 (nodeP k) es).run Tryz.prog w = .ok (some (j, .int .i64 v)) w := by
  unfold Instr.findKey
  simp only [Sem.run_bind, run_underlying Tryz.underlying22, Result.andThen]
  rcases find_now k es l h with ⟨h0, h1⟩ | ⟨_, h1⟩
  · rw [h0] at hm; cases hm
  · rw [h1]; exact ask_some w k v hk es l 0 h hx hd hm
theorem check_node (w : World) (e : Bool) (k : Nat) : (Instr.checkKey e 10000 22 (nodeP k)).run Tryz.prog w = .ok () w := by
  show (Instr.checkKey e (9999 + 1) _ _).run Tryz.prog w = _
  unfold Instr.checkKey nodeP
  simp only [Sem.run_bind, run_underlying Tryz.underlying22, Result.andThen]
  rfl
theorem PMap.lookup {w : World} {b k v : Nat} {l : List (Nat × Nat)} (h : PMap w b l) (hx : ∀ x ∈ l, Cells w x.1) (hd : (l.map (·.1)).Nodup) (hm : (k, v) ∈ l) :
    (Instr.lookup 32 (.map (some b)) (nodeP k) false).run Tryz.prog w = .ok (.int .i64 v) w := by
  obtain ⟨es, clock, hb, he⟩ := h
  obtain ⟨j, hj⟩ := key_some (hx _ hm) he hx hd hm
  unfold Instr.lookup
  simp [run_underlying Tryz.underlying32, Go.MapKept.run_getObj_map hb, check_node, hj, Result.andThen]
theorem PMap.update {w : World} {b k v : Nat} {l : List (Nat × Nat)} (h : PMap w b l) (hk : Cells w k) (hx : ∀ x ∈ l, Cells w x.1 ∧ x.1 ≠ k) :
    ∃ w', (Instr.mapUpdate 32 (.map (some b)) (nodeP k) (.int .i64 v)).run Tryz.prog w = .ok () w' ∧ PMap w' b (l ++ [(k, v)]) ∧ w.grownBy w' (some b) := by
  obtain ⟨es, clock, hb, he⟩ := h
  have hj := key_none hk he hx
  refine ⟨setBlock w b (.map (es.push ⟨nodeP k, .int .i64 v, clock⟩) (clock + 1)), ?_, ⟨_, _, heap_setBlock_same hb _, ?_⟩, ⟨rfl, rfl, rfl, by simp [setBlock], fun i _ hi => heap_setBlock_other hb _ (fun e => hi (by rw [e]))⟩⟩
  · unfold Instr.mapUpdate
    simp [run_underlying Tryz.underlying32, Go.MapKept.run_getObj_map hb, check_node, hj, Go.MapKept.run_setObj_map _ hb, Result.andThen, setBlock]
  · rw [Array.toList_push, List.map_append, List.map_append, he]
    rfl
theorem wpList_mapUpdate_node (w : World) {ops : Array Oper} {rest : List Oper} {o : Oper} {a : Act} {Q : Exit → Act → World → Prop}
    (hg : o.guard = none) (m x y : Operand) (hop : o.op = Op.mapUpdate 32 m x y) (b k v : Nat) (l : List (Nat × Nat))
    (hm : a.eval m = .map (some b)) (hx : a.eval x = nodeP k) (hv : a.eval y = .int .i64 v) (h : PMap w b l) (hk : Cells w k) (hl : ∀ x ∈ l, Cells w x.1 ∧ x.1 ≠ k)
    (hK : ∀ w', PMap w' b (l ++ [(k, v)]) → w.grownBy w' (some b) → wpList Tryz.prog ops Q rest (a.put o.dst undef) w') :
    wpList Tryz.prog ops Q (o :: rest) a w := by
  refine wpList_plain hg fun K' hK' => ?_
  obtain ⟨w', hrun, r1, r2⟩ := h.update (v := v) hk hl
  unfold Oper.wp
  simp [execOp, hop, hm, hx, hv, hrun, Result.andThen]
  exact hK' _ _ (hK w' r1 r2)
theorem wpList_lookup_node (w : World) {ops : Array Oper} {rest : List Oper} {o : Oper} {a : Act} {Q : Exit → Act → World → Prop}
    (hg : o.guard = none) (m x : Operand) (hop : o.op = Op.lookup 32 m x false) (b k v : Nat) (l : List (Nat × Nat))
    (hm : a.eval m = .map (some b)) (hx : a.eval x = nodeP k) (h : PMap w b l) (hl : ∀ x ∈ l, Cells w x.1) (hd : (l.map (·.1)).Nodup) (hin : (k, v) ∈ l)
    (hK : wpList Tryz.prog ops Q rest (a.put o.dst (.int .i64 v)) w) :
    wpList Tryz.prog ops Q (o :: rest) a w := by
  refine wpList_plain hg fun K' hK' => ?_
  have hrun := h.lookup hl hd hin
  unfold Oper.wp
  simp [execOp, hop, hm, hx, hrun, Result.andThen]
  exact hK' _ _ hK
theorem PMap.len {w : World} {b : Nat} {l : List (Nat × Nat)} (h : PMap w b l) : ∃ es clock, w.heap[b]? = some (.map es clock) ∧ es.size = l.length := by
  obtain ⟨es, clock, hb, he⟩ := h
  refine ⟨es, clock, hb, ?_⟩
  have := congrArg List.length he
  simpa using this
end Go.Proofs.YtgifgiipojedbaaGreatDoor

namespace Go.Proofs.YtgifgiipojedbaaGreatDoor
open Go Go.RowKit
set_option maxRecDepth 100000
set_option linter.unusedVariables false

set_option maxHeartbeats 4000000 in
theorem walk_Nu (p0 : Addr) {σ : Type} (Inv : σ → World → Prop) (g : σ → ATree → Bool × σ) (B : Nat) : ∀ (m : Nat) (a : ATree), a.many ≤ m → (∀ s w, Inv s w → TreeAt w B a) →
    ∀ s, (∀ x s', Reach g a s x s' → ∀ w, Inv s' w → Calls Tryz.prog 49 #[x.ptr, .pointer (some p0)] w fun e w' => e = .returned (.bool (g s' x).1) ∧ Inv (g s' x).2 w') →
    ∀ w, Inv s w → Calls Tryz.prog 18 #[a.ptr, .func (.func 49) #[] #[.pointer (some p0)]] w fun e w' => e = .returned (.tuple #[]) ∧ Inv (walkA g a s) w' := by
  intro m
  induction m with
  | zero => intro a h; exfalso; cases a; simp [ATree.many] at h
  | succ m ih =>
    intro a hm hT s hg w hI
    have IH := Lib.hid ih
    have HT := Lib.hid hT
    have HG := Lib.hid hg
    have HM := Lib.hid hm
    have HC := hg a s (.self a s) w hI
    rw [walkA_eq]
    unfold ATree.ptr at HC ⊢
    have hkid : ∀ (i : Nat) (k x : ATree) (s' : σ), (g s a).1 = true → a.kids[i]? = some k → Reach g k (walkL g (a.kids.take i) (g s a).2) x s' → Reach g a s x s' := fun i k x s' h1 h2 h3 => .kid h1 h2 h3
    obtain ⟨ok, s1, hgs⟩ : ∃ ok s1, g s a = (ok, s1) := ⟨_, _, rfl⟩
    rw [hgs] at HC hkid ⊢
    have HKID := Lib.hid hkid
    clear hkid
    have HC := Lib.hid HC
    clear ih hT hg hm hI hgs
    cases ok
    · go_enter Tryz.func18, Tryz.ntmps18
      go_wp2_with fail
      refine HC.out.mono ?_
      rintro e w1 ⟨rfl, hI1⟩
      have HI1 := Lib.hid hI1
      clear hI1 HC
      go_wp2
      refine bodyPost_ret (results_none rfl _ _ _) rfl ?_
      exact ⟨rfl, HI1.out⟩
    · simp only [if_true]
      go_enter Tryz.func18, Tryz.ntmps18
      go_wp2_with fail
      refine HC.out.mono ?_
      rintro e w1 ⟨rfl, hI1⟩
      have hT1 := HT.out _ _ hI1
      have hblk := hT1.blkOf
      have hrow := hT1.rowOf
      obtain ⟨p, cp, hv⟩ : ∃ p cp, a.v = .slice p a.kids.length cp := by
        rcases ownsRow_cases hrow with ⟨h1, h2⟩ | ⟨g0, cap0, h1, _⟩
        · exact ⟨none, 0, by rw [h1, h2]⟩
        · exact ⟨_, _, h1⟩
      rw [hv] at hblk
      have c3 : w1.cell? ⟨a.b, 3, none⟩ = some (.slice p a.kids.length cp) := by simp [World.cell?, hblk]
      have hlen : a.kids.length ≤ 9223372036854775807 := by
        rcases ownsRow_cases hrow with ⟨h1, h2⟩ | ⟨g0, cap0, h1, k1, k2, k3⟩
        · omega
        · unfold maxLen at k2; omega
      have HI1 := Lib.hid hI1
      have HV := Lib.hid hv
      obtain ⟨n, hn⟩ : ∃ n, n = a.kids.length := ⟨_, rfl⟩
      rw [← hn] at c3 hlen
      have HN := Lib.hid hn
      clear hI1 hT1 hblk hrow hv hn HC
      go_wp2_with fail
      go_loopw [19] (fun i wr => ∃ k : Nat, k ≤ n ∧ i = .int .i64 k ∧ Hid (Inv (walkL g (a.kids.take k) s1) wr)) (fun i _ => n - (intOf i).toNat)
      case atStart => exact ⟨0, Nat.zero_le _, rfl, Lib.hid (by simpa [walkL] using HI1.out)⟩
      case round =>
        obtain ⟨k, hk, rfl, HI⟩ := hrel
        by_cases hkn : k < n
        · obtain ⟨x, hx⟩ : ∃ x, a.kids[k]? = some x := ⟨_, List.getElem?_eq_getElem (by rw [← HN.out]; exact hkn)⟩
          have hT2 := HT.out _ _ HI.out
          have hrow := hT2.rowOf
          rcases ownsRow_cases hrow with ⟨_, h2⟩ | ⟨g0, cap0, hv0, k1, k2, k3⟩
          · rw [← HN.out] at h2; omega
          have hp : p = some ⟨g0, 0, none⟩ := by
            have := HV.out.symm.trans hv0
            simp only [Value.slice.injEq] at this
            exact this.1
          subst hp
          have cx := ownsRow_cell1 hrow (g := g0) (by rw [hv0]; rfl) (i := k) (x := x.ptr) (by rw [List.getElem?_map, hx]; rfl)
          unfold ATree.ptr at cx
          have hmem : x ∈ a.kids := List.mem_of_getElem? hx
          have hcall := IH.out x (by have := many_kid hmem; have := HM.out; omega) (fun s w h => (HT.out s w h).kid hmem) _ (fun y s' hy => HG.out y s' (HKID.out k x y s' (by first | rfl | trivial) hx hy)) _ HI.out
          unfold ATree.ptr at hcall
          have HCALL := Lib.hid hcall
          have HX := Lib.hid hx
          have hge : n ≤ cp := by
            have := HV.out.symm.trans hv0
            simp only [Value.slice.injEq] at this
            rw [HN.out, this.2.2]; exact k1
          clear hx hT2 hrow hv0 k1 k2 k3 hmem hcall
          go_wp2_with fail
          refine HCALL.out.mono ?_
          rintro e w2 ⟨rfl, hI2⟩
          have HI2 := Lib.hid hI2
          clear hI2 HCALL
          go_wp2
          go_roundw
          case rel => exact ⟨k + 1, by omega, by go_num, Lib.hid (by rw [take_succ_kid HX.out, walkL_snoc]; exact HI2.out)⟩
          case measure => simp [intOf]; omega
        · have hk2 : k = n := by omega
          subst hk2
          go_wp2
          go_end0
          refine ⟨rfl, ?_⟩
          have := HI.out
          rwa [List.take_of_length_le (by rw [← HN.out]; exact Nat.le_refl _)] at this
end Go.Proofs.YtgifgiipojedbaaGreatDoor

namespace Go.Proofs.YtgifgiipojedbaaGreatDoor
open Go Go.RowKit
set_option maxRecDepth 100000
set_option linter.unusedVariables false

def numG (l : List (Nat × Nat)) (a : ATree) : Bool × List (Nat × Nat) := (true, l ++ [(a.b, l.length)])
mutual
theorem num_keys : ∀ (a : ATree) (l : List (Nat × Nat)), (walkA numG a l).map (·.1) = l.map (·.1) ++ a.subs.map (·.b)
  | .mk b v k t n ks, l => by
    simp only [walkA, numG, if_true, ATree.subs, List.map_cons]
    rw [num_keysL ks]
    simp [ATree.b]
theorem num_keysL : ∀ (ks : List ATree) (l : List (Nat × Nat)), (walkL numG ks l).map (·.1) = l.map (·.1) ++ (subsL ks).map (·.b)
  | [], l => by simp [walkL, subsL]
  | a :: ks, l => by
    simp only [walkL, subsL, List.map_append]
    rw [num_keysL ks, num_keys a, List.append_assoc]
end
theorem subsL_app (l m : List ATree) : subsL (l ++ m) = subsL l ++ subsL m := by
  induction l with
  | nil => rfl
  | cons a l ih => simp only [List.cons_append, subsL, ih, List.append_assoc]
theorem subs_eq (a : ATree) : a.subs = a :: subsL a.kids := by cases a; rfl
theorem subsL_at {l : List ATree} {i : Nat} {k : ATree} (h : l[i]? = some k) : subsL l = subsL (l.take i) ++ (k.subs ++ subsL (l.drop (i + 1))) := by
  obtain ⟨hi, hk⟩ := List.getElem?_eq_some_iff.1 h
  have : l = l.take i ++ (k :: l.drop (i + 1)) := by
    rw [← hk, List.getElem_cons_drop, List.take_append_drop]
  rw [show subsL l = subsL (l.take i ++ (k :: l.drop (i + 1))) from congrArg subsL this, subsL_app]
  rfl
theorem reach_fresh {a x : ATree} {s s' : List (Nat × Nat)} (h : Reach numG a s x s') : (s.map (·.1) ++ a.subs.map (·.b)).Nodup → x.b ∉ s'.map (·.1) := by
  induction h with
  | self a s =>
    intro hd hin
    exact (List.nodup_append.1 hd).2.2 _ hin _ (List.mem_map.2 ⟨a, subs_self a, rfl⟩) rfl
  | @kid a k x s s' i ok hk h ih =>
    intro hd
    refine ih ?_
    rw [num_keysL]
    simp only [numG, List.map_append, List.map_cons, List.map_nil]
    refine List.Nodup.sublist ?_ hd
    rw [subs_eq a, subsL_at hk]
    simp only [List.map_cons, List.map_append, List.append_assoc, List.cons_append, List.nil_append]
    refine List.Sublist.append (List.Sublist.refl _) (List.Sublist.cons_cons _ (List.Sublist.append (List.Sublist.refl _) (List.sublist_append_left _ _)))

/-- the map and its cell -/
structure NInv (w0 : World) (c mb : Nat) (l : List (Nat × Nat)) (w : World) : Prop where
  cell : w.heap[c]? = some (.cells #[.map (some mb)] 32 (0, 0))
  map : PMap w mb l
  bel : Below w0.heap.size w0 w
  le : w0.heap.size ≤ mb
  has : ∀ x ∈ l, Cells w0 x.1
theorem Cells.bel {w0 w : World} {k : Nat} (h : Cells w0 k) (g : Below w0.heap.size w0 w) : Cells w k := by
  obtain ⟨c, t, h⟩ := h
  exact ⟨c, t, (g.block k (Array.getElem?_eq_some_iff.1 h).1).trans h⟩
theorem TreeAt.cellsOf {w : World} {B : Nat} {a : ATree} (h : TreeAt w B a) : Cells w a.b := ⟨_, _, h.blkOf⟩

set_option maxHeartbeats 2000000 in
theorem num1_any (w0 : World) (c mb B : Nat) (hcm : c ≠ mb) (x : ATree) (hx : TreeAt w0 B x) (l : List (Nat × Nat)) (w : World) (hI : NInv w0 c mb l w) (hf : x.b ∉ l.map (·.1)) :
    Calls Tryz.prog 49 #[x.ptr, .pointer (some ⟨c, 0, none⟩)] w fun e w' => e = .returned (.bool (numG l x).1) ∧ NInv w0 c mb (numG l x).2 w' := by
  have HI := Lib.hid hI
  obtain ⟨es, clock, hb, hes⟩ := hI.map.len
  have hln : ∀ ty, (Builtin.len_ #[32] ty #[.map (some mb)]).run Tryz.prog w = .ok (.int .i64 es.size) w := fun ty => by
    simp [Builtin.len_, run_underlying Tryz.underlying32, Go.MapKept.run_getObj_map hb, Result.andThen, goInt]
  have cc : w.cell? ⟨c, 0, none⟩ = some (.map (some mb)) := by simp [World.cell?, hI.cell]
  have HK := Lib.hid (hx.cellsOf.bel hI.bel)
  have HL := Lib.hid (show ∀ y ∈ l, Cells w y.1 ∧ y.1 ≠ x.b from fun y hy => ⟨(hI.has y hy).bel hI.bel, fun e => hf (List.mem_map.2 ⟨y, hy, e⟩)⟩)
  have HX := Lib.hid hx
  have HE := Lib.hid hes
  have HB := Lib.hid (Array.getElem?_eq_some_iff.1 hI.cell).1
  clear hI hx hf hes
  unfold ATree.ptr
  simp only [numG]
  go_enter Tryz.func49, Tryz.ntmps49
  go_wp2_with (at_mapUpdate; go_must (refine wpList_mapUpdate_node _ rfl _ _ _ rfl mb x.b es.size l rfl rfl rfl HI.out.map HK.out HL.out ?_); intro w1 hp1 hg1; have HP := Lib.hid hp1; have HG := Lib.hid hg1; clear hp1 hg1)
  go_ret
  refine ⟨rfl, ?_, ?_, ?_, HI.out.le, ?_⟩
  · exact (HG.out.block c HB.out (fun e => hcm (Option.some.inj e))).trans HI.out.cell
  · rw [← HE.out]; exact HP.out
  · exact HI.out.bel.grown HG.out HI.out.bel.size fun k hk => by cases hk; exact HI.out.le
  · intro y hy
    rcases List.mem_append.1 hy with h | h
    · exact HI.out.has y h
    · simp only [List.mem_singleton] at h
      rw [h]
      exact HX.out.cellsOf

theorem subs_length (a : ATree) : a.subs.length = a.many := by
  obtain ⟨b, v, k, t, n, ks⟩ := a
  simp only [ATree.subs, ATree.many, List.length_cons, subsL_len]
set_option maxHeartbeats 2000000 in
theorem number_any (w : World) (B : Nat) (a : ATree) (hT : TreeAt w B a) (hd : (a.subs.map (·.b)).Nodup) :
    Calls Tryz.prog 16 #[a.ptr] w fun e w' => ∃ mb, e = .returned (.map (some mb)) ∧ PMap w' mb (walkA numG a []) ∧ Below w.heap.size w w' ∧ w.heap.size ≤ mb := by
  have hmf : ∀ (fn : Fn) (first cap : Array Value) (w : World), (Instr.makeFunc fn first cap).run Tryz.prog w = .ok (.func fn first cap) w := fun _ _ _ _ => rfl
  have hmm : ∀ w : World, (Instr.makeMap 32 none).run Tryz.prog w = .ok (.map (some w.heap.size)) (w.alloc (.map #[] 0)) := fun w => run_makeMap _ w
  have HW := Lib.hid (fun (w1 : World) (h : NInv w (w.heap.size + 1) w.heap.size [] w1) => walk_Nu ⟨w.heap.size + 1, 0, none⟩ (NInv w (w.heap.size + 1) w.heap.size) numG B a.many a (Nat.le_refl _) (fun s w1 h => hT.keep fun k _ hk => h.bel.block k hk) []
    (fun x s hx w1 h => num1_any w (w.heap.size + 1) w.heap.size B (by omega) x (subs_tree hT hx.sub) s w1 h (reach_fresh hx (by simpa using hd))) w1 h)
  have hstart : NInv w (w.heap.size + 1) w.heap.size [] ((w.alloc (.map #[] 0)).alloc (.cells #[.map (some w.heap.size)] 32)) := by
    refine ⟨?_, ⟨#[], 0, ?_, rfl⟩, ((Below.refl _ _).alloc (Nat.le_refl _) _).alloc (by simp) _, Nat.le_refl _, fun _ h => by cases h⟩
    · have := (Go.MapKept.heap_alloc (w.alloc (.map #[] 0)) (.cells #[.map (some w.heap.size)] 32)).1
      simpa using this
    · exact ((Go.MapKept.heap_alloc (w.alloc (.map #[] 0)) (.cells #[.map (some w.heap.size)] 32)).2 _ (by simp)).trans (Go.MapKept.heap_alloc w (.map #[] 0)).1
  have HS := Lib.hid hstart
  clear hstart hT hd
  unfold ATree.ptr at HW ⊢
  go_enter Tryz.func16, Tryz.ntmps16
  go_wp2_with fail
  refine (HW.out _ HS.out).mono ?_
  rintro e w1 ⟨rfl, hI⟩
  have cc : w1.cell? ⟨w.heap.size + 1, 0, none⟩ = some (.map (some w.heap.size)) := by simp [World.cell?, hI.cell]
  have HI := Lib.hid hI
  clear hI HS HW
  go_wp2
  go_ret
  exact ⟨_, rfl, HI.out.map, HI.out.bel, HI.out.le⟩
end Go.Proofs.YtgifgiipojedbaaGreatDoor

namespace Go.Proofs.YtgifgiipojedbaaGreatDoor
open Go Go.RowKit
set_option maxRecDepth 100000
set_option linter.unusedVariables false

set_option maxHeartbeats 4000000 in
theorem walk_Ev (p0 : Addr) {σ : Type} (Inv : σ → World → Prop) (g : σ → ATree → Bool × σ) (B : Nat) : ∀ (m : Nat) (a : ATree), a.many ≤ m → (∀ s w, Inv s w → TreeAt w B a) →
    ∀ s, (∀ x s', Reach g a s x s' → ∀ w, Inv s' w → Calls Tryz.prog 69 #[x.ptr, .pointer (some p0)] w fun e w' => e = .returned (.bool (g s' x).1) ∧ Inv (g s' x).2 w') →
    ∀ w, Inv s w → Calls Tryz.prog 18 #[a.ptr, .func (.func 69) #[] #[.pointer (some p0)]] w fun e w' => e = .returned (.tuple #[]) ∧ Inv (walkA g a s) w' := by
  intro m
  induction m with
  | zero => intro a h; exfalso; cases a; simp [ATree.many] at h
  | succ m ih =>
    intro a hm hT s hg w hI
    have IH := Lib.hid ih
    have HT := Lib.hid hT
    have HG := Lib.hid hg
    have HM := Lib.hid hm
    have HC := hg a s (.self a s) w hI
    rw [walkA_eq]
    unfold ATree.ptr at HC ⊢
    have hkid : ∀ (i : Nat) (k x : ATree) (s' : σ), (g s a).1 = true → a.kids[i]? = some k → Reach g k (walkL g (a.kids.take i) (g s a).2) x s' → Reach g a s x s' := fun i k x s' h1 h2 h3 => .kid h1 h2 h3
    obtain ⟨ok, s1, hgs⟩ : ∃ ok s1, g s a = (ok, s1) := ⟨_, _, rfl⟩
    rw [hgs] at HC hkid ⊢
    have HKID := Lib.hid hkid
    clear hkid
    have HC := Lib.hid HC
    clear ih hT hg hm hI hgs
    cases ok
    · go_enter Tryz.func18, Tryz.ntmps18
      go_wp2_with fail
      refine HC.out.mono ?_
      rintro e w1 ⟨rfl, hI1⟩
      have HI1 := Lib.hid hI1
      clear hI1 HC
      go_wp2
      refine bodyPost_ret (results_none rfl _ _ _) rfl ?_
      exact ⟨rfl, HI1.out⟩
    · simp only [if_true]
      go_enter Tryz.func18, Tryz.ntmps18
      go_wp2_with fail
      refine HC.out.mono ?_
      rintro e w1 ⟨rfl, hI1⟩
      have hT1 := HT.out _ _ hI1
      have hblk := hT1.blkOf
      have hrow := hT1.rowOf
      obtain ⟨p, cp, hv⟩ : ∃ p cp, a.v = .slice p a.kids.length cp := by
        rcases ownsRow_cases hrow with ⟨h1, h2⟩ | ⟨g0, cap0, h1, _⟩
        · exact ⟨none, 0, by rw [h1, h2]⟩
        · exact ⟨_, _, h1⟩
      rw [hv] at hblk
      have c3 : w1.cell? ⟨a.b, 3, none⟩ = some (.slice p a.kids.length cp) := by simp [World.cell?, hblk]
      have hlen : a.kids.length ≤ 9223372036854775807 := by
        rcases ownsRow_cases hrow with ⟨h1, h2⟩ | ⟨g0, cap0, h1, k1, k2, k3⟩
        · omega
        · unfold maxLen at k2; omega
      have HI1 := Lib.hid hI1
      have HV := Lib.hid hv
      obtain ⟨n, hn⟩ : ∃ n, n = a.kids.length := ⟨_, rfl⟩
      rw [← hn] at c3 hlen
      have HN := Lib.hid hn
      clear hI1 hT1 hblk hrow hv hn HC
      go_wp2_with fail
      go_loopw [19] (fun i wr => ∃ k : Nat, k ≤ n ∧ i = .int .i64 k ∧ Hid (Inv (walkL g (a.kids.take k) s1) wr)) (fun i _ => n - (intOf i).toNat)
      case atStart => exact ⟨0, Nat.zero_le _, rfl, Lib.hid (by simpa [walkL] using HI1.out)⟩
      case round =>
        obtain ⟨k, hk, rfl, HI⟩ := hrel
        by_cases hkn : k < n
        · obtain ⟨x, hx⟩ : ∃ x, a.kids[k]? = some x := ⟨_, List.getElem?_eq_getElem (by rw [← HN.out]; exact hkn)⟩
          have hT2 := HT.out _ _ HI.out
          have hrow := hT2.rowOf
          rcases ownsRow_cases hrow with ⟨_, h2⟩ | ⟨g0, cap0, hv0, k1, k2, k3⟩
          · rw [← HN.out] at h2; omega
          have hp : p = some ⟨g0, 0, none⟩ := by
            have := HV.out.symm.trans hv0
            simp only [Value.slice.injEq] at this
            exact this.1
          subst hp
          have cx := ownsRow_cell1 hrow (g := g0) (by rw [hv0]; rfl) (i := k) (x := x.ptr) (by rw [List.getElem?_map, hx]; rfl)
          unfold ATree.ptr at cx
          have hmem : x ∈ a.kids := List.mem_of_getElem? hx
          have hcall := IH.out x (by have := many_kid hmem; have := HM.out; omega) (fun s w h => (HT.out s w h).kid hmem) _ (fun y s' hy => HG.out y s' (HKID.out k x y s' (by first | rfl | trivial) hx hy)) _ HI.out
          unfold ATree.ptr at hcall
          have HCALL := Lib.hid hcall
          have HX := Lib.hid hx
          have hge : n ≤ cp := by
            have := HV.out.symm.trans hv0
            simp only [Value.slice.injEq] at this
            rw [HN.out, this.2.2]; exact k1
          clear hx hT2 hrow hv0 k1 k2 k3 hmem hcall
          go_wp2_with fail
          refine HCALL.out.mono ?_
          rintro e w2 ⟨rfl, hI2⟩
          have HI2 := Lib.hid hI2
          clear hI2 HCALL
          go_wp2
          go_roundw
          case rel => exact ⟨k + 1, by omega, by go_num, Lib.hid (by rw [take_succ_kid HX.out, walkL_snoc]; exact HI2.out)⟩
          case measure => simp [intOf]; omega
        · have hk2 : k = n := by omega
          subst hk2
          go_wp2
          go_end0
          refine ⟨rfl, ?_⟩
          have := HI.out
          rwa [List.take_of_length_le (by rw [← HN.out]; exact Nat.le_refl _)] at this
end Go.Proofs.YtgifgiipojedbaaGreatDoor

namespace Go.Proofs.YtgifgiipojedbaaGreatDoor
open Go Go.RowKit
set_option maxRecDepth 100000
set_option linter.unusedVariables false

def s_evalW : ByteArray := ⟨#[101, 118, 97, 108]⟩
def isEvalCall (a : ATree) : Bool := a.kind == 35 && (match a.kids with | k :: _ => k.kind == 23 && sameS k.text s_evalW | [] => false)
def evalsG (s : Bool) (a : ATree) : Bool × Bool := (!isInner a, s || isEvalCall a)
/-- a cell of a truth value; all below as it was -/
structure EInv (w0 : World) (c : Nat) (s : Bool) (w : World) : Prop where
  cell : w.heap[c]? = some (.cells #[.bool s] 4 (0, 0))
  bel : Below w0.heap.size w0 w
theorem EInv.set {w0 w : World} {c : Nat} {s : Bool} (h : EInv w0 c s w) (hc : w0.heap.size ≤ c) (r : Bool) : EInv w0 c r (w.setCell ⟨c, 0, none⟩ (.bool r)) :=
  ⟨setCell_block (o := 0) (.bool r) h.cell, h.bel.setCell (p := ⟨c, 0, none⟩) hc _⟩

set_option maxHeartbeats 8000000 in
theorem evals1_any (w0 : World) (c B : Nat) (hc : w0.heap.size ≤ c) (x : ATree) (hx : TreeAt w0 B x) (hkid : x.kind = 35 → x.kids ≠ []) (s : Bool) (w : World) (hI : EInv w0 c s w) :
    Calls Tryz.prog 69 #[x.ptr, .pointer (some ⟨c, 0, none⟩)] w fun e w' => e = .returned (.bool (evalsG s x).1) ∧ EInv w0 c (evalsG s x).2 w' := by
  have hxw : TreeAt w B x := hx.keep fun k _ hk => hI.bel.block k hk
  have c0 := hxw.c0
  have cc : w.cell? ⟨c, 0, none⟩ = some (.bool s) := by simp [World.cell?, hI.cell]
  have cz : w.frozen? ⟨c, 0, none⟩ = false := by simp [World.frozen?, hI.cell]
  have HS : Hid (∀ r, EInv w0 c r (w.setCell ⟨c, 0, none⟩ (.bool r))) := Lib.hid fun r => hI.set hc r
  have hne : x.b ≠ c := by have := hx.lt; omega
  have hlt : x.b < w.heap.size := hxw.lt
  unfold evalsG isInner isEvalCall ATree.ptr
  by_cases h35 : x.kind = 35
  · obtain ⟨k, ks, hks⟩ : ∃ k ks, x.kids = k :: ks := by
      cases h : x.kids with
      | nil => exact absurd h (hkid h35)
      | cons k ks => exact ⟨k, ks, rfl⟩
    obtain ⟨p, cp, hv, hge, hmx⟩ := hxw.vOf
    have c3 := hxw.c3
    rw [hv] at c3
    have hpos : 0 < x.kids.length := by rw [hks]; simp
    have hrow := hxw.rowOf
    obtain ⟨g, hp⟩ : ∃ g, p = some ⟨g, 0, none⟩ := by
      rcases ownsRow_cases hrow with ⟨_, h2⟩ | ⟨g, cap, h1, _⟩
      · omega
      · rw [hv] at h1; simp only [Value.slice.injEq] at h1; exact ⟨g, h1.1⟩
    subst hp
    have ck := ownsRow_cell1 hrow (g := g) (by rw [hv]; rfl) (i := 0) (x := k.ptr) (by rw [hks]; rfl)
    have hk := hxw.kid (k := k) (by rw [hks]; simp)
    have k0 := hk.c0
    have k1 := hk.c1
    unfold ATree.ptr at ck
    rw [hks]
    rw [h35] at c0
    obtain ⟨n, hn⟩ : ∃ n, n = x.kids.length := ⟨_, rfl⟩
    rw [← hn] at c3 hpos hge
    unfold maxLen at hmx
    simp only [h35]
    obtain ⟨kk, hkk⟩ : ∃ kk, kk = k.kind := ⟨_, rfl⟩
    obtain ⟨kt, hkt⟩ : ∃ kt, kt = k.text := ⟨_, rfl⟩
    rw [← hkk] at k0 ⊢
    rw [← hkt] at k1 ⊢
    clear hxw hx hkid hI hks hrow hv hk hkk hkt hn h35 hc
    cases s
    · by_cases h23 : kk = 23
      · subst h23
        by_cases he : kt = s_evalW
        · subst he
          rw [show sameS s_evalW s_evalW = true by simp [sameS]]
          unfold s_evalW at k1
          go_enter Tryz.func69, Tryz.ntmps69
          go_wp2
          go_ret
          exact ⟨rfl, HS.out _⟩
        · have hne1 : sameS kt s_evalW = false := by simp [sameS, he]
          rw [hne1]
          have hne2 : (kt.toList == s_evalW.toList) = false := by rw [toList_beq]; exact hne1
          have hne3 : (kt.toList == [101, 118, 97, 108]) = false := by
            have : s_evalW.toList = [101, 118, 97, 108] := by kernel_rfl
            rwa [this] at hne2
          clear hne1 hne2 he
          go_enter Tryz.func69, Tryz.ntmps69
          go_wp2
          go_ret
          exact ⟨rfl, HS.out _⟩
      · have n23 : (kk == 23) = false := by simpa using h23
        rw [n23]
        clear h23
        go_enter Tryz.func69, Tryz.ntmps69
        go_wp2
        go_ret
        exact ⟨rfl, HS.out _⟩
    · go_enter Tryz.func69, Tryz.ntmps69
      go_wp2
      go_ret
      exact ⟨rfl, HS.out _⟩
  · have n35 : (x.kind == 35) = false := by simpa using h35
    rw [n35]
    simp only [Bool.false_and, Bool.or_false]
    obtain ⟨kd, hkd⟩ : ∃ kd, kd = x.kind := ⟨_, rfl⟩
    rw [← hkd] at c0 n35 ⊢
    clear hxw hx hkid hI hkd h35 hc
    cases s <;> rcases (by omega : kd = 5 ∨ kd = 37 ∨ (kd ≠ 5 ∧ kd ≠ 37)) with h3 | h3 | ⟨h3, h4⟩
    iterate 2
      · subst h3
        go_enter Tryz.func69, Tryz.ntmps69
        go_wp2
        go_ret
        exact ⟨rfl, HS.out _⟩
      · subst h3
        go_enter Tryz.func69, Tryz.ntmps69
        go_wp2
        go_ret
        exact ⟨rfl, HS.out _⟩
      · have n3 : (kd == 5) = false := by simpa using h3
        have n4 : (kd == 37) = false := by simpa using h4
        have m3 : (kd != 5) = true := by simpa using h3
        have m4 : (kd != 37) = true := by simpa using h4
        clear h3 h4
        rw [n3, n4]
        go_enter Tryz.func69, Tryz.ntmps69
        go_wp2
        go_ret
        exact ⟨rfl, HS.out _⟩

def evalsF (a : ATree) : Bool := walkA evalsG a false
def CallKids (a : ATree) : Prop := ∀ x ∈ a.subs, x.kind = 35 → x.kids ≠ []
set_option maxHeartbeats 2000000 in
theorem evals_any (w : World) (B : Nat) (a : ATree) (hT : TreeAt w B a) (hk : CallKids a) :
    Calls Tryz.prog 37 #[a.ptr] w fun e w' => e = .returned (.bool (evalsF a)) ∧ Below w.heap.size w w' := by
  have hmf : ∀ (fn : Fn) (first cap : Array Value) (w : World), (Instr.makeFunc fn first cap).run Tryz.prog w = .ok (.func fn first cap) w := fun _ _ _ _ => rfl
  have HW := Lib.hid (fun (w1 : World) (h : EInv w w.heap.size false w1) => walk_Ev ⟨w.heap.size, 0, none⟩ (EInv w w.heap.size) evalsG B a.many a (Nat.le_refl _) (fun s w1 h => hT.keep fun k _ hk => h.bel.block k hk) false
    (fun x s hx w1 h => evals1_any w w.heap.size B (Nat.le_refl _) x (subs_tree hT hx.sub) (hk x hx.sub) s w1 h) w1 h)
  have hstart : EInv w w.heap.size false (w.alloc (.cells #[.bool false] 4)) :=
    ⟨(Go.MapKept.heap_alloc w _).1, (Below.refl _ _).alloc (Nat.le_refl _) _⟩
  have HS := Lib.hid hstart
  clear hstart hT hk
  unfold ATree.ptr at HW ⊢
  unfold evalsF
  go_enter Tryz.func37, Tryz.ntmps37
  go_wp2_with fail
  refine (HW.out _ HS.out).mono ?_
  rintro e w1 ⟨rfl, hI⟩
  have cc : w1.cell? ⟨w.heap.size, 0, none⟩ = some (.bool (walkA evalsG a false)) := by simp [World.cell?, hI.cell]
  have HI := Lib.hid hI
  clear hI HS HW
  go_wp2
  go_ret
  exact ⟨rfl, HI.out.bel⟩
end Go.Proofs.YtgifgiipojedbaaGreatDoor
