/- The document's lists of texts: has, add. The document's All: a node and all within, as Walk comes to them. The document's Vars: what it tells is what package hoist's does. -/
import Derived.Test.YtfappndicnneoaaGreatDoorJ01
import Derived.Test.YtfappndicnneoaaGreatDoorJ12
import Derived.Test.YtfappndicnneoaaGreatDoorJ19
import Derived.Test.YtfappndicnneoaaGreatDoorJ11
import Derived.Test.YtfappndicnneoaaGreatDoorJ15
namespace Go.Proofs.YtfappndicnneoaaGreatDoor
open Go Go.RowKit
set_option maxRecDepth 100000
set_option linter.unusedVariables false
theorem run_append_none {P : Program} (w : World) (base : Nat) (t ty e : TypeId) (i : TypeInfo) (size : Nat) (ht : P.underlying t = some (.slice e)) (hi : P.info? e = some i)
 (v : Value) (n : Nat) (xs : List Value) (hown : w.ownsRow base e size v n xs) (p : Option Addr) (c : Nat) :
 (Builtin.append_ #[t, t] ty #[v, .slice p 0 c]).run P w = .ok v w := by
 rcases hown.2 with ⟨rfl, rfl⟩ | ⟨g, cap, cur, rfl, _, _, hnc, _⟩
 ·cases p <;> simp [Builtin.append_, run_underlying ht, sizeOf, typeInfo, hi, Builtin.lenOf, Builtin.firstCells, loadCells, loadCellsFrom, Result.andThen]
 ·cases p <;> simp [Builtin.append_, run_underlying ht, sizeOf, typeInfo, hi, Builtin.lenOf, Builtin.firstCells, hnc, storeCells, loadCells, loadCellsFrom, Result.andThen]
theorem wpList_append_none {P : Program} {w : World} {ops : Array Oper} {rest : List Oper} {o : Oper} {a : Act} {Q : Exit → Act → World → Prop} (hgd : o.guard = none) (s x : Operand) (t : TypeId)
 (ho : o.op = .call { callee := .builtin .append, args := #[s, x], argTypes := #[t, t] })
 (base : Nat) (e : TypeId) (i : TypeInfo) (size : Nat) (ht : P.underlying t = some (.slice e)) (hi : P.info? e = some i)
 (v : Value) (n : Nat) (xs : List Value) (hs : a.eval s = v) (hown : w.ownsRow base e size v n xs) (p : Option Addr) (c : Nat) (hx : a.eval x = .slice p 0 c)
 (h : wpList P ops Q rest (a.put o.dst v) w) : wpList P ops Q (o :: rest) a w := by
 refine wpList_plain hgd fun K hK => ?_
 have hrun := run_append_none (P := P) w base t o.type e i size ht hi v n xs hown p c
 unfold Oper.wp
 simp [execOp, ho, resolve, invoke, builtin, hs, hx, hrun, Result.andThen]
 exact hK _ _ h
theorem has_step {l : List ByteArray} {k : Nat} {x s : ByteArray} (h : ∀ j y, j < k → l[j]? = some y → y ≠ s) (hx : l[k]? = some x) (hn : x ≠ s) : ∀ j y, j < k + 1 → l[j]? = some y → y ≠ s := by
 intro j y hj hy
 by_cases e : j = k
 ·subst e
  rw [hx] at hy
  cases hy
  exact hn
 ·exact h j y (by omega) hy
theorem contains_no {l : List ByteArray} {s : ByteArray} (h : ∀ j y, j < l.length → l[j]? = some y → y ≠ s) : Lib.containsS l s = false := by
 cases e : Lib.containsS l s with
 | false => rfl
 | true =>
   exfalso
   have hm : s ∈ l := (Lib.containsS_iff _ _).1 e
   obtain ⟨j, hj, hy⟩ := List.getElem_of_mem hm
   exact h j s hj (by rw [List.getElem?_eq_getElem hj, hy]) rfl
theorem contains_yes {l : List ByteArray} {s : ByteArray} {k : Nat} (h : l[k]? = some s) : Lib.containsS l s = true := by
 exact (Lib.containsS_iff _ _).2 (List.mem_of_getElem? h)
set_option maxHeartbeats 4000000 in
theorem has_any {w : World} {B : Nat} {v : Value} {l : List ByteArray} (hv : Texts w B v l) (s : ByteArray) :
 Calls Tryz.prog 35 #[v, .string s] w fun e w' => e = .returned (.bool (Lib.containsS l s)) ∧ w' = w := by
 obtain ⟨p, cp, rfl, hge, hmx⟩ : ∃ p cp, v = .slice p l.length cp ∧ l.length ≤ cp ∧ cp ≤ maxLen := by
  rcases hv.form with ⟨h1, h2⟩ | ⟨g, cap, h1, h2, h3⟩
  ·exact ⟨none, 0, by rw [h1, h2]; rfl, by rw [h2]; exact Nat.le_refl _, by unfold maxLen; omega⟩
  ·exact ⟨_, _, h1, h2, h3⟩
 unfold maxLen at hmx
 obtain ⟨n, hn⟩ : ∃ n, n = l.length := ⟨_, rfl⟩
 have HV := lh hv
 rw [← hn] at hge HV ⊢
 have HN := lh hn
 clear hv hn
 go_enter Tryz.func35, Tryz.ntmps35
 go_wp2_with fail
 go_loopw [9] (fun i wr => ∃ k : Nat, k ≤ n ∧ i = .int .i64 k ∧ wr = w ∧ Hid (∀ j y, j < k → l[j]? = some y → y ≠ s)) (fun i _ => n - (intOf i).toNat)
 case atStart => exact ⟨0, Nat.zero_le _, rfl, rfl, lh (fun j y hj => by omega)⟩
 case round =>
  obtain ⟨k, hk, rfl, rfl, NO⟩ := hrel
  by_cases hkn : k < n
  ·obtain ⟨x, hx⟩ : ∃ x, l[k]? = some x := ⟨_, List.getElem?_eq_getElem (by rw [← HN.out]; exact hkn)⟩
   obtain ⟨g0, hp⟩ : ∃ g, p = some ⟨g, 0, none⟩ := by
    rcases HV.out.form with ⟨h1, h2⟩ | ⟨g, cap, h1, _⟩
    ·rw [h2] at hx; simp at hx
    ·simp only [Value.slice.injEq] at h1; exact ⟨g, h1.1⟩
   subst hp
   have cx := HV.out.cells rfl hx
   have HX := lh hx
   clear hx
   by_cases hs : x = s
   ·subst hs
    have hb : (x.toList == x.toList) = true := beq_self_eq_true _
    go_wp2
    go_ret
    rw [contains_yes HX.out]
    exact ⟨rfl, rfl⟩
   ·have hb : (x.toList == s.toList) = false := by
     have h : ¬ x.toList = s.toList := fun h => hs (toList_inj h)
     simpa using h
    have HS := lh hs
    clear hs
    go_wp2
    go_roundw
    case rel => exact ⟨k + 1, by omega, by go_num, by first | rfl | trivial, lh (has_step NO.out HX.out HS.out)⟩
    case measure => simp [intOf]; omega
  ·have hk2 : k = n := by omega
   subst hk2
   go_wp2
   go_ret
   rw [contains_no (by rw [← HN.out]; exact NO.out)]
   exact ⟨rfl, rfl⟩
set_option maxHeartbeats 8000000 in
theorem radd_any (w : World) (B : Nat) (v : Value) (l : List ByteArray) (s : ByteArray) (hv : Texts w B v l) (hB : B ≤ w.heap.size) (hn : l.length < 1099511627776) :
 Calls Tryz.prog 22 #[v, .string s] w fun e w' => ∃ v', e = .returned v' ∧ Texts w' B v' (addL l s) ∧ Below w.heap.size w w' := by
 obtain ⟨i0, hi, hz0, hz1, hz2⟩ := info_parts Tryz.infoStr
 have HH := lh (has_any hv s)
 have HV := lh hv
 have HBB := lh hB
 unfold addL
 cases hc : Lib.containsS l s with
 | true =>
   rw [hc] at HH
   clear hv hn hc
   go_enter Tryz.func22, Tryz.ntmps22
   go_wp2_with fail
   refine HH.out.mono ?_
   rintro e w1 ⟨rfl, rfl⟩
   go_wp2
   go_ret
   exact ⟨v, rfl, HV.out, Below.refl _ _⟩
 | false =>
   rw [hc] at HH
   have hal : Below w.heap.size w (w.alloc (.cells #[] 9)) := (Below.refl _ _).alloc (Nat.le_refl _) _
   have hrow : (w.alloc (.cells #[] 9)).ownsRow w.heap.size 9 1 (.slice (some ⟨w.heap.size, 0, none⟩) 0 0) 0 [] :=
    ⟨by simp, .inr ⟨w.heap.size, 0, #[], rfl, Nat.le_refl _, heap_alloc_new w _, by simp, by unfold maxLen; omega, by simp, by simp⟩⟩
   have ROW := lh hrow
   have HAL := lh hal
   clear hrow hal hc
   by_cases hl : l = []
   ·obtain ⟨p, c, rfl⟩ : ∃ p c, v = .slice p 0 c := by
     rcases hv.form with ⟨h1, _⟩ | ⟨g, cap, h1, _⟩
     ·exact ⟨none, 0, h1⟩
     ·exact ⟨some ⟨g, 0, none⟩, cap, by rw [h1, hl]; rfl⟩
    subst hl
    clear hv hn
    go_enter Tryz.func22, Tryz.ntmps22
    go_wp2_with fail
    refine HH.out.mono ?_
    rintro e w1 ⟨rfl, rfl⟩
    go_wp2_with (at_builtin; first | (refine wpList_append_none rfl (.tmp 9) (.tmp 10) 30 rfl w1.heap.size 9 i0 1 Tryz.underlying30 hi (.slice (some ⟨w1.heap.size, 0, none⟩) 0 0) 0 [] rfl ROW.out p c rfl ?_) | (refine wpList_append_lies _ rfl (.tmp 11) (.tmp 13) 30 rfl w1.heap.size 9 i0 (.string ByteArray.empty) 1 16 Tryz.underlying30 hi hz0 hz1 hz2 rfl (by decide) (.slice (some ⟨w1.heap.size, 0, none⟩) 0 0) 0 [] rfl (ROW.out.alloc _) ⟨w1.heap.size + 1, 0, none⟩ 1 1 [.string s] rfl rfl (World.news_of_block (cs := #[.string s]) (t := 9) (fr := (0, 0)) (by have := heap_alloc_new (w1.alloc (.cells #[] 9)) (.cells #[.string s] 9); simpa using this)) (by intro u hu; simp at hu; subst hu; rfl) (by omega) (by unfold maxLen; omega) (by omega) (by simp; omega) (w1.heap.size + 1 + 1) (by simp) ?_; intro g2 cap2 w2 hown2 hgrow2 hat2 hgl2; have HG := lh hgrow2; have HW := lh hown2; clear hgrow2 hown2 hat2 hgl2))
    go_ret
    refine ⟨_, rfl, Texts.base (B := w1.heap.size) HW.out HBB.out, ?_⟩
    exact (HAL.out.alloc (by simp) _).grown HG.out (by simp; omega) fun k hk => by
     simp only [Value.ownBlock, Option.some.injEq] at hk
     omega
   ·rcases hv.form with ⟨_, h2⟩ | ⟨g, cap, rfl, hle, hm⟩
    ·exact absurd h2 hl
    have hpos : 0 < l.length := List.length_pos_iff.2 hl
    have hglt := (World.ownsRow.lt hv g rfl).2
    have NEWS := lh (show ∀ (j : Nat) (u : Value), (l.map Value.string)[j]? = some u → (w.alloc (.cells #[] 9)).cell? ((⟨g, 0, none⟩ : Addr).add j) = some u from fun j u hu => by
     have hadd : (⟨g, 0, none⟩ : Addr).add j = ⟨g, j, none⟩ := by unfold Addr.add; split <;> simp_all
     rw [hadd]
     exact (cell_old hglt).trans (ownsRow_cell1 hv (g := g) rfl hu))
    obtain ⟨n, hnn⟩ : ∃ n, n = l.length := ⟨_, rfl⟩
    rw [← hnn] at HH HV hpos hn hle ⊢
    have HN := lh hnn
    clear hv hnn hl
    go_enter Tryz.func22, Tryz.ntmps22
    go_wp2_with fail
    refine HH.out.mono ?_
    rintro e w1 ⟨rfl, rfl⟩
    go_wp2_with (at_builtin; first | (refine wpList_append_lies _ rfl (.tmp 9) (.tmp 10) 30 rfl w1.heap.size 9 i0 (.string ByteArray.empty) 1 16 Tryz.underlying30 hi hz0 hz1 hz2 rfl (by decide) (.slice (some ⟨w1.heap.size, 0, none⟩) 0 0) 0 [] rfl ROW.out ⟨g, 0, none⟩ n cap (l.map Value.string) rfl (by simp [HN.out]) NEWS.out (fun u hu => by obtain ⟨z, _, rfl⟩ := List.mem_map.1 hu; rfl) (by omega) (by unfold maxLen; omega) (by omega) (by simp) (w1.heap.size + 1) (by simp) ?_; intro g2 cap2 w2 hown2 hgrow2 hat2 hgl2; have HG := lh hgrow2; have HW := lh (show w2.ownsRow w1.heap.size 9 1 (.slice (some ⟨g2, 0, none⟩) n cap2) n (l.map Value.string) from by rw [Nat.zero_add, List.nil_append] at hown2; exact hown2); have HS2 := hgrow2.size; clear hgrow2 hown2 hat2 hgl2) | (go_must (refine wpList_append_lies _ rfl (.tmp 11) (.tmp 13) 30 rfl w1.heap.size 9 i0 (.string ByteArray.empty) 1 16 Tryz.underlying30 hi hz0 hz1 hz2 rfl (by decide) (.slice (some ⟨g2, 0, none⟩) n cap2) n (l.map Value.string) rfl (HW.out.alloc _) ⟨w2.heap.size, 0, none⟩ 1 1 [.string s] rfl rfl (World.news_of_block (cs := #[.string s]) (t := 9) (fr := (0, 0)) (heap_alloc_new w2 _)) (by intro u hu; simp at hu; subst hu; rfl) (by omega) (by unfold maxLen; omega) (by omega) (by simp at HS2 ⊢; omega) (w2.heap.size + 1) (by simp) ?_); intro g3 cap3 w3 hown3 hgrow3 hat3 hgl3; have HG3 := lh hgrow3; have HW3 := lh hown3; clear hgrow3 hown3 hat3 hgl3))
    go_ret
    refine ⟨_, rfl, ?_, ?_⟩
    ·have h1 := HW3.out
     have h2 : Texts w3 w1.heap.size (.slice (some ⟨g3, 0, none⟩) (n + 1) cap3) (l ++ [s]) := by
      unfold Texts
      rw [List.length_append, List.map_append, ← HN.out]
      exact h1
     exact Texts.base h2 HBB.out
    ·have hb1 := HAL.out.grown HG.out (by simp) fun k hk => by
      simp only [Value.ownBlock, Option.some.injEq] at hk
      omega
     exact (hb1.alloc hb1.size _).grown HG3.out (by have := hb1.size; simp; omega) fun k hk => (World.ownsRow.lt HW.out k hk).1
theorem kids_many (a : ATree) : a.kids.length < a.many := by
 have key : ∀ l : List ATree, l.length ≤ manyLA l := by
  intro l
  induction l with
  | nil => simp [manyLA]
  | cons x l ih =>
    simp only [manyLA, List.length_cons]
    have : 0 < x.many := by cases x; simp [ATree.many]
    omega
 obtain ⟨b, v, k, t, n, ks⟩ := a
 have := key ks
 simp only [ATree.kids, ATree.many]
 omega
theorem subsL_le {l : List ATree} {k : Nat} : (subsL (l.take k)).length ≤ (subsL l).length := by
 have e : subsL l = subsL (l.take k) ++ subsL (l.drop k) := by rw [← subsL_app, List.take_append_drop]
 rw [e, List.length_append]; omega
theorem subsL_next {l : List ATree} {k : Nat} {x : ATree} (h : l[k]? = some x) : subsL (l.take (k + 1)) = subsL (l.take k) ++ x.subs := by
 rw [take_succ_kid h, subsL_app]; simp [subsL]
theorem subs_pos (a : ATree) : 0 < a.subs.length := by rw [subs_eq]; simp
set_option maxHeartbeats 8000000 in
theorem all_any (n0 : Nat) : ∀ (a : ATree), a.many ≤ n0 → a.many ≤ 100000 → ∀ (w : World) (B0 : Nat), TreeAt w B0 a →
 Calls Tryz.prog 5 #[a.ptr] w fun e w' => ∃ v, e = .returned v ∧ Nodes w' w.heap.size v a.subs ∧ Below w.heap.size w w' := by
 induction n0 with
 | zero => intro a h; cases a; simp [ATree.many] at h
 | succ n0 ih =>
 intro a hn hmx w B0 hT
 obtain ⟨i0, hi, hz0, hz1, hz2⟩ := info_parts Tryz.infoPtr
 have HIH := lh ih
 have hblk := hT.blkOf
 have hrow := hT.rowOf
 obtain ⟨p, cp, hv, hge⟩ : ∃ p cp, a.v = .slice p a.kids.length cp ∧ a.kids.length ≤ cp := by
  rcases ownsRow_cases hrow with ⟨h1, h2⟩ | ⟨g0, cap0, h1, h2, _⟩
  ·exact ⟨none, 0, by rw [h1, h2], by omega⟩
  ·exact ⟨_, _, h1, h2⟩
 have c3 : w.cell? ⟨a.b, 3, none⟩ = some (.slice p a.kids.length cp) := by rw [← hv]; simp [World.cell?, hblk]
 have hkm := kids_many a
 have hlen : a.kids.length ≤ 100000 := by omega
 have hab : a.b < w.heap.size := hT.lt
 have HT := lh hT
 have HV := lh hv
 have HNN := lh hn
 have HMX := lh hmx
 have hsl : (a :: subsL a.kids).length ≤ 100000 := by rw [← subs_eq, subs_length]; exact hmx
 have HSL := lh hsl
 have ST := lh (show Nodes (w.alloc (.cells #[a.ptr] 22)) w.heap.size (.slice (some ⟨w.heap.size, 0, none⟩) 1 1) (a :: subsL (a.kids.take 0)) from row_new (l := [a]) (Nat.le_refl _) (by simp))
 have SB := lh ((Below.refl w.heap.size w).alloc (Nat.le_refl _) (.cells #[a.ptr] 22))
 unfold ATree.ptr at ST SB ⊢
 obtain ⟨n, hnn⟩ : ∃ n, n = a.kids.length := ⟨_, rfl⟩
 rw [← hnn] at c3 hlen hge
 have HN := lh hnn
 have HC3 := lh c3
 have c3' : (w.alloc (.cells #[.pointer (some ⟨a.b, 0, none⟩)] 22)).cell? ⟨a.b, 3, none⟩ = some (.slice p n cp) := (cell_old hab).trans c3
 clear hblk hrow hv hnn hT hkm hsl ih hn hmx
 go_enter Tryz.func5, Tryz.ntmps5
 go_wp2_with fail
 go_loopw [3, 15] (fun v i wr => ∃ (k : Nat) (v' : Value), v' = v ∧ k ≤ n ∧ i = .int .i64 k ∧ Hid (Nodes wr w.heap.size v' (a :: subsL (a.kids.take k))) ∧ Hid (Below w.heap.size w wr)) (fun _ i _ => n - (intOf i).toNat)
 case atStart => exact ⟨0, _, rfl, Nat.zero_le _, rfl, ST, SB⟩
 case round =>
  obtain ⟨k, v, rfl, hk, rfl, HR, HB⟩ := hrel
  clear ST SB
  by_cases hkn : k < n
  ·obtain ⟨x, hx⟩ : ∃ x, a.kids[k]? = some x := ⟨_, List.getElem?_eq_getElem (by rw [← HN.out]; exact hkn)⟩
   have hT2 := HT.out.bel HB.out
   have hrow := hT2.rowOf
   rcases ownsRow_cases hrow with ⟨_, h2⟩ | ⟨g0, cap0, hv0, _⟩
   ·rw [← HN.out] at h2; omega
   have hp : p = some ⟨g0, 0, none⟩ := by
    have := HV.out.symm.trans hv0
    simp only [Value.slice.injEq] at this
    exact this.1
   subst hp
   have cx := ownsRow_cell1 hrow (g := g0) (by rw [hv0]; rfl) (i := k) (x := x.ptr) (by rw [List.getElem?_map, hx]; rfl)
   unfold ATree.ptr at cx
   have hmem := List.mem_of_getElem? hx
   have hTx := hT2.kid hmem
   have hxm := many_kid hmem
   have HC := lh (HIH.out x (by have := HNN.out; omega) (by have := HMX.out; omega) wr B0 hTx)
   have HNX := lh (subsL_next hx)
   have HPO := lh (subs_pos x)
   have HL2 := lh (show (a :: subsL (a.kids.take (k + 1))).length ≤ 100000 from Nat.le_trans (by simp only [List.length_cons]; have := subsL_le (l := a.kids) (k := k + 1); omega) HSL.out)
   unfold ATree.ptr at HC
   clear hT2 hrow hv0 hTx hxm hmem hx
   go_wp2_with fail
   refine HC.out.mono ?_
   rintro e w1 ⟨vk, rfl, hNk, hB1⟩
   obtain ⟨L, hL⟩ : ∃ L, L = a :: subsL (a.kids.take k) := ⟨_, rfl⟩
   have hNR := HR.out
   rw [← hL] at hNR
   rcases hNk.form with ⟨_, h2⟩ | ⟨g1, cap1, rfl, hc1, hc2⟩
   ·have := HPO.out; rw [h2] at this; simp at this
   have hL2 := HL2.out
   have hLx : L ++ x.subs = a :: subsL (a.kids.take (k + 1)) := by rw [HNX.out, hL]; rfl
   rw [← hLx, List.length_append] at hL2
   have HLX := lh hLx
   have hR1 : Nodes w1 w.heap.size v L := ownsRow_block hNR fun j hj => hB1.block j (World.ownsRow.lt hNR j hj).2
   have hg1 : wr.heap.size ≤ g1 ∧ g1 < w1.heap.size := World.ownsRow.lt hNk g1 rfl
   have NEWS := lh (show ∀ (j : Nat) (u : Value), (x.subs.map ATree.ptr)[j]? = some u → w1.cell? ((⟨g1, 0, none⟩ : Addr).add j) = some u from fun j u hu => by
    have hadd : (⟨g1, 0, none⟩ : Addr).add j = ⟨g1, j, none⟩ := by unfold Addr.add; split <;> simp_all
    rw [hadd]
    exact ownsRow_cell1 hNk (g := g1) rfl hu)
   obtain ⟨m, hm⟩ : ∃ m, m = x.subs.length := ⟨_, rfl⟩
   have hm0 : 0 < m := by rw [hm]; exact HPO.out
   have hLm : L.length + m ≤ 100000 := by rw [hm]; exact hL2
   rw [← hm] at hc1 ⊢
   have HM := lh hm
   have HNR := lh hR1
   have HNR0 := lh hNR
   have HB1 := lh hB1
   have HNF := lh (show v.ownBlock ≠ some g1 from fun e => by have := (World.ownsRow.lt hNR g1 e).2; omega)
   have HG1 := lh hg1
   have hBS := HB.out.size
   have hB1s := hB1.size
   clear hNk hL hNR hL2 hLx hR1 hg1 hm hB1 HC HR HNX HL2
   go_wp2_with (at_builtin; go_must (refine wpList_append_lies _ rfl (.tmp 19) (.tmp 21) 25 rfl w.heap.size 22 i0 _ 1 8 Tryz.underlying25 hi hz0 hz1 hz2 rfl (by decide) v L.length (L.map ATree.ptr) rfl HNR.out ⟨g1, 0, none⟩ m cap1 (x.subs.map ATree.ptr) rfl (by simp [HM.out]) NEWS.out (fun u hu => by obtain ⟨z, _, rfl⟩ := List.mem_map.1 hu; rfl) (by omega) (by unfold maxLen; omega) (by omega) (by omega) w1.heap.size (by simp) ?_); intro gg cap w2 hown2 hgrow2 hat2 hgl2; have HG := lh hgrow2; have HW := lh hown2; clear hgrow2 hown2 hat2 hgl2)
   go_roundw
   case rel =>
    refine ⟨k + 1, _, rfl, by omega, by go_num, lh ?_, lh ?_⟩
    ·rw [← HLX.out]
     unfold Nodes
     rw [List.length_append, List.map_append, ← HM.out]
     exact HW.out
    ·exact (HB.out.trans (HB1.out.mono hBS)).grown HG.out (by omega) fun j hj => (World.ownsRow.lt HNR0.out j hj).1
   case measure => simp [intOf]; omega
  ·have hk2 : k = n := by omega
   subst hk2
   go_wp2
   go_ret
   refine ⟨_, rfl, ?_, HB.out⟩
   have := HR.out
   rwa [List.take_of_length_le (by rw [← HN.out]; exact Nat.le_refl _), ← subs_eq] at this
def mergeS (l m : List ByteArray) : List ByteArray := m.foldl addL l
theorem addL_keep {l : List ByteArray} {s x : ByteArray} (h : x ∈ l) : x ∈ addL l s := by
 unfold addL
 split
 ·exact h
 ·exact List.mem_append_left _ h
theorem addL_self (l : List ByteArray) (s : ByteArray) : s ∈ addL l s := by
 unfold addL
 split
 ·rename_i h; exact (Lib.containsS_iff _ _).1 h
 ·simp
theorem mergeS_mem : ∀ (m l : List ByteArray) (x : ByteArray), x ∈ l ∨ x ∈ m → x ∈ mergeS l m := by
 intro m
 induction m with
 | nil => intro l x h; rcases h with h | h; (exact h); (cases h)
 | cons y m ih =>
   intro l x h
   refine ih (addL l y) x ?_
   rcases h with h | h
   ·exact .inl (addL_keep h)
   ·rcases List.mem_cons.1 h with rfl | h
    ·exact .inl (addL_self _ _)
    ·exact .inr h
theorem mergeS_addL (l m : List ByteArray) (s : ByteArray) : mergeS l (addL m s) = addL (mergeS l m) s := by
 by_cases h : Lib.containsS m s = true
 ·have h1 : addL m s = m := by unfold addL; rw [if_pos h]
  have h2 : Lib.containsS (mergeS l m) s = true := (Lib.containsS_iff _ _).2 (mergeS_mem m l s (.inr ((Lib.containsS_iff _ _).1 h)))
  rw [h1]
  conv => rhs; unfold addL
  rw [if_pos h2]
 ·have h1 : addL m s = m ++ [s] := by unfold addL; rw [if_neg h]
  rw [h1]
  simp [mergeS, List.foldl_append]
def ownV (a : ATree) (l : List ByteArray) : List ByteArray := if a.kind == 2 then addL l a.text else l
theorem walkV_eq (a : ATree) (l : List ByteArray) : walkA varsG a l = cond (isInner a) (ownV a l) (walkL varsG a.kids (ownV a l)) := by
 rw [walkA_eq]
 have h1 : (varsG l a).1 = !isInner a := rfl
 have h2 : (varsG l a).2 = ownV a l := rfl
 rw [h2]
 cases hi : isInner a with
 | true => rw [if_neg (by rw [h1, hi]; decide)]; rfl
 | false => rw [if_pos (by rw [h1, hi]; rfl)]; rfl
theorem merge_own (a : ATree) (l m : List ByteArray) : mergeS l (ownV a m) = ownV a (mergeS l m) := by
 unfold ownV
 by_cases h : (a.kind == 2) = true
 ·rw [if_pos h, if_pos h, mergeS_addL]
 ·rw [if_neg h, if_neg h]
theorem own_len (a : ATree) (l : List ByteArray) : (ownV a l).length ≤ l.length + 1 := by
 unfold ownV
 split
 ·exact addL_len _ _
 ·omega
mutual
theorem merge_walk : ∀ (a : ATree) (l m : List ByteArray), mergeS l (walkA varsG a m) = walkA varsG a (mergeS l m)
 | .mk b v k t n ks, l, m => by
   rw [walkV_eq, walkV_eq]
   cases isInner (.mk b v k t n ks) with
   | true => simp only [cond_true]; exact merge_own _ _ _
   | false => simp only [cond_false, ATree.kids]; rw [merge_walkL ks, merge_own]
theorem merge_walkL : ∀ (ks : List ATree) (l m : List ByteArray), mergeS l (walkL varsG ks m) = walkL varsG ks (mergeS l m)
 | [], l, m => by simp only [walkL]
 | a :: ks, l, m => by
   simp only [walkL]
   rw [merge_walkL ks, merge_walk a]
end
mutual
theorem walkV_len : ∀ (a : ATree) (l : List ByteArray), (walkA varsG a l).length ≤ l.length + a.many
 | .mk b v k t n ks, l => by
   rw [walkV_eq]
   have h0 := own_len (.mk b v k t n ks) l
   cases isInner (.mk b v k t n ks) with
   | true => simp only [cond_true, ATree.many]; omega
   | false =>
     simp only [cond_false, ATree.kids, ATree.many]
     have := walkV_lenL ks (ownV (.mk b v k t n ks) l)
     omega
theorem walkV_lenL : ∀ (ks : List ATree) (l : List ByteArray), (walkL varsG ks l).length ≤ l.length + manyLA ks
 | [], l => by simp [walkL]
 | a :: ks, l => by
   simp only [walkL, manyLA]
   have h1 := walkV_len a l
   have h2 := walkV_lenL ks (walkA varsG a l)
   omega
end
theorem varsF_len (a : ATree) : (varsF a).length ≤ a.many := by
 have := walkV_lenL a.kids []
 obtain ⟨b, v, k, t, n, ks⟩ := a
 unfold varsF
 simp only [ATree.kids, List.length_nil, ATree.many] at this ⊢
 omega
theorem vars_kid (x : ATree) (l : List ByteArray) : walkA varsG x l = cond (isInner x) (ownV x l) (mergeS (ownV x l) (varsF x)) := by
 rw [walkV_eq]
 cases isInner x with
 | true => rfl
 | false =>
   simp only [cond_false]
   unfold varsF
   rw [merge_walkL]
   rfl
theorem mergeS_take {l m : List ByteArray} {j : Nat} {s : ByteArray} (h : m[j]? = some s) : mergeS l (m.take (j + 1)) = addL (mergeS l (m.take j)) s := by
 have e : m.take (j + 1) = m.take j ++ [s] := by rw [List.take_add_one, h]; rfl
 rw [e]
 simp [mergeS, List.foldl_append]
theorem mergeS_len (l m : List ByteArray) : (mergeS l m).length ≤ l.length + m.length := by
 induction m generalizing l with
 | nil => simp [mergeS]
 | cons x m ih =>
   have h1 := ih (addL l x)
   have h2 := addL_len l x
   simp only [mergeS, List.foldl_cons, List.length_cons] at h1 ⊢
   omega
set_option maxHeartbeats 2000000 in
theorem risFunc_any (w : World) (B : Nat) (a : ATree) (hT : TreeAt w B a) :
 Calls Tryz.prog 23 #[a.ptr] w fun e w' => e = .returned (.bool (isInner a)) ∧ w' = w := by
 have c0 := hT.c0
 unfold isInner ATree.ptr
 obtain ⟨kd, hkd⟩ : ∃ kd, kd = a.kind := ⟨_, rfl⟩
 rw [← hkd] at c0 ⊢
 clear hkd hT
 rcases (by omega : kd = 5 ∨ kd = 37 ∨ (kd ≠ 5 ∧ kd ≠ 37)) with h3 | h3 | ⟨h3, h4⟩
 ·subst h3
  go_enter Tryz.func23, Tryz.ntmps23
  go_wp2
  go_ret
  exact ⟨rfl, rfl⟩
 ·subst h3
  go_enter Tryz.func23, Tryz.ntmps23
  go_wp2
  go_ret
  exact ⟨rfl, rfl⟩
 ·have n3 : (kd == 5) = false := by simpa using h3
  have n4 : (kd == 37) = false := by simpa using h4
  clear h3 h4
  rw [n3, n4]
  go_enter Tryz.func23, Tryz.ntmps23
  go_wp2
  go_ret
  exact ⟨rfl, rfl⟩
set_option maxHeartbeats 16000000 in
theorem rvars_any (n0 : Nat) : ∀ (a : ATree), a.many ≤ n0 → a.many ≤ 100000 → ∀ (w : World) (B0 : Nat), TreeAt w B0 a →
 Calls Tryz.prog 8 #[a.ptr] w fun e w' => ∃ v, e = .returned v ∧ Texts w' w.heap.size v (varsF a) ∧ Below w.heap.size w w' := by
 induction n0 with
 | zero => intro a h; cases a; simp [ATree.many] at h
 | succ n0 ih =>
 intro a hn hmx w B0 hT
 have HIH := lh ih
 obtain ⟨p, cp, hv, hge, hgm⟩ := hT.vOf
 have c3 := hT.c3
 rw [hv] at c3
 have hkm := kids_many a
 have hlen : a.kids.length ≤ 100000 := by omega
 have HT := lh hT
 have HV := lh hv
 have HNN := lh hn
 have HMX := lh hmx
 have HLEN := lh (show ∀ k, (walkL varsG (a.kids.take k) []).length ≤ 100000 from fun k => by
  have h1 := walkV_lenL (a.kids.take k) []
  have h2 : manyLA (a.kids.take k) ≤ manyLA a.kids := by
   rw [← subsL_len, ← subsL_len]; exact subsL_le
  have h3 : manyLA a.kids < a.many := by obtain ⟨b, v, kk, t, n, ks⟩ := a; simp only [ATree.kids, ATree.many]; omega
  simp only [List.length_nil] at h1
  omega)
 unfold ATree.ptr
 unfold varsF
 obtain ⟨n, hnn⟩ : ∃ n, n = a.kids.length := ⟨_, rfl⟩
 rw [← hnn] at c3 hlen hge
 have HN := lh hnn
 unfold maxLen at hgm
 clear hv hnn hT hkm ih hn hmx
 go_enter Tryz.func8, Tryz.ntmps8
 go_wp2_with fail
 go_loopw [3, 15] (fun v i wr => ∃ (k : Nat) (v' : Value), v' = v ∧ k ≤ n ∧ i = .int .i64 k ∧ Hid (Texts wr w.heap.size v' (walkL varsG (a.kids.take k) [])) ∧ Hid (Below w.heap.size w wr)) (fun _ i _ => n - (intOf i).toNat)
 case atStart => exact ⟨0, _, rfl, Nat.zero_le _, rfl, lh (Texts.nil _ _), lh (Below.refl _ _)⟩
 case round =>
  obtain ⟨k, v, rfl, hk, rfl, HR, HB⟩ := hrel
  by_cases hkn : k < n
  ·obtain ⟨x, hx⟩ : ∃ x, a.kids[k]? = some x := ⟨_, List.getElem?_eq_getElem (by rw [← HN.out]; exact hkn)⟩
   have hT2 := HT.out.bel HB.out
   have hrow := hT2.rowOf
   rcases ownsRow_cases hrow with ⟨_, h2⟩ | ⟨g0, cap0, hv0, _⟩
   ·rw [← HN.out] at h2; omega
   have hp : p = some ⟨g0, 0, none⟩ := by
    have := HV.out.symm.trans hv0
    simp only [Value.slice.injEq] at this
    exact this.1
   subst hp
   have cx := ownsRow_cell1 hrow (g := g0) (by rw [hv0]; rfl) (i := k) (x := x.ptr) (by rw [List.getElem?_map, hx]; rfl)
   unfold ATree.ptr at cx
   have hmem := List.mem_of_getElem? hx
   have hTx := hT2.kid hmem
   have hxm := many_kid hmem
   have x0 := hTx.c0
   have x1 := hTx.c1
   have HTX := lh hTx
   have HXM := lh hxm
   have HNX := lh (show walkL varsG (a.kids.take (k + 1)) [] = walkA varsG x (walkL varsG (a.kids.take k) []) from by rw [take_succ_kid hx, walkL_snoc])
   obtain ⟨L, hL⟩ : ∃ L, L = walkL varsG (a.kids.take k) [] := ⟨_, rfl⟩
   have HLL := lh hL
   have hl1 : L.length ≤ 100000 := by rw [hL]; exact HLEN.out k
   rw [← hL] at HR HNX
   obtain ⟨kd, hkd⟩ : ∃ kd, kd = x.kind := ⟨_, rfl⟩
   obtain ⟨tx, htx⟩ : ∃ tx, tx = x.text := ⟨_, rfl⟩
   rw [← hkd] at x0
   rw [← htx] at x1
   have HKD := lh hkd
   have HTXT := lh htx
   have HSZ := lh HB.out.size
   clear hT2 hrow hv0 hTx hxm hmem hx hL hkd htx
   by_cases h2 : kd = 2
   ·subst h2
    have HA := lh (radd_any wr w.heap.size v L tx HR.out HSZ.out (by omega))
    go_wp2_with fail
    refine HA.out.mono ?_
    rintro e w1 ⟨v1, rfl, ht1, hb1⟩
    obtain ⟨L1, hL1⟩ : ∃ L1, L1 = addL L tx := ⟨_, rfl⟩
    have HL1 := lh (show ownV x L = L1 from by rw [hL1]; unfold ownV; rw [← HKD.out, ← HTXT.out]; rfl)
    have HL1L := lh (show L1.length ≤ 100001 from by rw [hL1]; have := addL_len L tx; omega)
    rw [← hL1] at ht1
    have T1 := lh ht1
    have BWR := lh hb1
    have BW := lh (HB.out.trans (hb1.mono HB.out.size))
    clear ht1 hb1 HA hL1
    have HTX1 := lh (HTX.out.bel BWR.out)
    have HI := lh (risFunc_any w1 _ x HTX1.out)
    have HSW := lh (BW.out.size)
    unfold ATree.ptr at HI
    cases hin : isInner x with
    | true =>
      rw [hin] at HI
      have HFI := lh (show walkL varsG (a.kids.take (k + 1)) [] = L1 from by rw [HNX.out, vars_kid, hin]; simp only [cond_true]; exact HL1.out)
      clear hin
      go_wp2_with fail
      refine HI.out.mono ?_
      rintro e w2 ⟨rfl, hw2⟩
      have hw3 := hw2.symm
      subst hw3
      go_wp2
      go_roundw
      case rel => exact ⟨k + 1, _, rfl, by omega, by go_num, lh (by rw [HFI.out]; exact T1.out), BW⟩
      case measure => simp [intOf]; omega
    | false =>
      rw [hin] at HI
      have HFI := lh (show walkL varsG (a.kids.take (k + 1)) [] = mergeS L1 (varsF x) from by rw [HNX.out, vars_kid, hin]; simp only [cond_false]; rw [HL1.out])
      have HC := lh (HIH.out x (by have := HNN.out; have := HXM.out; omega) (by have := HMX.out; have := HXM.out; omega) w1 _ HTX1.out)
      unfold ATree.ptr at HC
      clear hin
      go_wp2_with fail
      refine HI.out.mono ?_
      rintro e w2 ⟨rfl, hw2⟩
      have hw3 := hw2.symm
      subst hw3
      go_wp2_with fail
      refine HC.out.mono ?_
      rintro e w3 ⟨vm, rfl, htm, hb3⟩
      obtain ⟨M, hM⟩ : ∃ M, M = varsF x := ⟨_, rfl⟩
      have hml : M.length ≤ 100000 := by rw [hM]; have := varsF_len x; have := HXM.out; have := HMX.out; omega
      rw [← hM] at htm HFI
      obtain ⟨q, cq, rfl, hqe, hqm⟩ : ∃ p cp, vm = .slice p M.length cp ∧ M.length ≤ cp ∧ cp ≤ maxLen := by
       rcases htm.form with ⟨h1, h2⟩ | ⟨g, cap, h1, h2, h3⟩
       ·exact ⟨none, 0, by rw [h1, h2]; rfl, by rw [h2]; exact Nat.le_refl _, by unfold maxLen; omega⟩
       ·exact ⟨_, _, h1, h2, h3⟩
      unfold maxLen at hqm
      obtain ⟨m, hm⟩ : ∃ m, m = M.length := ⟨_, rfl⟩
      have T3 := lh (T1.out.bel hb3)
      have B3 := lh (BW.out.trans (hb3.mono BW.out.size))
      rw [← hm] at htm hqe hml ⊢
      have HM := lh hm
      have HTM := lh htm
      clear hM hm htm hb3 HC HI HR HB
      go_wp2_with fail
      go_loopw [3, 36] (fun v i wr' => ∃ (j : Nat) (v' : Value), v' = v ∧ j ≤ m ∧ i = .int .i64 j ∧ Hid (Texts wr' w.heap.size v' (mergeS L1 (M.take j))) ∧ Hid (Texts wr' w1.heap.size (.slice q m cq) M) ∧ Hid (Below w.heap.size w wr')) (fun _ i _ => m - (intOf i).toNat)
      case atStart => exact ⟨0, _, rfl, Nat.zero_le _, rfl, T3, HTM, B3⟩
      case round =>
       obtain ⟨j, v, rfl, hj, rfl, HR, HM2, HB⟩ := hrel
       clear T3 HTM B3
       by_cases hjm : j < m
       ·obtain ⟨y, hy⟩ : ∃ y, M[j]? = some y := ⟨_, List.getElem?_eq_getElem (by rw [← HM.out]; exact hjm)⟩
        obtain ⟨g1, hq⟩ : ∃ g, q = some ⟨g, 0, none⟩ := by
         rcases HM2.out.form with ⟨_, h2⟩ | ⟨g, cap, h1, _⟩
         ·rw [h2] at hy; simp at hy
         ·simp only [Value.slice.injEq] at h1; exact ⟨g, h1.1⟩
        subst hq
        have cy := HM2.out.cells rfl hy
        have HST := lh (mergeS_take (l := L1) hy)
        have hlm : (mergeS L1 (M.take j)).length ≤ 300000 := by
         have h1 := mergeS_len L1 (M.take j)
         have h2 : (M.take j).length ≤ M.length := by rw [List.length_take]; omega
         have h3 := HM.out
         have h4 := HL1L.out
         omega
        have HA := lh (radd_any _ w.heap.size v _ y HR.out HB.out.size (by omega))
        clear hy hlm
        go_wp2_with fail
        refine HA.out.mono ?_
        rintro e w4 ⟨v4, rfl, ht4, hb4⟩
        have T4 := lh ht4
        have M4 := lh (HM2.out.bel hb4)
        have B4 := lh (HB.out.trans (hb4.mono HB.out.size))
        clear ht4 hb4 HA
        go_wp2
        go_roundw
        case rel => exact ⟨j + 1, _, rfl, by omega, by go_num, lh (by rw [HST.out]; exact T4.out), M4, B4⟩
        case measure => simp [intOf]; omega
       ·have hj2 : j = m := by omega
        subst hj2
        have HFIN := lh (show Texts _ w.heap.size v (walkL varsG (a.kids.take (k + 1)) []) from by
         have := HR.out
         rw [List.take_of_length_le (by rw [← HM.out]; exact Nat.le_refl _)] at this
         rw [HFI.out]; exact this)
        go_wp2
        go_roundw
        case rel => exact ⟨k + 1, _, rfl, by omega, by go_num, HFIN, HB⟩
        case measure => simp [intOf]; omega
   ·have n2 : (kd == 2) = false := by simpa using h2
    obtain ⟨L1, hL1⟩ : ∃ L1, L1 = L := ⟨_, rfl⟩
    have HL1 := lh (show ownV x L = L1 from by rw [hL1]; unfold ownV; rw [← HKD.out, n2]; rfl)
    have HL1L := lh (show L1.length ≤ 100001 from by rw [hL1]; omega)
    rw [← hL1] at HR
    have T1 := HR
    have BW := HB
    clear hL1 h2
    have HTX1 := lh (HTX.out.bel (Below.refl _ _))
    have HI := lh (risFunc_any wr _ x HTX1.out)
    have HSW := lh (BW.out.size)
    unfold ATree.ptr at HI
    cases hin : isInner x with
    | true =>
      rw [hin] at HI
      have HFI := lh (show walkL varsG (a.kids.take (k + 1)) [] = L1 from by rw [HNX.out, vars_kid, hin]; simp only [cond_true]; exact HL1.out)
      clear hin
      go_wp2_with fail
      refine HI.out.mono ?_
      rintro e w2 ⟨rfl, hw2⟩
      have hw3 := hw2.symm
      subst hw3
      go_wp2
      go_roundw
      case rel => exact ⟨k + 1, _, rfl, by omega, by go_num, lh (by rw [HFI.out]; exact T1.out), BW⟩
      case measure => simp [intOf]; omega
    | false =>
      rw [hin] at HI
      have HFI := lh (show walkL varsG (a.kids.take (k + 1)) [] = mergeS L1 (varsF x) from by rw [HNX.out, vars_kid, hin]; simp only [cond_false]; rw [HL1.out])
      have HC := lh (HIH.out x (by have := HNN.out; have := HXM.out; omega) (by have := HMX.out; have := HXM.out; omega) wr _ HTX1.out)
      unfold ATree.ptr at HC
      clear hin
      go_wp2_with fail
      refine HI.out.mono ?_
      rintro e w2 ⟨rfl, hw2⟩
      have hw3 := hw2.symm
      subst hw3
      go_wp2_with fail
      refine HC.out.mono ?_
      rintro e w3 ⟨vm, rfl, htm, hb3⟩
      obtain ⟨M, hM⟩ : ∃ M, M = varsF x := ⟨_, rfl⟩
      have hml : M.length ≤ 100000 := by rw [hM]; have := varsF_len x; have := HXM.out; have := HMX.out; omega
      rw [← hM] at htm HFI
      obtain ⟨q, cq, rfl, hqe, hqm⟩ : ∃ p cp, vm = .slice p M.length cp ∧ M.length ≤ cp ∧ cp ≤ maxLen := by
       rcases htm.form with ⟨h1, h2⟩ | ⟨g, cap, h1, h2, h3⟩
       ·exact ⟨none, 0, by rw [h1, h2]; rfl, by rw [h2]; exact Nat.le_refl _, by unfold maxLen; omega⟩
       ·exact ⟨_, _, h1, h2, h3⟩
      unfold maxLen at hqm
      obtain ⟨m, hm⟩ : ∃ m, m = M.length := ⟨_, rfl⟩
      have T3 := lh (T1.out.bel hb3)
      have B3 := lh (BW.out.trans (hb3.mono BW.out.size))
      rw [← hm] at htm hqe hml ⊢
      have HM := lh hm
      have HTM := lh htm
      clear hM hm htm hb3 HC HI HR HB
      go_wp2_with fail
      go_loopw [3, 36] (fun v i wr' => ∃ (j : Nat) (v' : Value), v' = v ∧ j ≤ m ∧ i = .int .i64 j ∧ Hid (Texts wr' w.heap.size v' (mergeS L1 (M.take j))) ∧ Hid (Texts wr' wr.heap.size (.slice q m cq) M) ∧ Hid (Below w.heap.size w wr')) (fun _ i _ => m - (intOf i).toNat)
      case atStart => exact ⟨0, _, rfl, Nat.zero_le _, rfl, T3, HTM, B3⟩
      case round =>
       obtain ⟨j, v, rfl, hj, rfl, HR, HM2, HB⟩ := hrel
       clear T3 HTM B3
       by_cases hjm : j < m
       ·obtain ⟨y, hy⟩ : ∃ y, M[j]? = some y := ⟨_, List.getElem?_eq_getElem (by rw [← HM.out]; exact hjm)⟩
        obtain ⟨g1, hq⟩ : ∃ g, q = some ⟨g, 0, none⟩ := by
         rcases HM2.out.form with ⟨_, h2⟩ | ⟨g, cap, h1, _⟩
         ·rw [h2] at hy; simp at hy
         ·simp only [Value.slice.injEq] at h1; exact ⟨g, h1.1⟩
        subst hq
        have cy := HM2.out.cells rfl hy
        have HST := lh (mergeS_take (l := L1) hy)
        have hlm : (mergeS L1 (M.take j)).length ≤ 300000 := by
         have h1 := mergeS_len L1 (M.take j)
         have h2 : (M.take j).length ≤ M.length := by rw [List.length_take]; omega
         have h3 := HM.out
         have h4 := HL1L.out
         omega
        have HA := lh (radd_any _ w.heap.size v _ y HR.out HB.out.size (by omega))
        clear hy hlm
        go_wp2_with fail
        refine HA.out.mono ?_
        rintro e w4 ⟨v4, rfl, ht4, hb4⟩
        have T4 := lh ht4
        have M4 := lh (HM2.out.bel hb4)
        have B4 := lh (HB.out.trans (hb4.mono HB.out.size))
        clear ht4 hb4 HA
        go_wp2
        go_roundw
        case rel => exact ⟨j + 1, _, rfl, by omega, by go_num, lh (by rw [HST.out]; exact T4.out), M4, B4⟩
        case measure => simp [intOf]; omega
       ·have hj2 : j = m := by omega
        subst hj2
        have HFIN := lh (show Texts _ w.heap.size v (walkL varsG (a.kids.take (k + 1)) []) from by
         have := HR.out
         rw [List.take_of_length_le (by rw [← HM.out]; exact Nat.le_refl _)] at this
         rw [HFI.out]; exact this)
        go_wp2
        go_roundw
        case rel => exact ⟨k + 1, _, rfl, by omega, by go_num, HFIN, HB⟩
        case measure => simp [intOf]; omega
  ·have hk2 : k = n := by omega
   subst hk2
   go_wp2
   go_ret
   refine ⟨_, rfl, ?_, HB.out⟩
   have := HR.out
   rwa [List.take_of_length_le (by rw [← HN.out]; exact Nat.le_refl _)] at this
end Go.Proofs.YtfappndicnneoaaGreatDoor
