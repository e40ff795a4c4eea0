/- The document's lists of texts: has, add. The document's All: a node and all within, as Walk comes to them. The document's Vars: what it tells is what package hoist's does. -/
import Derived.Test.YtgmnfgljkocnpaaGreatDoorJ01
import Derived.Test.YtgmnfgljkocnpaaGreatDoorJ12
import Derived.Test.YtgmnfgljkocnpaaGreatDoorJ13
import Derived.Test.YtgmnfgljkocnpaaGreatDoorJ19
import Derived.Test.YtgmnfgljkocnpaaGreatDoorJ11
import Derived.Test.YtgmnfgljkocnpaaGreatDoorJ15
namespace Go.Proofs.YtgmnfgljkocnpaaGreatDoor
open Go Go.RowKit
set_option maxRecDepth 100000
set_option maxHeartbeats 20000000
set_option linter.unusedVariables false
theorem Z8k {P : Program} (w : World) (base : Nat) (t ty e : TypeId) (i : TypeInfo) (size : Nat) (ht : P.underlying t = some (.slice e)) (hi : P.info? e = some i)
 (v : Value) (n : Nat) (xs : List Value) (hown : w.ownsRow base e size v n xs) (p : Option Addr) (c : Nat) :
 (Builtin.append_ #[t, t] ty #[v, .slice p 0 c]).run P w = .ok v w := by
 rcases hown.2 with ⟨rfl, rfl⟩ | ⟨g, cap, cur, rfl, _, _, hnc, _⟩;·cases p <;> simp [Builtin.append_, run_underlying ht, sizeOf, typeInfo, hi, Builtin.lenOf, Builtin.firstCells, loadCells, loadCellsFrom, Result.andThen]
 ·cases p <;> simp [Builtin.append_, run_underlying ht, sizeOf, typeInfo, hi, Builtin.lenOf, Builtin.firstCells, hnc, storeCells, loadCells, loadCellsFrom, Result.andThen]
theorem Z3a {P : Program} {w : World} {ops : Array Oper} {rest : List Oper} {o : Oper} {a : Act} {Q : Exit → Act → World → Prop} (hgd : o.guard = none) (s x : Operand) (t : TypeId)
 (ho : o.op = .call { callee := .builtin .append, args := #[s, x], argTypes := #[t, t] })
 (base : Nat) (e : TypeId) (i : TypeInfo) (size : Nat) (ht : P.underlying t = some (.slice e)) (hi : P.info? e = some i)
 (v : Value) (n : Nat) (xs : List Value) (hs : a.eval s = v) (hown : w.ownsRow base e size v n xs) (p : Option Addr) (c : Nat) (hx : a.eval x = .slice p 0 c)
 (h : wpList P ops Q rest (a.put o.dst v) w) : wpList P ops Q (o :: rest) a w := by
 refine wpList_plain hgd fun K hK => ?_;have hrun := Z8k (P := P) w base t o.type e i size ht hi v n xs hown p c;unfold Oper.wp;simp [execOp, ho, resolve, invoke, builtin, hs, hx, hrun, Result.andThen];exact hK _ _ h
theorem Zgv {l : List ByteArray} {k : Nat} {x s : ByteArray} (h : ∀ j y, j < k → l[j]? = some y → y ≠ s) (hx : l[k]? = some x) (hn : x ≠ s) : ∀ j y, j < k + 1 → l[j]? = some y → y ≠ s := by
 intro j y hj hy;by_cases e : j = k
 ·subst e;rw [hx] at hy;cases hy;exact hn
 ·exact h j y (by omega) hy
theorem Zcj {l : List ByteArray} {s : ByteArray} (h : ∀ j y, j < l.length → l[j]? = some y → y ≠ s) : Lib.containsS l s = false := by
 cases e : Lib.containsS l s with
 | false => rfl
 | true =>
   exfalso;have hm : s ∈ l := (Lib.containsS_iff _ _).1 e;obtain ⟨j, hj, hy⟩ := List.getElem_of_mem hm;exact h j s hj (by rw [List.getElem?_eq_getElem hj, hy]) rfl
theorem Zbc {l : List ByteArray} {s : ByteArray} {k : Nat} (h : l[k]? = some s) : Lib.containsS l s = true := by
 exact (Lib.containsS_iff _ _).2 (List.mem_of_getElem? h)
theorem Zig {w : World} {B : Nat} {v : Value} {l : List ByteArray} (hv : Zy w B v l) (s : ByteArray) :
 Calls Tryz.prog 40 #[v, .string s] w fun e w' => e = .returned (.bool (Lib.containsS l s)) ∧ w' = w := by
 obtain ⟨p, cp, rfl, hge, hmx⟩ : ∃ p cp, v = .slice p l.length cp ∧ l.length ≤ cp ∧ cp ≤ maxLen := by
  rcases hv.form with ⟨h1, h2⟩ | ⟨g, cap, h1, h2, h3⟩;·exact ⟨none, 0, by rw [h1, h2]; rfl, by rw [h2]; exact Nat.le_refl _, by unfold maxLen; omega⟩
  ·exact ⟨_, _, h1, h2, h3⟩
 unfold maxLen at hmx;obtain ⟨n, hn⟩ : ∃ n, n = l.length := ⟨_, rfl⟩
 have HV := lh hv;rw [← hn] at hge HV ⊢;have HN := lh hn;clear hv hn;go_enter Tryz.func40, Tryz.ntmps40
 go_wp2_with fail
 go_loopw [9] (fun i wr => ∃ k : Nat, k ≤ n ∧ i = .int .i64 k ∧ wr = w ∧ Hid (∀ j y, j < k → l[j]? = some y → y ≠ s)) (fun i _ => n - (intOf i).toNat)
 case atStart => exact ⟨0, Nat.zero_le _, rfl, rfl, lh (fun j y hj => by omega)⟩
 case round =>
  obtain ⟨k, hk, rfl, rfl, NO⟩ := hrel;by_cases hkn : k < n
  ·obtain ⟨x, hx⟩ : ∃ x, l[k]? = some x := ⟨_, List.getElem?_eq_getElem (by rw [← HN.out]; exact hkn)⟩
   obtain ⟨g0, hp⟩ : ∃ g, p = some ⟨g, 0, none⟩ := by
    rcases HV.out.form with ⟨h1, h2⟩ | ⟨g, cap, h1, _⟩;·rw [h2] at hx; simp at hx
    ·simp only [Value.slice.injEq] at h1; exact ⟨g, h1.1⟩
   subst hp;have cx := HV.out.cells rfl hx;have HX := lh hx;clear hx;by_cases hs : x = s
   ·subst hs;have hb : (x.toList == x.toList) = true := beq_self_eq_true _;go_wp2;go_ret;rw [Zbc HX.out];exact ⟨rfl, rfl⟩
   ·have hb : (x.toList == s.toList) = false := by
     have h : ¬ x.toList = s.toList := fun h => hs (Z25 h);simpa using h
    have HS := lh hs;clear hs;go_wp2;go_roundw
    case rel => exact ⟨k + 1, by omega, by go_num, by first | rfl | trivial, lh (Zgv NO.out HX.out HS.out)⟩
    case measure => simp [intOf]; omega
  ·have hk2 : k = n := by omega
   subst hk2;go_wp2;go_ret;rw [Zcj (by rw [← HN.out]; exact NO.out)];exact ⟨rfl, rfl⟩
theorem Z3o (w : World) (B : Nat) (v : Value) (l : List ByteArray) (s : ByteArray) (hv : Zy w B v l) (hB : B ≤ w.heap.size) (hn : l.length < 1099511627776) :
 Calls Tryz.prog 19 #[v, .string s] w fun e w' => ∃ v', e = .returned v' ∧ Zy w' B v' (addL l s) ∧ Below w.heap.size w w' := by
 obtain ⟨i0, hi, hz0, hz1, hz2⟩ := info_parts Tryz.infoStr;have HH := lh (Zig hv s);have HV := lh hv;have HBB := lh hB;unfold addL;cases hc : Lib.containsS l s with
 | true =>
   rw [hc] at HH;clear hv hn hc;go_enter Tryz.func19, Tryz.ntmps19
   go_wp2_with fail
   refine HH.out.mono ?_;rintro e w1 ⟨rfl, rfl⟩;go_wp2;go_ret;exact ⟨v, rfl, HV.out, Below.refl _ _⟩
 | false =>
   rw [hc] at HH;have hal : Below w.heap.size w (w.alloc (.cells #[] 9)) := (Below.refl _ _).alloc (Nat.le_refl _) _;have hrow : (w.alloc (.cells #[] 9)).ownsRow w.heap.size 9 1 (.slice (some ⟨w.heap.size, 0, none⟩) 0 0) 0 [] :=
    ⟨by simp, .inr ⟨w.heap.size, 0, #[], rfl, Nat.le_refl _, heap_alloc_new w _, by simp, by unfold maxLen; omega, by simp, by simp⟩⟩
   have ROW := lh hrow;have HAL := lh hal;clear hrow hal hc;by_cases hl : l = []
   ·obtain ⟨p, c, rfl⟩ : ∃ p c, v = .slice p 0 c := by
     rcases hv.form with ⟨h1, _⟩ | ⟨g, cap, h1, _⟩;·exact ⟨none, 0, h1⟩
     ·exact ⟨some ⟨g, 0, none⟩, cap, by rw [h1, hl]; rfl⟩
    subst hl;clear hv hn;go_enter Tryz.func19, Tryz.ntmps19
    go_wp2_with fail
    refine HH.out.mono ?_;rintro e w1 ⟨rfl, rfl⟩
    go_wp2_with (at_builtin; first | (refine Z3a rfl (.tmp 9) (.tmp 10) 25 rfl w1.heap.size 9 i0 1 Tryz.underlying25 hi (.slice (some ⟨w1.heap.size, 0, none⟩) 0 0) 0 [] rfl ROW.out p c rfl ?_) | (refine wpList_append_lies _ rfl (.tmp 11) (.tmp 13) 25 rfl w1.heap.size 9 i0 (.string ByteArray.empty) 1 16 Tryz.underlying25 hi hz0 hz1 hz2 rfl (by decide) (.slice (some ⟨w1.heap.size, 0, none⟩) 0 0) 0 [] rfl (ROW.out.alloc _) ⟨w1.heap.size + 1, 0, none⟩ 1 1 [.string s] rfl rfl (World.news_of_block (cs := #[.string s]) (t := 9) (fr := (0, 0)) (by have := heap_alloc_new (w1.alloc (.cells #[] 9)) (.cells #[.string s] 9); simpa using this)) (by intro u hu; simp at hu; subst hu; rfl) (by omega) (by unfold maxLen; omega) (by omega) (by simp; omega) (w1.heap.size + 1 + 1) (by simp) ?_; intro g2 cap2 w2 hown2 hgrow2 hat2 hgl2; have HG := lh hgrow2; have HW := lh hown2; clear hgrow2 hown2 hat2 hgl2))
    go_ret;refine ⟨_, rfl, Zy.base (B := w1.heap.size) HW.out HBB.out, ?_⟩;exact (HAL.out.alloc (by simp) _).grown HG.out (by simp; omega) fun k hk => by
     simp only [Value.ownBlock, Option.some.injEq] at hk;omega
   ·rcases hv.form with ⟨_, h2⟩ | ⟨g, cap, rfl, hle, hm⟩;·exact absurd h2 hl
    have hpos : 0 < l.length := List.length_pos_iff.2 hl;have hglt := (World.ownsRow.lt hv g rfl).2;have NEWS := lh (show ∀ (j : Nat) (u : Value), (l.map Value.string)[j]? = some u → (w.alloc (.cells #[] 9)).cell? ((⟨g, 0, none⟩ : Addr).add j) = some u from fun j u hu => by
     have hadd : (⟨g, 0, none⟩ : Addr).add j = ⟨g, j, none⟩ := by unfold Addr.add; split <;> simp_all
     rw [hadd];exact (Z7 hglt).trans (Zo hv (g := g) rfl hu))
    obtain ⟨n, hnn⟩ : ∃ n, n = l.length := ⟨_, rfl⟩
    rw [← hnn] at HH HV hpos hn hle ⊢;have HN := lh hnn;clear hv hnn hl;go_enter Tryz.func19, Tryz.ntmps19
    go_wp2_with fail
    refine HH.out.mono ?_;rintro e w1 ⟨rfl, rfl⟩
    go_wp2_with (at_builtin; first | (refine wpList_append_lies _ rfl (.tmp 9) (.tmp 10) 25 rfl w1.heap.size 9 i0 (.string ByteArray.empty) 1 16 Tryz.underlying25 hi hz0 hz1 hz2 rfl (by decide) (.slice (some ⟨w1.heap.size, 0, none⟩) 0 0) 0 [] rfl ROW.out ⟨g, 0, none⟩ n cap (l.map Value.string) rfl (by simp [HN.out]) NEWS.out (fun u hu => by obtain ⟨z, _, rfl⟩ := List.mem_map.1 hu; rfl) (by omega) (by unfold maxLen; omega) (by omega) (by simp) (w1.heap.size + 1) (by simp) ?_; intro g2 cap2 w2 hown2 hgrow2 hat2 hgl2; have HG := lh hgrow2; have HW := lh (show w2.ownsRow w1.heap.size 9 1 (.slice (some ⟨g2, 0, none⟩) n cap2) n (l.map Value.string) from by rw [Nat.zero_add, List.nil_append] at hown2; exact hown2); have HS2 := hgrow2.size; clear hgrow2 hown2 hat2 hgl2) | (go_must (refine wpList_append_lies _ rfl (.tmp 11) (.tmp 13) 25 rfl w1.heap.size 9 i0 (.string ByteArray.empty) 1 16 Tryz.underlying25 hi hz0 hz1 hz2 rfl (by decide) (.slice (some ⟨g2, 0, none⟩) n cap2) n (l.map Value.string) rfl (HW.out.alloc _) ⟨w2.heap.size, 0, none⟩ 1 1 [.string s] rfl rfl (World.news_of_block (cs := #[.string s]) (t := 9) (fr := (0, 0)) (heap_alloc_new w2 _)) (by intro u hu; simp at hu; subst hu; rfl) (by omega) (by unfold maxLen; omega) (by omega) (by simp at HS2 ⊢; omega) (w2.heap.size + 1) (by simp) ?_); intro g3 cap3 w3 hown3 hgrow3 hat3 hgl3; have HG3 := lh hgrow3; have HW3 := lh hown3; clear hgrow3 hown3 hat3 hgl3))
    go_ret;refine ⟨_, rfl, ?_, ?_⟩
    ·have h1 := HW3.out;have h2 : Zy w3 w1.heap.size (.slice (some ⟨g3, 0, none⟩) (n + 1) cap3) (l ++ [s]) := by
      unfold Zy;rw [List.length_append, List.map_append, ← HN.out];exact h1
     exact Zy.base h2 HBB.out
    ·have hb1 := HAL.out.grown HG.out (by simp) fun k hk => by
      simp only [Value.ownBlock, Option.some.injEq] at hk;omega
     exact (hb1.alloc hb1.size _).grown HG3.out (by have := hb1.size; simp; omega) fun k hk => (World.ownsRow.lt HW.out k hk).1
theorem Z24 (a : ATree) : a.kids.length < a.many := by
 have key : ∀ l : List ATree, l.length ≤ Z20 l := by
  intro l;induction l with
  | nil => simp [Z20]
  | cons x l ih =>
    simp only [Z20, List.length_cons];have : 0 < x.many := by cases x; simp [ATree.many]
    omega
 obtain ⟨b, v, k, t, n, ks⟩ := a;have := key ks;simp only [ATree.kids, ATree.many];omega
theorem Zcx {l : List ATree} {k : Nat} : (Z0x (l.take k)).length ≤ (Z0x l).length := by
 have e : Z0x l = Z0x (l.take k) ++ Z0x (l.drop k) := by rw [← Z8r, List.take_append_drop]
 rw [e, List.length_append]; omega
theorem Zej {l : List ATree} {k : Nat} {x : ATree} (h : l[k]? = some x) : Z0x (l.take (k + 1)) = Z0x (l.take k) ++ x.subs := by
 rw [Z0c h, Z8r]; simp [Z0x]
theorem Zcv (a : ATree) : 0 < a.subs.length := by rw [Z7b]; simp
theorem Zg1 (n0 : Nat) : ∀ (a : ATree), a.many ≤ n0 → a.many ≤ 100000 → ∀ (w : World) (B0 : Nat), TreeAt w B0 a →
 Calls Tryz.prog 17 #[a.ptr] w fun e w' => ∃ v, e = .returned v ∧ Z0s w' w.heap.size v a.subs ∧ Below w.heap.size w w' := by
 induction n0 with
 | zero => intro a h; cases a; simp [ATree.many] at h
 | succ n0 ih =>
 intro a hn hmx w B0 hT;obtain ⟨i0, hi, hz0, hz1, hz2⟩ := info_parts Tryz.infoPtr;have HIH := lh ih;have hblk := hT.blkOf;have hrow := hT.rowOf;obtain ⟨p, cp, hv, hge⟩ : ∃ p cp, a.v = .slice p a.kids.length cp ∧ a.kids.length ≤ cp := by
  rcases Zc hrow with ⟨h1, h2⟩ | ⟨g0, cap0, h1, h2, _⟩;·exact ⟨none, 0, by rw [h1, h2], by omega⟩
  ·exact ⟨_, _, h1, h2⟩
 have c3 : w.cell? ⟨a.b, 3, none⟩ = some (.slice p a.kids.length cp) := by rw [← hv]; simp [World.cell?, hblk]
 have hkm := Z24 a;have hlen : a.kids.length ≤ 100000 := by omega
 have hab : a.b < w.heap.size := hT.lt;have HT := lh hT;have HV := lh hv;have HNN := lh hn;have HMX := lh hmx;have hsl : (a :: Z0x a.kids).length ≤ 100000 := by rw [← Z7b, Z5j]; exact hmx
 have HSL := lh hsl;have ST := lh (show Z0s (w.alloc (.cells #[a.ptr] 22)) w.heap.size (.slice (some ⟨w.heap.size, 0, none⟩) 1 1) (a :: Z0x (a.kids.take 0)) from Zca (l := [a]) (Nat.le_refl _) (by simp));have SB := lh ((Below.refl w.heap.size w).alloc (Nat.le_refl _) (.cells #[a.ptr] 22));unfold ATree.ptr at ST SB ⊢;obtain ⟨n, hnn⟩ : ∃ n, n = a.kids.length := ⟨_, rfl⟩
 rw [← hnn] at c3 hlen hge;have HN := lh hnn;have HC3 := lh c3;have c3' : (w.alloc (.cells #[.pointer (some ⟨a.b, 0, none⟩)] 22)).cell? ⟨a.b, 3, none⟩ = some (.slice p n cp) := (Z7 hab).trans c3;clear hblk hrow hv hnn hT hkm hsl ih hn hmx;go_enter Tryz.func17, Tryz.ntmps17
 go_wp2_with fail
 go_loopw [3, 15] (fun v i wr => ∃ (k : Nat) (v' : Value), v' = v ∧ k ≤ n ∧ i = .int .i64 k ∧ Hid (Z0s wr w.heap.size v' (a :: Z0x (a.kids.take k))) ∧ Hid (Below w.heap.size w wr)) (fun _ i _ => n - (intOf i).toNat)
 case atStart => exact ⟨0, _, rfl, Nat.zero_le _, rfl, ST, SB⟩
 case round =>
  obtain ⟨k, v, rfl, hk, rfl, HR, HB⟩ := hrel;clear ST SB;by_cases hkn : k < n
  ·obtain ⟨x, hx⟩ : ∃ x, a.kids[k]? = some x := ⟨_, List.getElem?_eq_getElem (by rw [← HN.out]; exact hkn)⟩
   have hT2 := HT.out.bel HB.out;have hrow := hT2.rowOf;rcases Zc hrow with ⟨_, h2⟩ | ⟨g0, cap0, hv0, _⟩;·rw [← HN.out] at h2; omega
   have hp : p = some ⟨g0, 0, none⟩ := by
    have := HV.out.symm.trans hv0;simp only [Value.slice.injEq] at this;exact this.1
   subst hp;have cx := Zo hrow (g := g0) (by rw [hv0]; rfl) (i := k) (x := x.ptr) (by rw [List.getElem?_map, hx]; rfl);unfold ATree.ptr at cx;have hmem := List.mem_of_getElem? hx;have hTx := hT2.kid hmem;have hxm := Z3n hmem;have HC := lh (HIH.out x (by have := HNN.out; omega) (by have := HMX.out; omega) wr B0 hTx);have HNX := lh (Zej hx);have HPO := lh (Zcv x);have HL2 := lh (show (a :: Z0x (a.kids.take (k + 1))).length ≤ 100000 from Nat.le_trans (by simp only [List.length_cons]; have := Zcx (l := a.kids) (k := k + 1); omega) HSL.out);unfold ATree.ptr at HC;clear hT2 hrow hv0 hTx hxm hmem hx
   go_wp2_with fail
   refine HC.out.mono ?_;rintro e w1 ⟨vk, rfl, hNk, hB1⟩;obtain ⟨L, hL⟩ : ∃ L, L = a :: Z0x (a.kids.take k) := ⟨_, rfl⟩
   have hNR := HR.out;rw [← hL] at hNR;rcases hNk.form with ⟨_, h2⟩ | ⟨g1, cap1, rfl, hc1, hc2⟩;·have := HPO.out; rw [h2] at this; simp at this
   have hL2 := HL2.out;have hLx : L ++ x.subs = a :: Z0x (a.kids.take (k + 1)) := by rw [HNX.out, hL]; rfl
   rw [← hLx, List.length_append] at hL2;have HLX := lh hLx;have hR1 : Z0s w1 w.heap.size v L := Zl hNR fun j hj => hB1.block j (World.ownsRow.lt hNR j hj).2;have hg1 : wr.heap.size ≤ g1 ∧ g1 < w1.heap.size := World.ownsRow.lt hNk g1 rfl;have NEWS := lh (show ∀ (j : Nat) (u : Value), (x.subs.map ATree.ptr)[j]? = some u → w1.cell? ((⟨g1, 0, none⟩ : Addr).add j) = some u from fun j u hu => by
    have hadd : (⟨g1, 0, none⟩ : Addr).add j = ⟨g1, j, none⟩ := by unfold Addr.add; split <;> simp_all
    rw [hadd];exact Zo hNk (g := g1) rfl hu)
   obtain ⟨m, hm⟩ : ∃ m, m = x.subs.length := ⟨_, rfl⟩
   have hm0 : 0 < m := by rw [hm]; exact HPO.out
   have hLm : L.length + m ≤ 100000 := by rw [hm]; exact hL2
   rw [← hm] at hc1 ⊢;have HM := lh hm;have HNR := lh hR1;have HNR0 := lh hNR;have HB1 := lh hB1;have HNF := lh (show v.ownBlock ≠ some g1 from fun e => by have := (World.ownsRow.lt hNR g1 e).2; omega);have HG1 := lh hg1;have hBS := HB.out.size;have hB1s := hB1.size;clear hNk hL hNR hL2 hLx hR1 hg1 hm hB1 HC HR HNX HL2
   go_wp2_with (at_builtin; go_must (refine wpList_append_lies _ rfl (.tmp 19) (.tmp 21) 42 rfl w.heap.size 22 i0 _ 1 8 Tryz.underlying42 hi hz0 hz1 hz2 rfl (by decide) v L.length (L.map ATree.ptr) rfl HNR.out ⟨g1, 0, none⟩ m cap1 (x.subs.map ATree.ptr) rfl (by simp [HM.out]) NEWS.out (fun u hu => by obtain ⟨z, _, rfl⟩ := List.mem_map.1 hu; rfl) (by omega) (by unfold maxLen; omega) (by omega) (by omega) w1.heap.size (by simp) ?_); intro gg cap w2 hown2 hgrow2 hat2 hgl2; have HG := lh hgrow2; have HW := lh hown2; clear hgrow2 hown2 hat2 hgl2)
   go_roundw
   case rel =>
    refine ⟨k + 1, _, rfl, by omega, by go_num, lh ?_, lh ?_⟩
    ·rw [← HLX.out];unfold Z0s;rw [List.length_append, List.map_append, ← HM.out];exact HW.out
    ·exact (HB.out.trans (HB1.out.mono hBS)).grown HG.out (by omega) fun j hj => (World.ownsRow.lt HNR0.out j hj).1
   case measure => simp [intOf]; omega
  ·have hk2 : k = n := by omega
   subst hk2;go_wp2;go_ret;refine ⟨_, rfl, ?_, HB.out⟩;have := HR.out;rwa [List.take_of_length_le (by rw [← HN.out]; exact Nat.le_refl _), ← Z7b] at this
def Z1b (l m : List ByteArray) : List ByteArray := m.foldl addL l
theorem Zfx {l : List ByteArray} {s x : ByteArray} (h : x ∈ l) : x ∈ addL l s := by
 unfold addL;split;·exact h
 ·exact List.mem_append_left _ h
theorem Zer (l : List ByteArray) (s : ByteArray) : s ∈ addL l s := by
 unfold addL;split;·rename_i h; exact (Lib.containsS_iff _ _).1 h
 ·simp
theorem Zdr : ∀ (m l : List ByteArray) (x : ByteArray), x ∈ l ∨ x ∈ m → x ∈ Z1b l m := by
 intro m;induction m with
 | nil => intro l x h; rcases h with h | h; (exact h); (cases h)
 | cons y m ih =>
   intro l x h;refine ih (addL l y) x ?_;rcases h with h | h;·exact .inl (Zfx h)
   ·rcases List.mem_cons.1 h with rfl | h;·exact .inl (Zer _ _)
    ·exact .inr h
theorem Zcc (l m : List ByteArray) (s : ByteArray) : Z1b l (addL m s) = addL (Z1b l m) s := by
 by_cases h : Lib.containsS m s = true
 ·have h1 : addL m s = m := by unfold addL; rw [if_pos h]
  have h2 : Lib.containsS (Z1b l m) s = true := (Lib.containsS_iff _ _).2 (Zdr m l s (.inr ((Lib.containsS_iff _ _).1 h)));rw [h1];conv => rhs; unfold addL
  rw [if_pos h2]
 ·have h1 : addL m s = m ++ [s] := by unfold addL; rw [if_neg h]
  rw [h1];simp [Z1b, List.foldl_append]
def ownV (a : ATree) (l : List ByteArray) : List ByteArray := if a.kind == 2 then addL l a.text else l
theorem Z5y (a : ATree) (l : List ByteArray) : Z2p Z2g a l = cond (Z0m a) (ownV a l) (Z14 Z2g a.kids (ownV a l)) := by
 rw [Z64];have h1 : (Z2g l a).1 = !Z0m a := rfl;have h2 : (Z2g l a).2 = ownV a l := rfl;rw [h2];cases hi : Z0m a with
 | true => rw [if_neg (by rw [h1, hi]; decide)]; rfl
 | false => rw [if_pos (by rw [h1, hi]; rfl)]; rfl
theorem Zaw (a : ATree) (l m : List ByteArray) : Z1b l (ownV a m) = ownV a (Z1b l m) := by
 unfold ownV;by_cases h : (a.kind == 2) = true;·rw [if_pos h, if_pos h, Zcc]
 ·rw [if_neg h, if_neg h]
theorem Zik (a : ATree) (l : List ByteArray) : (ownV a l).length ≤ l.length + 1 := by
 unfold ownV;split;·exact Z83 _ _
 ·omega
mutual
theorem Zdf : ∀ (a : ATree) (l m : List ByteArray), Z1b l (Z2p Z2g a m) = Z2p Z2g a (Z1b l m)
 | .mk b v k t n ks, l, m => by
   rw [Z5y, Z5y];cases Z0m (.mk b v k t n ks) with
   | true => simp only [cond_true]; exact Zaw _ _ _
   | false => simp only [cond_false, ATree.kids]; rw [Z6j ks, Zaw]
theorem Z6j : ∀ (ks : List ATree) (l m : List ByteArray), Z1b l (Z14 Z2g ks m) = Z14 Z2g ks (Z1b l m)
 | [], l, m => by simp only [Z14]
 | a :: ks, l, m => by
   simp only [Z14];rw [Z6j ks, Zdf a]
end
mutual
theorem Zfy : ∀ (a : ATree) (l : List ByteArray), (Z2p Z2g a l).length ≤ l.length + a.many
 | .mk b v k t n ks, l => by
   rw [Z5y];have h0 := Zik (.mk b v k t n ks) l;cases Z0m (.mk b v k t n ks) with
   | true => simp only [cond_true, ATree.many]; omega
   | false =>
     simp only [cond_false, ATree.kids, ATree.many];have := Z65 ks (ownV (.mk b v k t n ks) l);omega
theorem Z65 : ∀ (ks : List ATree) (l : List ByteArray), (Z14 Z2g ks l).length ≤ l.length + Z20 ks
 | [], l => by simp [Z14]
 | a :: ks, l => by
   simp only [Z14, Z20];have h1 := Zfy a l;have h2 := Z65 ks (Z2p Z2g a l);omega
end
theorem Z6w (a : ATree) : (Z4z a).length ≤ a.many := by
 have := Z65 a.kids [];obtain ⟨b, v, k, t, n, ks⟩ := a;unfold Z4z;simp only [ATree.kids, List.length_nil, ATree.many] at this ⊢;omega
theorem Z80 (x : ATree) (l : List ByteArray) : Z2p Z2g x l = cond (Z0m x) (ownV x l) (Z1b (ownV x l) (Z4z x)) := by
 rw [Z5y];cases Z0m x with
 | true => rfl
 | false =>
   simp only [cond_false];unfold Z4z;rw [Z6j];rfl
theorem Z5h {l m : List ByteArray} {j : Nat} {s : ByteArray} (h : m[j]? = some s) : Z1b l (m.take (j + 1)) = addL (Z1b l (m.take j)) s := by
 have e : m.take (j + 1) = m.take j ++ [s] := by rw [List.take_add_one, h]; rfl
 rw [e];simp [Z1b, List.foldl_append]
theorem Z62 (l m : List ByteArray) : (Z1b l m).length ≤ l.length + m.length := by
 induction m generalizing l with
 | nil => simp [Z1b]
 | cons x m ih =>
   have h1 := ih (addL l x);have h2 := Z83 l x;simp only [Z1b, List.foldl_cons, List.length_cons] at h1 ⊢;omega
theorem Z5i (w : World) (B : Nat) (a : ATree) (hT : TreeAt w B a) :
 Calls Tryz.prog 20 #[a.ptr] w fun e w' => e = .returned (.bool (Z0m a)) ∧ w' = w := by
 have c0 := hT.c0;unfold Z0m ATree.ptr;obtain ⟨kd, hkd⟩ : ∃ kd, kd = a.kind := ⟨_, rfl⟩
 rw [← hkd] at c0 ⊢;clear hkd hT;rcases (by omega : kd = 5 ∨ kd = 37 ∨ (kd ≠ 5 ∧ kd ≠ 37)) with h3 | h3 | ⟨h3, h4⟩
 ·subst h3;go_enter Tryz.func20, Tryz.ntmps20
  go_wp2;go_ret;exact ⟨rfl, rfl⟩
 ·subst h3;go_enter Tryz.func20, Tryz.ntmps20
  go_wp2;go_ret;exact ⟨rfl, rfl⟩
 ·have n3 : (kd == 5) = false := by simpa using h3
  have n4 : (kd == 37) = false := by simpa using h4
  clear h3 h4;rw [n3, n4];go_enter Tryz.func20, Tryz.ntmps20
  go_wp2;go_ret;exact ⟨rfl, rfl⟩
theorem Zfm (n0 : Nat) : ∀ (a : ATree), a.many ≤ n0 → a.many ≤ 100000 → ∀ (w : World) (B0 : Nat), TreeAt w B0 a →
 Calls Tryz.prog 41 #[a.ptr] w fun e w' => ∃ v, e = .returned v ∧ Zy w' w.heap.size v (Z4z a) ∧ Below w.heap.size w w' := by
 induction n0 with
 | zero => intro a h; cases a; simp [ATree.many] at h
 | succ n0 ih =>
 intro a hn hmx w B0 hT;have HIH := lh ih;obtain ⟨p, cp, hv, hge, hgm⟩ := hT.vOf;have c3 := hT.c3;rw [hv] at c3;have hkm := Z24 a;have hlen : a.kids.length ≤ 100000 := by omega
 have HT := lh hT;have HV := lh hv;have HNN := lh hn;have HMX := lh hmx;have HLEN := lh (show ∀ k, (Z14 Z2g (a.kids.take k) []).length ≤ 100000 from fun k => by
  have h1 := Z65 (a.kids.take k) [];have h2 : Z20 (a.kids.take k) ≤ Z20 a.kids := by
   rw [← Z5q, ← Z5q]; exact Zcx
  have h3 : Z20 a.kids < a.many := by obtain ⟨b, v, kk, t, n, ks⟩ := a; simp only [ATree.kids, ATree.many]; omega
  simp only [List.length_nil] at h1;omega)
 unfold ATree.ptr;unfold Z4z;obtain ⟨n, hnn⟩ : ∃ n, n = a.kids.length := ⟨_, rfl⟩
 rw [← hnn] at c3 hlen hge;have HN := lh hnn;unfold maxLen at hgm;clear hv hnn hT hkm ih hn hmx;go_enter Tryz.func41, Tryz.ntmps41
 go_wp2_with fail
 go_loopw [3, 15] (fun v i wr => ∃ (k : Nat) (v' : Value), v' = v ∧ k ≤ n ∧ i = .int .i64 k ∧ Hid (Zy wr w.heap.size v' (Z14 Z2g (a.kids.take k) [])) ∧ Hid (Below w.heap.size w wr)) (fun _ i _ => n - (intOf i).toNat)
 case atStart => exact ⟨0, _, rfl, Nat.zero_le _, rfl, lh (Zy.nil _ _), lh (Below.refl _ _)⟩
 case round =>
  obtain ⟨k, v, rfl, hk, rfl, HR, HB⟩ := hrel;by_cases hkn : k < n
  ·obtain ⟨x, hx⟩ : ∃ x, a.kids[k]? = some x := ⟨_, List.getElem?_eq_getElem (by rw [← HN.out]; exact hkn)⟩
   have hT2 := HT.out.bel HB.out;have hrow := hT2.rowOf;rcases Zc hrow with ⟨_, h2⟩ | ⟨g0, cap0, hv0, _⟩;·rw [← HN.out] at h2; omega
   have hp : p = some ⟨g0, 0, none⟩ := by
    have := HV.out.symm.trans hv0;simp only [Value.slice.injEq] at this;exact this.1
   subst hp;have cx := Zo hrow (g := g0) (by rw [hv0]; rfl) (i := k) (x := x.ptr) (by rw [List.getElem?_map, hx]; rfl);unfold ATree.ptr at cx;have hmem := List.mem_of_getElem? hx;have hTx := hT2.kid hmem;have hxm := Z3n hmem;have x0 := hTx.c0;have x1 := hTx.c1;have HTX := lh hTx;have HXM := lh hxm;have HNX := lh (show Z14 Z2g (a.kids.take (k + 1)) [] = Z2p Z2g x (Z14 Z2g (a.kids.take k) []) from by rw [Z0c hx, Z4d]);obtain ⟨L, hL⟩ : ∃ L, L = Z14 Z2g (a.kids.take k) [] := ⟨_, rfl⟩
   have HLL := lh hL;have hl1 : L.length ≤ 100000 := by rw [hL]; exact HLEN.out k
   rw [← hL] at HR HNX;obtain ⟨kd, hkd⟩ : ∃ kd, kd = x.kind := ⟨_, rfl⟩
   obtain ⟨tx, htx⟩ : ∃ tx, tx = x.text := ⟨_, rfl⟩
   rw [← hkd] at x0;rw [← htx] at x1;have HKD := lh hkd;have HTXT := lh htx;have HSZ := lh HB.out.size;clear hT2 hrow hv0 hTx hxm hmem hx hL hkd htx;by_cases h2 : kd = 2
   ·subst h2;have HA := lh (Z3o wr w.heap.size v L tx HR.out HSZ.out (by omega));go_wp2_with fail
    refine HA.out.mono ?_;rintro e w1 ⟨v1, rfl, ht1, hb1⟩;obtain ⟨L1, hL1⟩ : ∃ L1, L1 = addL L tx := ⟨_, rfl⟩
    have HL1 := lh (show ownV x L = L1 from by rw [hL1]; unfold ownV; rw [← HKD.out, ← HTXT.out]; rfl);have HL1L := lh (show L1.length ≤ 100001 from by rw [hL1]; have := Z83 L tx; omega);rw [← hL1] at ht1;have T1 := lh ht1;have BWR := lh hb1;have BW := lh (HB.out.trans (hb1.mono HB.out.size));clear ht1 hb1 HA hL1;have HTX1 := lh (HTX.out.bel BWR.out);have HI := lh (Z5i w1 _ x HTX1.out);have HSW := lh (BW.out.size);unfold ATree.ptr at HI;cases hin : Z0m x with
    | true =>
      rw [hin] at HI;have HFI := lh (show Z14 Z2g (a.kids.take (k + 1)) [] = L1 from by rw [HNX.out, Z80, hin]; simp only [cond_true]; exact HL1.out);clear hin;go_wp2_with fail
      refine HI.out.mono ?_;rintro e w2 ⟨rfl, hw2⟩;have hw3 := hw2.symm;subst hw3;go_wp2;go_roundw
      case rel => exact ⟨k + 1, _, rfl, by omega, by go_num, lh (by rw [HFI.out]; exact T1.out), BW⟩
      case measure => simp [intOf]; omega
    | false =>
      rw [hin] at HI;have HFI := lh (show Z14 Z2g (a.kids.take (k + 1)) [] = Z1b L1 (Z4z x) from by rw [HNX.out, Z80, hin]; simp only [cond_false]; rw [HL1.out]);have HC := lh (HIH.out x (by have := HNN.out; have := HXM.out; omega) (by have := HMX.out; have := HXM.out; omega) w1 _ HTX1.out);unfold ATree.ptr at HC;clear hin;go_wp2_with fail
      refine HI.out.mono ?_;rintro e w2 ⟨rfl, hw2⟩;have hw3 := hw2.symm;subst hw3;go_wp2_with fail
      refine HC.out.mono ?_;rintro e w3 ⟨vm, rfl, htm, hb3⟩;obtain ⟨M, hM⟩ : ∃ M, M = Z4z x := ⟨_, rfl⟩
      have hml : M.length ≤ 100000 := by rw [hM]; have := Z6w x; have := HXM.out; have := HMX.out; omega
      rw [← hM] at htm HFI;obtain ⟨q, cq, rfl, hqe, hqm⟩ : ∃ p cp, vm = .slice p M.length cp ∧ M.length ≤ cp ∧ cp ≤ maxLen := by
       rcases htm.form with ⟨h1, h2⟩ | ⟨g, cap, h1, h2, h3⟩;·exact ⟨none, 0, by rw [h1, h2]; rfl, by rw [h2]; exact Nat.le_refl _, by unfold maxLen; omega⟩
       ·exact ⟨_, _, h1, h2, h3⟩
      unfold maxLen at hqm;obtain ⟨m, hm⟩ : ∃ m, m = M.length := ⟨_, rfl⟩
      have T3 := lh (T1.out.bel hb3);have B3 := lh (BW.out.trans (hb3.mono BW.out.size));rw [← hm] at htm hqe hml ⊢;have HM := lh hm;have HTM := lh htm;clear hM hm htm hb3 HC HI HR HB;go_wp2_with fail
      go_loopw [3, 36] (fun v i wr' => ∃ (j : Nat) (v' : Value), v' = v ∧ j ≤ m ∧ i = .int .i64 j ∧ Hid (Zy wr' w.heap.size v' (Z1b L1 (M.take j))) ∧ Hid (Zy wr' w1.heap.size (.slice q m cq) M) ∧ Hid (Below w.heap.size w wr')) (fun _ i _ => m - (intOf i).toNat)
      case atStart => exact ⟨0, _, rfl, Nat.zero_le _, rfl, T3, HTM, B3⟩
      case round =>
       obtain ⟨j, v, rfl, hj, rfl, HR, HM2, HB⟩ := hrel;clear T3 HTM B3;by_cases hjm : j < m
       ·obtain ⟨y, hy⟩ : ∃ y, M[j]? = some y := ⟨_, List.getElem?_eq_getElem (by rw [← HM.out]; exact hjm)⟩
        obtain ⟨g1, hq⟩ : ∃ g, q = some ⟨g, 0, none⟩ := by
         rcases HM2.out.form with ⟨_, h2⟩ | ⟨g, cap, h1, _⟩;·rw [h2] at hy; simp at hy
         ·simp only [Value.slice.injEq] at h1; exact ⟨g, h1.1⟩
        subst hq;have cy := HM2.out.cells rfl hy;have HST := lh (Z5h (l := L1) hy);have hlm : (Z1b L1 (M.take j)).length ≤ 300000 := by
         have h1 := Z62 L1 (M.take j);have h2 : (M.take j).length ≤ M.length := by rw [List.length_take]; omega
         have h3 := HM.out;have h4 := HL1L.out;omega
        have HA := lh (Z3o _ w.heap.size v _ y HR.out HB.out.size (by omega));clear hy hlm;go_wp2_with fail
        refine HA.out.mono ?_;rintro e w4 ⟨v4, rfl, ht4, hb4⟩;have T4 := lh ht4;have M4 := lh (HM2.out.bel hb4);have B4 := lh (HB.out.trans (hb4.mono HB.out.size));clear ht4 hb4 HA;go_wp2;go_roundw
        case rel => exact ⟨j + 1, _, rfl, by omega, by go_num, lh (by rw [HST.out]; exact T4.out), M4, B4⟩
        case measure => simp [intOf]; omega
       ·have hj2 : j = m := by omega
        subst hj2;have HFIN := lh (show Zy _ w.heap.size v (Z14 Z2g (a.kids.take (k + 1)) []) from by
         have := HR.out;rw [List.take_of_length_le (by rw [← HM.out]; exact Nat.le_refl _)] at this;rw [HFI.out]; exact this)
        go_wp2;go_roundw
        case rel => exact ⟨k + 1, _, rfl, by omega, by go_num, HFIN, HB⟩
        case measure => simp [intOf]; omega
   ·have n2 : (kd == 2) = false := by simpa using h2
    obtain ⟨L1, hL1⟩ : ∃ L1, L1 = L := ⟨_, rfl⟩
    have HL1 := lh (show ownV x L = L1 from by rw [hL1]; unfold ownV; rw [← HKD.out, n2]; rfl);have HL1L := lh (show L1.length ≤ 100001 from by rw [hL1]; omega);rw [← hL1] at HR;have T1 := HR;have BW := HB;clear hL1 h2;have HTX1 := lh (HTX.out.bel (Below.refl _ _));have HI := lh (Z5i wr _ x HTX1.out);have HSW := lh (BW.out.size);unfold ATree.ptr at HI;cases hin : Z0m x with
    | true =>
      rw [hin] at HI;have HFI := lh (show Z14 Z2g (a.kids.take (k + 1)) [] = L1 from by rw [HNX.out, Z80, hin]; simp only [cond_true]; exact HL1.out);clear hin;go_wp2_with fail
      refine HI.out.mono ?_;rintro e w2 ⟨rfl, hw2⟩;have hw3 := hw2.symm;subst hw3;go_wp2;go_roundw
      case rel => exact ⟨k + 1, _, rfl, by omega, by go_num, lh (by rw [HFI.out]; exact T1.out), BW⟩
      case measure => simp [intOf]; omega
    | false =>
      rw [hin] at HI;have HFI := lh (show Z14 Z2g (a.kids.take (k + 1)) [] = Z1b L1 (Z4z x) from by rw [HNX.out, Z80, hin]; simp only [cond_false]; rw [HL1.out]);have HC := lh (HIH.out x (by have := HNN.out; have := HXM.out; omega) (by have := HMX.out; have := HXM.out; omega) wr _ HTX1.out);unfold ATree.ptr at HC;clear hin;go_wp2_with fail
      refine HI.out.mono ?_;rintro e w2 ⟨rfl, hw2⟩;have hw3 := hw2.symm;subst hw3;go_wp2_with fail
      refine HC.out.mono ?_;rintro e w3 ⟨vm, rfl, htm, hb3⟩;obtain ⟨M, hM⟩ : ∃ M, M = Z4z x := ⟨_, rfl⟩
      have hml : M.length ≤ 100000 := by rw [hM]; have := Z6w x; have := HXM.out; have := HMX.out; omega
      rw [← hM] at htm HFI;obtain ⟨q, cq, rfl, hqe, hqm⟩ : ∃ p cp, vm = .slice p M.length cp ∧ M.length ≤ cp ∧ cp ≤ maxLen := by
       rcases htm.form with ⟨h1, h2⟩ | ⟨g, cap, h1, h2, h3⟩;·exact ⟨none, 0, by rw [h1, h2]; rfl, by rw [h2]; exact Nat.le_refl _, by unfold maxLen; omega⟩
       ·exact ⟨_, _, h1, h2, h3⟩
      unfold maxLen at hqm;obtain ⟨m, hm⟩ : ∃ m, m = M.length := ⟨_, rfl⟩
      have T3 := lh (T1.out.bel hb3);have B3 := lh (BW.out.trans (hb3.mono BW.out.size));rw [← hm] at htm hqe hml ⊢;have HM := lh hm;have HTM := lh htm;clear hM hm htm hb3 HC HI HR HB;go_wp2_with fail
      go_loopw [3, 36] (fun v i wr' => ∃ (j : Nat) (v' : Value), v' = v ∧ j ≤ m ∧ i = .int .i64 j ∧ Hid (Zy wr' w.heap.size v' (Z1b L1 (M.take j))) ∧ Hid (Zy wr' wr.heap.size (.slice q m cq) M) ∧ Hid (Below w.heap.size w wr')) (fun _ i _ => m - (intOf i).toNat)
      case atStart => exact ⟨0, _, rfl, Nat.zero_le _, rfl, T3, HTM, B3⟩
      case round =>
       obtain ⟨j, v, rfl, hj, rfl, HR, HM2, HB⟩ := hrel;clear T3 HTM B3;by_cases hjm : j < m
       ·obtain ⟨y, hy⟩ : ∃ y, M[j]? = some y := ⟨_, List.getElem?_eq_getElem (by rw [← HM.out]; exact hjm)⟩
        obtain ⟨g1, hq⟩ : ∃ g, q = some ⟨g, 0, none⟩ := by
         rcases HM2.out.form with ⟨_, h2⟩ | ⟨g, cap, h1, _⟩;·rw [h2] at hy; simp at hy
         ·simp only [Value.slice.injEq] at h1; exact ⟨g, h1.1⟩
        subst hq;have cy := HM2.out.cells rfl hy;have HST := lh (Z5h (l := L1) hy);have hlm : (Z1b L1 (M.take j)).length ≤ 300000 := by
         have h1 := Z62 L1 (M.take j);have h2 : (M.take j).length ≤ M.length := by rw [List.length_take]; omega
         have h3 := HM.out;have h4 := HL1L.out;omega
        have HA := lh (Z3o _ w.heap.size v _ y HR.out HB.out.size (by omega));clear hy hlm;go_wp2_with fail
        refine HA.out.mono ?_;rintro e w4 ⟨v4, rfl, ht4, hb4⟩;have T4 := lh ht4;have M4 := lh (HM2.out.bel hb4);have B4 := lh (HB.out.trans (hb4.mono HB.out.size));clear ht4 hb4 HA;go_wp2;go_roundw
        case rel => exact ⟨j + 1, _, rfl, by omega, by go_num, lh (by rw [HST.out]; exact T4.out), M4, B4⟩
        case measure => simp [intOf]; omega
       ·have hj2 : j = m := by omega
        subst hj2;have HFIN := lh (show Zy _ w.heap.size v (Z14 Z2g (a.kids.take (k + 1)) []) from by
         have := HR.out;rw [List.take_of_length_le (by rw [← HM.out]; exact Nat.le_refl _)] at this;rw [HFI.out]; exact this)
        go_wp2;go_roundw
        case rel => exact ⟨k + 1, _, rfl, by omega, by go_num, HFIN, HB⟩
        case measure => simp [intOf]; omega
  ·have hk2 : k = n := by omega
   subst hk2;go_wp2;go_ret;refine ⟨_, rfl, ?_, HB.out⟩;have := HR.out;rwa [List.take_of_length_le (by rw [← HN.out]; exact Nat.le_refl _)] at this
end Go.Proofs.YtgmnfgljkocnpaaGreatDoor
