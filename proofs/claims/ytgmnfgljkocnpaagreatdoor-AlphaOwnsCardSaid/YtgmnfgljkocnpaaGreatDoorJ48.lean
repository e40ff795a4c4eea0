/- What a node's scope owns: the plain law. What a node's scope owns: the document's walk. -/
import Derived.Test.YtgmnfgljkocnpaaGreatDoorJ01
import Derived.Test.YtgmnfgljkocnpaaGreatDoorJ47
namespace Go.Proofs.YtgmnfgljkocnpaaGreatDoor
open Go Go.RowKit
set_option maxRecDepth 100000
set_option maxHeartbeats 20000000
set_option linter.unusedVariables false
theorem Z94 {text : ByteArray} {t : Tree} (h : Z0n text = .ok t) : WT t := by
 unfold Z0n at h;split at h;·cases h
 ·split at h;·cases h
  ·rename_i ts _;split at h;·cases h
   ·cases h
   ·rename_i t' ts' hp;split at h;·cases h
    ·have e : t' = t := by simpa using h
     subst e;exact Zc8 _ _ _ _ (show Job.good (.stmts 1 []) from ⟨.inl rfl, trivial⟩) _ _ hp
mutual
theorem Zeq : ∀ (a : ATree) (i : Nat) (y : ATree), a.subs[i]? = some y → ∀ (j : Nat) (z : ATree), y.subs[j]? = some z → a.subs[i + j]? = some z
 | .mk b v k t n ks, 0, y, h, j, z, hz => by
   simp only [ATree.subs, List.getElem?_cons_zero, Option.some.injEq] at h;subst h;rw [Nat.zero_add];exact hz
 | .mk b v k t n ks, i + 1, y, h, j, z, hz => by
   simp only [ATree.subs, List.getElem?_cons_succ] at h;have := Zd2 ks i y h j z hz;rw [show i + 1 + j = (i + j) + 1 by omega];simp only [ATree.subs, List.getElem?_cons_succ];exact this
theorem Zd2 : ∀ (l : List ATree) (i : Nat) (y : ATree), (Z0x l)[i]? = some y → ∀ (j : Nat) (z : ATree), y.subs[j]? = some z → (Z0x l)[i + j]? = some z
 | [], i, y, h, j, z, hz => by simp [Z0x] at h
 | c :: l, i, y, h, j, z, hz => by
   simp only [Z0x] at h ⊢;by_cases hi : i < c.subs.length
   ·rw [List.getElem?_append_left hi] at h;have h1 := Zeq c i y h j z hz;rw [List.getElem?_append_left (List.getElem?_eq_some_iff.1 h1).1];exact h1
   ·rw [List.getElem?_append_right (by omega)] at h;have h1 := Zd2 l _ y h j z hz;rw [List.getElem?_append_right (by omega), show i + j - c.subs.length = i - c.subs.length + j by omega];exact h1
end
theorem Z8p {a y p q : ATree} {i : Nat} (h : a.subs[i]? = some y) (hk : y.kids = [p, q]) : a.subs[i + (1 + p.many)]? = some q := by
 refine Zeq a i y h _ _ ?_;rw [Z7b, hk];rw [show 1 + p.many = p.many + 1 by omega, List.getElem?_cons_succ];simp only [Z0x];rw [List.getElem?_append_right (by rw [Z5j]; exact Nat.le_refl _), Z5j, Nat.sub_self, List.append_nil, Z7b];rfl
def Z54 (a : ATree) (n : Nat) : Prop := ∃ i y p q, a.subs[i]? = some y ∧ Z0m y = true ∧ y.kids = [p, q] ∧ n = i + (1 + p.many)
theorem Zi7 {a x y : ATree} (hd : (a.subs.map (·.b)).Nodup) {i j : Nat} (hx : a.subs[i]? = some x) (hy : a.subs[j]? = some y) (e : x.b = y.b) : i = j := by
 have h1 : (a.subs.map (·.b))[i]? = some x.b := by rw [List.getElem?_map, hx]; rfl
 have h2 : (a.subs.map (·.b))[j]? = some x.b := by rw [List.getElem?_map, hy, e]; rfl
 have hl := (List.getElem?_eq_some_iff.1 h1).1;exact (List.getElem?_inj hl hd).1 (h1.trans h2.symm)
theorem Zcn {a x y p q : ATree} (hd : (a.subs.map (·.b)).Nodup) {n i : Nat} (hx : a.subs[n]? = some x) (hy : a.subs[i]? = some y) (hin : Z0m y = true) (hk : y.kids = [p, q]) (e : q.b = x.b) : Z54 a n :=
 ⟨i, y, p, q, hy, hin, hk, (Zi7 hd (Z8p hy hk) hx e).symm⟩
theorem Zcr : ∀ l : List ATree, (Z10 l).length = l.length
 | [] => rfl
 | a :: l => by simp only [Z10, List.length_cons, Zcr l]
theorem Zdq {l1 l2 : List ATree} (h : Z10 l1 = Z10 l2) : l1.map ATree.text = l2.map ATree.text := by
 have hf : ∀ l : List ATree, l.filter (fun _ => true) = l := fun l => List.filter_eq_self.2 (fun _ _ => rfl);have := Z4l (fun _ => true) (fun _ _ _ => rfl) _ _ h;rwa [hf, hf] at this
theorem Z9l {α : Type} {l : List α} (h : l.length = 2) : ∃ p q, l = [p, q] := by
 match l, h with
 | [p, q], _ => exact ⟨p, q, rfl⟩
theorem WT.two {x : ATree} (h : WT x.tree) (hk : x.kind = 5 ∨ x.kind = 37) : ∃ p q, x.kids = [p, q] := by
 obtain ⟨b, v, k, t, n, ks⟩ := x;simp only [ATree.tree] at h;have h1 := h.1.two (by simp only [ATree.kind] at hk; omega);exact Z9l (by rw [← h1, Zcr]; rfl)
open Classical in
noncomputable def ownL (x : ATree) : List ByteArray :=
 if x.kind = 1 then Z0d [] (x.kids.filter Z26) else
 if x.kind = 5 ∨ x.kind = 37 then (match x.kids with | [p, q] => Z1b (Z0d [] p.kids) (Z2f true q) | _ => []) else
 if x.kind = 13 then [x.text] else if x.kind = 6 then Z2f false x else []
open Classical in
noncomputable def Z4i (a : ATree) (n : Int) : List ByteArray × Bool :=
 match nodeAt a n with
 | none => ([], false)
 | some x => if x.kind = 6 ∧ Z54 a n.toNat then ([], false) else (ownL x, decide (0 < (ownL x).length))
mutual
theorem Zb4 : ∀ (a : ATree), WT a.tree → ∀ x ∈ a.subs, WT x.tree
 | .mk b v k t n ks, h, x, hx => by
   simp only [ATree.subs, List.mem_cons] at hx;rcases hx with rfl | hx;·exact h
   ·exact Zff ks (by simp only [ATree.tree] at h; exact h.2) x hx
theorem Zff : ∀ (l : List ATree), WTL (Z10 l) → ∀ x ∈ Z0x l, WT x.tree
 | [], _, x, hx => by simp [Z0x] at hx
 | c :: l, h, x, hx => by
   simp only [Z10] at h;simp only [Z0x, List.mem_append] at hx;rcases hx with hx | hx;·exact Zb4 c h.1 x hx
   ·exact Zff l h.2 x hx
end
theorem Zba {a b : ATree} (h : a.tree = b.tree) {n : Nat} (hb : Z54 a n) : Z54 b n := by
 obtain ⟨i, y, p, q, hy, hin, hk, hn⟩ := hb;obtain ⟨y', hy'⟩ : ∃ y', b.subs[i]? = some y' := ⟨_, List.getElem?_eq_getElem (by rw [← Z7a h]; exact (List.getElem?_eq_some_iff.1 hy).1)⟩
 have e := Zgf h hy hy';obtain ⟨e1, e2, _, e4⟩ := Z3k e;rw [hk] at e4;obtain ⟨p', q', hk'⟩ := Z9l (Z88 e4).symm;rw [hk'] at e4;simp only [Z10, List.cons.injEq, and_true] at e4;refine ⟨i, y', p', q', hy', ?_, hk', ?_⟩;·unfold Z0m at hin ⊢; rw [← e1]; exact hin
 ·rw [hn, ← Z2t (a := p), e4.1, Z2t]
theorem Zg7 {a b : ATree} (h : a.tree = b.tree) (n : Int) : Z4i a n = Z4i b n := by
 have hb : ∀ m, Z54 a m ↔ Z54 b m := fun m => ⟨Zba h, Zba h.symm⟩;unfold Z4i nodeAt;by_cases hn : n < 0;·rw [if_pos hn, if_pos hn]
 rw [if_neg hn, if_neg hn];cases hx : a.subs[n.toNat]? with
 | none =>
   have : b.subs[n.toNat]? = none := by
    rw [List.getElem?_eq_none_iff] at hx ⊢;rw [← Z7a h]; exact hx
   rw [this]
 | some x =>
   obtain ⟨y, hy⟩ : ∃ y, b.subs[n.toNat]? = some y := ⟨_, List.getElem?_eq_getElem (by rw [← Z7a h]; exact (List.getElem?_eq_some_iff.1 hx).1)⟩
   rw [hy];have e := Zgf h hx hy;obtain ⟨e1, e2, _, e4⟩ := Z3k e;have hl : ownL x = ownL y := by
    unfold ownL;rw [e1, e2, Z8q e, Z3u, Z3u, Z4l Z26 Z9r _ _ e4];have e5 := Z88 e4;split;·rfl
    split
    ·match hkx : x.kids, hky : y.kids with
     | [p, q], [p', q'] =>
       rw [hkx, hky] at e4;simp only [Z10, List.cons.injEq, and_true] at e4;simp only;rw [Z8q e4.2, Z3u, Z3u];rw [Zdq (Z3k e4.1).2.2.2]
     | [], [] => rfl
     | [_], [_] => rfl
     | _ :: _ :: _ :: _, _ :: _ :: _ :: _ => rfl
     | [], _ :: _ => rw [hkx, hky] at e5; simp at e5
     | _ :: _, [] => rw [hkx, hky] at e5; simp at e5
     | [_], _ :: _ :: _ => rw [hkx, hky] at e5; simp at e5
     | _ :: _ :: _, [_] => rw [hkx, hky] at e5; simp at e5
     | [_, _], _ :: _ :: _ :: _ => rw [hkx, hky] at e5; simp at e5
     | _ :: _ :: _ :: _, [_, _] => rw [hkx, hky] at e5; simp at e5
    rfl
   simp only [hl];by_cases hc : x.kind = 6 ∧ Z54 a n.toNat;·rw [if_pos hc, if_pos ⟨by rw [← e1]; exact hc.1, (hb _).1 hc.2⟩]
   ·rw [if_neg hc, if_neg (fun h' => hc ⟨by rw [e1]; exact h'.1, (hb _).2 h'.2⟩)]
theorem Z50 {a x : ATree} {k : Nat} (hx : a.subs[k]? = some x) (hb : ¬ (x.kind = 6 ∧ Z54 a k)) : Z4i a k = (ownL x, decide (0 < (ownL x).length)) := by
 have h1 : nodeAt a k = some x := by
  unfold nodeAt;rw [if_neg (by omega)];simpa using hx
 unfold Z4i;rw [h1];simp only [Int.toNat_natCast];rw [if_neg hb]
theorem Zb7 {a x : ATree} {k : Nat} (hx : a.subs[k]? = some x) (hb : x.kind = 6 ∧ Z54 a k) : Z4i a k = ([], false) := by
 have h1 : nodeAt a k = some x := by
  unfold nodeAt;rw [if_neg (by omega)];simpa using hx
 unfold Z4i;rw [h1];simp only [Int.toNat_natCast];rw [if_pos hb]
theorem Zay {a : ATree} {n : Int} (h : n < 0 ∨ (a.subs.length : Int) ≤ n) : Z4i a n = ([], false) := by
 have h1 : nodeAt a n = none := by
  unfold nodeAt;rcases h with h | h;·rw [if_pos h]
  ·rw [if_neg (by omega)];exact List.getElem?_eq_none (by omega)
 unfold Z4i;rw [h1]
theorem Z9g (a : ATree) (b : Bool) : (Z2f b a).length ≤ 3 * a.many := by
 have h0 := Z6w a;have h1 := Z16 (if b then Z4z a else []) (a.kids.filter Z1o);have h2 := Z16 (Z0d (if b then Z4z a else []) (a.kids.filter Z1o)) (a.kids.filter Z26);have h3 : (a.kids.filter Z1o).length ≤ a.kids.length := List.length_filter_le _ _;have h4 : (a.kids.filter Z26).length ≤ a.kids.length := List.length_filter_le _ _;have h5 := Z24 a;have h6 : (if b then Z4z a else []).length ≤ a.many := by cases b <;> simp [h0]
 unfold Z2f;omega
theorem Z7w (w : World) (a b : Nat) (ha : Z47 w a) (hb : Z47 w b) : (binOp .eql 22 (Z32 a) (Z32 b)).run Tryz.prog w = .ok (.bool (decide (a = b))) w := by
 have h := Z7e w a b ha hb;unfold binOp;simp only [Z32] at h ⊢;simp only [Sem.run_bind, h, Result.andThen];rfl
theorem Zy.one2 {w : World} {B : Nat} (hB : B ≤ w.heap.size) (s : ByteArray) : Zy (w.alloc (.cells #[.string s] 9)) B (.slice (some ⟨w.heap.size, 0, none⟩) 1 1) [s] := by
 unfold Zy;refine ⟨rfl, .inr ⟨w.heap.size, 1, _, rfl, hB, (Go.MapKept.heap_alloc w _).1, by simp, by unfold maxLen; omega, by simp, ?_⟩⟩;simp
theorem Zge (w : World) (B0 : Nat) (a : ATree) (n : Int) (hT : TreeAt w B0 a) (hd : (a.subs.map (·.b)).Nodup) (hmx : a.many ≤ 1500) (hWT : WT a.tree) :
 Calls Tryz.prog 6 #[a.ptr, .int .i64 n] w fun e w' => ∃ v, e = .returned (.tuple #[v, .bool (Z4i a n).2]) ∧ Zy w' w.heap.size v (Z4i a n).1 ∧ Below w.heap.size w w' := by
 have HA := lh (Zg1 _ a (Nat.le_refl _) (by omega) w _ hT);obtain ⟨L, hL⟩ : ∃ L, L = (Z4i a n).1 := ⟨_, rfl⟩
 obtain ⟨R, hR⟩ : ∃ R, R = (Z4i a n).2 := ⟨_, rfl⟩
 rw [← hL, ← hR];have HLR := lh (show Z4i a n = (L, R) from Prod.ext hL.symm hR.symm);have HT := lh hT;have HD := lh hd;have HWT := lh hWT;have HMX := lh hmx;clear hT hd hWT hmx hL hR;unfold ATree.ptr at HA ⊢;go_enter Tryz.func6, Tryz.ntmps6
 go_wp2_with fail
 refine HA.out.mono ?_;rintro e w2 ⟨v2, rfl, hn2, hb2⟩;obtain ⟨p, cp, rfl, hge, hgm⟩ := hn2.parts;have T2 := lh (HT.out.bel hb2);have N2 := lh hn2;have B2 := lh hb2;obtain ⟨m, hm⟩ : ∃ m, m = a.subs.length := ⟨_, rfl⟩
 rw [← hm] at hge N2 ⊢;have HM := lh hm;clear hn2 hb2 hm HA HT;by_cases hneg : n < 0
 ·have h1 : decide (n < 0) = true := by simpa using hneg
  have hq := HLR.out;rw [Zay (.inl hneg)] at hq;simp only [Prod.mk.injEq] at hq;obtain ⟨rfl, rfl⟩ := hq;go_wp2;go_ret2
  exact ⟨_, rfl, Zy.nil _ _, B2.out⟩
 by_cases hbig : (m : Int) ≤ n
 ·have h1 : decide (n < 0) = false := by simpa using hneg
  have h2 : decide (n ≥ (m : Int)) = true := by simpa using hbig
  have hq := HLR.out;rw [Zay (.inr (by rw [← HM.out]; exact hbig))] at hq;simp only [Prod.mk.injEq] at hq;obtain ⟨rfl, rfl⟩ := hq;go_wp2;go_ret2
  exact ⟨_, rfl, Zy.nil _ _, B2.out⟩
 obtain ⟨k, rfl⟩ : ∃ k : Nat, n = k := ⟨n.toNat, by omega⟩
 have hkm : k < m := by omega
 have h1 : decide ((k : Int) < 0) = false := by simp
 have h2 : decide ((k : Int) ≥ (m : Int)) = false := by simp; omega
 have h3 : decide (m ≤ k) = false := by simp; omega
 obtain ⟨x, hx⟩ : ∃ x, a.subs[k]? = some x := ⟨_, List.getElem?_eq_getElem (by rw [← HM.out]; exact hkm)⟩
 obtain ⟨g0, hp⟩ : ∃ g, p = some ⟨g, 0, none⟩ := by
  rcases N2.out.form with ⟨_, h2⟩ | ⟨g, cap, h1, _⟩;·rw [h2] at hx; simp at hx
  ·simp only [Value.slice.injEq] at h1; exact ⟨g, h1.1⟩
 subst hp;have cx := N2.out.cell rfl hx;have TX := lh (Z57 T2.out (List.mem_of_getElem? hx));have HWX := lh (Zb4 a HWT.out x (List.mem_of_getElem? hx));have MX := lh (show x.many ≤ 1500 by have := Zcp a x (List.mem_of_getElem? hx); have := HMX.out; omega);have HX := lh hx;have x0 := TX.out.c0;obtain ⟨kd, hkd⟩ : ∃ kd, kd = x.kind := ⟨_, rfl⟩
 rw [← hkd] at x0;have HKD := lh hkd;clear hx hkd hneg hbig;by_cases k1 : kd = 1
 ·subst k1;have hq := HLR.out;rw [Z50 HX.out (by rw [← HKD.out]; omega)] at hq;have e1 : ownL x = Z0d [] (x.kids.filter Z26) := by unfold ownL; rw [if_pos HKD.out.symm]
  obtain ⟨Q, hQ⟩ : ∃ Q, Q = x.kids.filter Z26 := ⟨_, rfl⟩
  rw [e1, ← hQ] at hq;simp only [Prod.mk.injEq] at hq;obtain ⟨rfl, rfl⟩ := hq;have HL := lh (Z90 w2 _ x TX.out (by have := MX.out; omega));have HQK := lh (show ∀ y ∈ Q, y ∈ x.kids from fun y hy => by rw [hQ] at hy; exact (List.mem_filter.1 hy).1);have hql : Q.length ≤ 1500 := by
   have h4 : (x.kids.filter Z26).length ≤ x.kids.length := List.length_filter_le _ _;have h5 := Z24 x;have := MX.out;rw [hQ]; omega
  rw [← hQ] at HL;have HQL := lh hql;unfold ATree.ptr at HL;clear hQ e1 hql;go_wp2_with fail
  refine HL.out.mono ?_;rintro e w3 ⟨v3, rfl, hn3, hb3⟩;obtain ⟨q, cq, rfl, hqe, hqm⟩ := hn3.parts;have TX3 := lh (TX.out.bel hb3);have B3 := lh (B2.out.trans (hb3.mono B2.out.size));have N3 := lh hn3;obtain ⟨z, hz⟩ : ∃ z, z = Q.length := ⟨_, rfl⟩
  rw [← hz] at hqe N3 ⊢;have HZ := lh hz;clear hn3 hb3 hz HL cx x0;go_wp2_with fail
  go_loopw [7, 38] (fun v i wr => ∃ (j : Nat) (v' : Value), v' = v ∧ j ≤ z ∧ i = .int .i64 j ∧ Hid (Zy wr w.heap.size v' (Z0d [] (Q.take j))) ∧ Hid (Below w.heap.size w wr) ∧ Hid (Below w3.heap.size w3 wr)) (fun _ i _ => z - (intOf i).toNat)
  case atStart => exact ⟨0, _, rfl, Nat.zero_le _, rfl, lh (Zy.nil _ _), B3, lh (Below.refl _ _)⟩
  case round =>
   obtain ⟨j, v, rfl, hj, rfl, TT, HB, HBB⟩ := hrel;by_cases hjz : j < z
   ·obtain ⟨y, hy⟩ : ∃ y, Q[j]? = some y := ⟨_, List.getElem?_eq_getElem (by rw [← HZ.out]; exact hjz)⟩
    have NO := N3.out.bel HBB.out;obtain ⟨g1, hp⟩ : ∃ g, q = some ⟨g, 0, none⟩ := by
     rcases NO.form with ⟨_, h2⟩ | ⟨g, cap, h1, _⟩;·rw [h2] at hy; simp at hy
     ·simp only [Value.slice.injEq] at h1; exact ⟨g, h1.1⟩
    subst hp;have cy := NO.cell rfl hy;have y1 := ((TX3.out.bel HBB.out).kid (HQK.out y (List.mem_of_getElem? hy))).c1;have HST := lh (Z30 (l := []) hy);have hlm : (Z0d [] (Q.take j)).length < 1099511627776 := by
     have h1 := Z16 [] (Q.take j);have h2 : (Q.take j).length ≤ Q.length := by rw [List.length_take]; omega
     have h3 := HQL.out;simp only [List.length_nil] at h1;omega
    have HA := lh (Z3o wr w.heap.size v _ y.text TT.out HB.out.size hlm);clear NO hy hlm;go_wp2_with fail
    refine HA.out.mono ?_;rintro e w4 ⟨v4, rfl, ht, hb⟩;rw [← HST.out] at ht;have TT4 := lh ht;have HB4 := lh (HB.out.trans (hb.mono HB.out.size));have HBB4 := lh (HBB.out.trans (hb.mono HBB.out.size));clear ht hb HA;go_wp2;go_roundw
    case rel => exact ⟨j + 1, _, rfl, by omega, by go_num, TT4, HB4, HBB4⟩
    case measure => simp [intOf]; omega
   ·have hk2 : j = z := by omega
    subst hk2;have hend := TT.out;rw [List.take_of_length_le (by rw [← HZ.out]; exact Nat.le_refl _)] at hend;obtain ⟨pv, cv, rfl, hve, hvm⟩ := hend.parts;have TE := lh hend;obtain ⟨u, hu⟩ : ∃ u, u = (Z0d [] Q).length := ⟨_, rfl⟩
    rw [← hu] at hve TE ⊢;have HU := lh hu;clear hend TT hu;go_wp2;go_ret2
    refine ⟨_, ?_, TE.out, HB.out⟩;rw [← HU.out];rfl
 have n1 : (kd == 1) = false := by simpa using k1
 have HF := lh (Z5i w2 _ x TX.out);unfold ATree.ptr at HF;clear h1 h2 h3;by_cases kf : kd = 5 ∨ kd = 37
 ·obtain ⟨p1, q1, hk⟩ := HWX.out.two (by rw [← HKD.out]; exact kf);have hq := HLR.out;rw [Z50 HX.out (by rw [← HKD.out]; omega)] at hq;have e1 : ownL x = Z1b (Z0d [] p1.kids) (Z2f true q1) := by unfold ownL; rw [← HKD.out, if_neg k1, if_pos kf, hk]
  have hlp : (Z0d [] p1.kids).length ≤ 1500 := by
   have h1 := Z16 [] p1.kids;have h2 := Z24 p1;have h3 := Z5f hk;have := MX.out;simp only [List.length_nil] at h1;omega
  obtain ⟨l0, hl0⟩ : ∃ l, l = Z0d [] p1.kids := ⟨_, rfl⟩
  obtain ⟨M, hM⟩ : ∃ M, M = Z2f true q1 := ⟨_, rfl⟩
  have hlm : M.length ≤ 4500 := by
   have h1 := Z9g q1 true;have h3 := Z5f hk;have := MX.out;rw [hM]; omega
  rw [e1, ← hl0, ← hM] at hq;simp only [Prod.mk.injEq] at hq;obtain ⟨rfl, rfl⟩ := hq;have ef : Z0m x = true := by unfold Z0m; rw [← HKD.out]; simpa using kf
  rw [ef] at HF;have HP := lh (Zcg w2 _ x p1 q1 TX.out hk (by have := MX.out; omega));have HQ1 := lh (show q1.many ≤ 100000 by have h3 := Z5f hk; have := MX.out; omega);have HK2 := lh hk;rw [← hl0] at hlp HP;have HL0 := lh hlp;have HM2 := lh hM;have HML := lh hlm;unfold ATree.ptr at HP;clear hl0 hM e1 hk hlp hlm ef;go_wp2_with fail
  refine HF.out.mono ?_;rintro e w3 ⟨rfl, hw3⟩;have hw4 := hw3.symm;subst hw4;clear HF hw3;go_wp2_with fail
  refine HP.out.mono ?_;rintro e w3 ⟨v3, rfl, ht3, hb3⟩;have TX3 := lh (TX.out.bel hb3);obtain ⟨gk, ck, r3, r4, r5, hck, _, hTq⟩ := TX3.out.two HK2.out;have B3 := lh (B2.out.trans (hb3.mono B2.out.size));have TT3 := lh (ht3.base B2.out.size);have HN := lh (Zbr w3 _ q1 hTq HQ1.out);rw [← HM2.out] at HN;unfold ATree.ptr at HN;clear ht3 hb3 hTq HP cx x0;go_wp2_with fail
  refine HN.out.mono ?_;rintro e w4 ⟨v4, rfl, ht4, hb4⟩;obtain ⟨q, cq, rfl, hqe, hqm⟩ := ht4.parts;have TT4 := lh (TT3.out.bel hb4);have B4 := lh (B3.out.trans (hb4.mono B3.out.size));have N4 := lh ht4;obtain ⟨z, hz⟩ : ∃ z, z = M.length := ⟨_, rfl⟩
  rw [← hz] at hqe N4 ⊢;have HZ := lh hz;clear ht4 hb4 hz HN r3 r4 r5 TT3;go_wp2_with fail
  go_loopw [7, 62] (fun v i wr => ∃ (j : Nat) (v' : Value), v' = v ∧ j ≤ z ∧ i = .int .i64 j ∧ Hid (Zy wr w.heap.size v' (Z1b l0 (M.take j))) ∧ Hid (Below w.heap.size w wr) ∧ Hid (Below w4.heap.size w4 wr)) (fun _ i _ => z - (intOf i).toNat)
  case atStart => exact ⟨0, _, rfl, Nat.zero_le _, rfl, TT4, B4, lh (Below.refl _ _)⟩
  case round =>
   obtain ⟨j, v, rfl, hj, rfl, TT, HB, HBB⟩ := hrel;by_cases hjz : j < z
   ·obtain ⟨y, hy⟩ : ∃ y, M[j]? = some y := ⟨_, List.getElem?_eq_getElem (by rw [← HZ.out]; exact hjz)⟩
    have NO := N4.out.bel HBB.out;obtain ⟨g1, hp⟩ : ∃ g, q = some ⟨g, 0, none⟩ := by
     rcases NO.form with ⟨_, h2⟩ | ⟨g, cap, h1, _⟩;·rw [h2] at hy; simp at hy
     ·simp only [Value.slice.injEq] at h1; exact ⟨g, h1.1⟩
    subst hp;have cy := NO.cells rfl hy;have HST := lh (Z5h (l := l0) hy);have hlm : (Z1b l0 (M.take j)).length < 1099511627776 := by
     have h1 := Z62 l0 (M.take j);have h2 : (M.take j).length ≤ M.length := by rw [List.length_take]; omega
     have h3 := HML.out;have h4 := HL0.out;omega
    have HA := lh (Z3o wr w.heap.size v _ y TT.out HB.out.size hlm);clear NO hy hlm;go_wp2_with fail
    refine HA.out.mono ?_;rintro e w5 ⟨v5, rfl, ht, hb⟩;rw [← HST.out] at ht;have TT5 := lh ht;have HB5 := lh (HB.out.trans (hb.mono HB.out.size));have HBB5 := lh (HBB.out.trans (hb.mono HBB.out.size));clear ht hb HA;go_wp2;go_roundw
    case rel => exact ⟨j + 1, _, rfl, by omega, by go_num, TT5, HB5, HBB5⟩
    case measure => simp [intOf]; omega
   ·have hk2 : j = z := by omega
    subst hk2;have hend := TT.out;rw [List.take_of_length_le (by rw [← HZ.out]; exact Nat.le_refl _)] at hend;obtain ⟨pv, cv, rfl, hve, hvm⟩ := hend.parts;have TE := lh hend;obtain ⟨u, hu⟩ : ∃ u, u = (Z1b l0 M).length := ⟨_, rfl⟩
    rw [← hu] at hve TE ⊢;have HU := lh hu;clear hend TT hu;go_wp2;go_ret2
    refine ⟨_, ?_, TE.out, HB.out⟩;rw [← HU.out];rfl
 by_cases k13 : kd = 13
 ·subst k13;have hq := HLR.out;rw [Z50 HX.out (by rw [← HKD.out]; omega)] at hq;have e1 : ownL x = [x.text] := by unfold ownL; rw [← HKD.out, if_neg (by decide), if_neg (by decide), if_pos rfl]
  rw [e1] at hq;simp only [Prod.mk.injEq] at hq;obtain ⟨rfl, rfl⟩ := hq;have x1 := TX.out.c1;have ef : Z0m x = false := by unfold Z0m; rw [← HKD.out]; rfl
  rw [ef] at HF;have TO := lh (Zy.one2 (w := w2) (B := w.heap.size) B2.out.size x.text);have BO := lh (B2.out.trans ((Below.refl w2.heap.size w2).alloc (Nat.le_refl _) (.cells #[.string x.text] 9) |>.mono B2.out.size));go_wp2_with fail
  refine HF.out.mono ?_;rintro e w3 ⟨rfl, hw3⟩;have hw4 := hw3.symm;subst hw4;go_wp2;go_ret2
  exact ⟨_, rfl, TO.out, BO.out⟩
 by_cases k6 : kd = 6
 ·subst k6;have ef : Z0m x = false := by unfold Z0m; rw [← HKD.out]; rfl
  rw [ef] at HF;have HNN := lh (Zb5 w2 _ x TX.out (by have := MX.out; omega));unfold ATree.ptr at HNN;have HBN := lh (fun hb : Z54 a k => Zb7 HX.out ⟨HKD.out.symm, hb⟩);have HBY := lh (fun hb : ¬ Z54 a k => Z50 HX.out (fun h => hb h.2));have e1 : ownL x = Z2f false x := by unfold ownL; rw [← HKD.out]; rfl
  rw [e1] at HBY;obtain ⟨M, hM⟩ : ∃ M, M = Z2f false x := ⟨_, rfl⟩
  rw [← hM] at HBY HNN;clear ef e1 hM;go_wp2_with fail
  refine HF.out.mono ?_;rintro e w3 ⟨rfl, hw3⟩;have hw4 := hw3.symm;subst hw4;clear HF hw3;go_wp2_with fail
  go_loopw [89] (fun i wr => ∃ j : Nat, j ≤ m ∧ i = .int .i64 j ∧ wr = w2 ∧ Hid (∀ i' y p q, i' < j → a.subs[i']? = some y → Z0m y = true → y.kids = [p, q] → q.b ≠ x.b)) (fun i _ => m - (intOf i).toNat)
  case atStart => exact ⟨0, Nat.zero_le _, rfl, rfl, lh (fun i' y p q h => absurd h (Nat.not_lt_zero _))⟩
  case round =>
   obtain ⟨j, hj, rfl, rfl, HNO⟩ := hrel;by_cases hjm : j < m
   ·obtain ⟨y, hy⟩ : ∃ y, a.subs[j]? = some y := ⟨_, List.getElem?_eq_getElem (by rw [← HM.out]; exact hjm)⟩
    have cy := N2.out.cell rfl hy;have TY := lh (Z57 T2.out (List.mem_of_getElem? hy));have HFY := lh (Z5i _ _ y TY.out);have HWY := lh (Zb4 a HWT.out y (List.mem_of_getElem? hy));have HY := lh hy;unfold ATree.ptr at HFY;clear hy;cases hin : Z0m y with
    | false =>
      rw [hin] at HFY;have HIN := lh hin;clear hin;go_wp2_with fail
      refine HFY.out.mono ?_;rintro e w4 ⟨rfl, hw4⟩;have hw5 := hw4.symm;subst hw5;clear hw4 HFY;go_wp2;go_roundw
      case rel =>
       refine ⟨j + 1, by omega, by go_num, by first | rfl | trivial, lh (fun i' z p q h1 h2 h3 h4 => ?_)⟩;rcases Nat.lt_or_ge i' j with h | h;·exact HNO.out i' z p q h h2 h3 h4
       ·have e : i' = j := by omega
        rw [e, HY.out] at h2;have e2 := Option.some.inj h2;rw [← e2, HIN.out] at h3;cases h3
      case measure => simp [intOf]; omega
    | true =>
      rw [hin] at HFY;obtain ⟨p1, q1, hk⟩ := HWY.out.two (by unfold Z0m at hin; simpa using hin);obtain ⟨gk, ck, r3, r4, r5, hck, _, hTq⟩ := TY.out.two hk;have HTQ := lh hTq;have HIN := lh hin;have HK := lh hk;clear hin hk hTq;have heq := Z7w wr q1.b x.b HTQ.out.cellsOf TX.out.cellsOf;unfold Z32 at heq;by_cases hqb : q1.b = x.b
      ·rw [decide_eq_true hqb, hqb] at heq;have hq := HLR.out;rw [HBN.out (Zcn HD.out HX.out HY.out HIN.out HK.out hqb)] at hq;simp only [Prod.mk.injEq] at hq;obtain ⟨rfl, rfl⟩ := hq;go_wp2_with fail
       refine HFY.out.mono ?_;rintro e w4 ⟨rfl, hw4⟩;have hw5 := hw4.symm;subst hw5;clear hw4 HFY;go_wp2;go_ret2
       exact ⟨_, rfl, Zy.nil _ _, B2.out⟩
      ·rw [decide_eq_false hqb] at heq;go_wp2_with fail
       refine HFY.out.mono ?_;rintro e w4 ⟨rfl, hw4⟩;have hw5 := hw4.symm;subst hw5;clear hw4 HFY;go_wp2;go_roundw
       case rel =>
        refine ⟨j + 1, by omega, by go_num, by first | rfl | trivial, lh (fun i' z p q h1 h2 h3 h4 => ?_)⟩;rcases Nat.lt_or_ge i' j with h | h;·exact HNO.out i' z p q h h2 h3 h4
        ·have e : i' = j := by omega
         rw [e, HY.out] at h2;have e2 := Option.some.inj h2;rw [← e2, HK.out] at h4;simp only [List.cons.injEq, and_true] at h4;rw [← h4.2];exact hqb
       case measure => simp [intOf]; omega
   ·have hk2 : j = m := by omega
    subst hk2;have hnb : ¬ Z54 a k := fun ⟨i, y, p, q, h1, h2, h3, h4⟩ => by
     have h5 := Z8p h1 h3;rw [← h4, HX.out] at h5;have h6 := Option.some.inj h5;exact HNO.out i y p q (by rw [HM.out]; exact (List.getElem?_eq_some_iff.1 h1).1) h1 h2 h3 (by rw [← h6])
    have hq := HLR.out;rw [HBY.out hnb] at hq;simp only [Prod.mk.injEq] at hq;obtain ⟨rfl, rfl⟩ := hq;clear hnb HNO;go_wp2_with fail
    refine HNN.out.mono ?_;rintro e w4 ⟨v4, rfl, ht4, hb4⟩;obtain ⟨pv, cv, rfl, hve, hvm⟩ := ht4.parts;have TE := lh (ht4.base B2.out.size);have B4 := lh (B2.out.trans (hb4.mono B2.out.size));obtain ⟨u, hu⟩ : ∃ u, u = M.length := ⟨_, rfl⟩
    rw [← hu] at hve TE ⊢;have HU := lh hu;clear ht4 hb4 hu HNN;go_wp2;go_ret2
    refine ⟨_, ?_, TE.out, B4.out⟩;rw [← HU.out];rfl
 have n13 : (kd == 13) = false := by simpa using k13
 have n6 : (kd == 6) = false := by simpa using k6
 have hq := HLR.out;rw [Z50 HX.out (by rw [← HKD.out]; omega)] at hq;have e1 : ownL x = [] := by unfold ownL; rw [← HKD.out, if_neg k1, if_neg kf, if_neg k13, if_neg k6]
 rw [e1] at hq;simp only [Prod.mk.injEq] at hq;obtain ⟨rfl, rfl⟩ := hq;have ef : Z0m x = false := by unfold Z0m; rw [← HKD.out]; simp; omega
 rw [ef] at HF;go_wp2_with fail
 refine HF.out.mono ?_;rintro e w3 ⟨rfl, hw3⟩;have hw4 := hw3.symm;subst hw4;go_wp2;go_ret2
 exact ⟨_, rfl, Zy.nil _ _, B2.out⟩
end Go.Proofs.YtgmnfgljkocnpaaGreatDoor
