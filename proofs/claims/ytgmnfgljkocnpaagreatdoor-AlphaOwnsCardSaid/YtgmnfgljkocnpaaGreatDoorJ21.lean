/- The document's kinds, Funcs, Lets. The document's Names; what is told of no node. -/
import Derived.Test.YtgmnfgljkocnpaaGreatDoorJ01
import Derived.Test.YtgmnfgljkocnpaaGreatDoorJ20
namespace Go.Proofs.YtgmnfgljkocnpaaGreatDoor
open Go Go.RowKit
set_option maxRecDepth 100000
set_option maxHeartbeats 20000000
set_option linter.unusedVariables false
def Z3y (cs : List Int) (x : ATree) : List ATree := (cs.filter fun c => x.kind == c).map fun _ => x
def Z4m (cs : List Int) (ks : List ATree) : List ATree := ks.flatMap (Z3y cs)
theorem Zcl {cs : List Int} {ks : List ATree} {k : Nat} {x : ATree} (h : ks[k]? = some x) : Z4m cs (ks.take (k + 1)) = Z4m cs (ks.take k) ++ Z3y cs x := by
 rw [Z0c h];simp [Z4m]
theorem Zal {cs : List Int} {j : Nat} {c : Int} {x : ATree} (h : cs[j]? = some c) : Z3y (cs.take (j + 1)) x = Z3y (cs.take j) x ++ (if x.kind == c then [x] else []) := by
 have e : cs.take (j + 1) = cs.take j ++ [c] := by rw [List.take_add_one, h]; rfl
 rw [e];unfold Z3y;rw [List.filter_append, List.map_append];by_cases hc : (x.kind == c) = true;·rw [if_pos hc]; simp [hc]
 ·rw [if_neg hc]; simp [hc]
theorem Z8x (cs : List Int) (x : ATree) : (Z3y cs x).length ≤ cs.length := by
 unfold Z3y;rw [List.length_map];exact List.length_filter_le _ _
theorem Zdh (cs : List Int) (ks : List ATree) : (Z4m cs ks).length ≤ cs.length * ks.length := by
 induction ks with
 | nil => simp [Z4m]
 | cons x ks ih =>
   have h1 := Z8x cs x;simp only [Z4m, List.flatMap_cons, List.length_append, List.length_cons] at ih ⊢;rw [Nat.mul_succ];omega
theorem Zdl (ks : List ATree) : Z4m [5] ks = ks.filter Z1o := by
 induction ks with
 | nil => rfl
 | cons x ks ih =>
   simp only [Z4m, List.flatMap_cons] at ih ⊢;rw [ih];unfold Z3y Z1o;by_cases h : (x.kind == 5) = true;·simp [h]
   ·simp [h]
theorem Zf1 (ks : List ATree) : Z4m [3, 4] ks = ks.filter Z26 := by
 induction ks with
 | nil => rfl
 | cons x ks ih =>
   simp only [Z4m, List.flatMap_cons] at ih ⊢;rw [ih];unfold Z3y Z26;by_cases h : (x.kind == 3) = true
   ·have h4 : (x.kind == 4) = false := by
     have : x.kind = 3 := by simpa using h
     rw [this]; rfl
    simp [h, h4]
   ·by_cases h4 : (x.kind == 4) = true;·simp [h, h4]
    ·simp [h, h4]
theorem Z0s.snoc {w : World} {B g cap : Nat} {l : List ATree} {x : ATree} (h : w.ownsRow B 22 1 (.slice (some ⟨g, 0, none⟩) (l.length + 1) cap) (l.length + 1) (l.map ATree.ptr ++ [x.ptr])) : Z0s w B (.slice (some ⟨g, 0, none⟩) (l.length + 1) cap) (l ++ [x]) := by
 unfold Z0s;rw [List.length_append, List.map_append];exact h
theorem Z9p (w : World) (B0 : Nat) (a : ATree) (hT : TreeAt w B0 a) (hmx : a.many ≤ 100000) (lb : Nat) (cs : List Int) (hlb : lb < w.heap.size) (hcs : ∀ i x, cs[i]? = some x → w.cell? ⟨lb, i, none⟩ = some (.int .i64 x)) (hc10 : cs.length ≤ 10) :
 Calls Tryz.prog 39 #[a.ptr, .slice (some ⟨lb, 0, none⟩) cs.length cs.length] w fun e w' => ∃ v, e = .returned v ∧ Z0s w' w.heap.size v (Z4m cs a.kids) ∧ Below w.heap.size w w' := by
 obtain ⟨i0, hi, hz0, hz1, hz2⟩ := info_parts Tryz.infoPtr;obtain ⟨p, cp, hv, hge, hgm⟩ := hT.vOf;have c3 := hT.c3;rw [hv] at c3;have hkm := Z24 a;have hlen : a.kids.length ≤ 100000 := by omega
 have HT := lh hT;have HV := lh hv;have HCS := lh hcs;have HLB := lh hlb;have HSL := lh (show ∀ k, (Z4m cs (a.kids.take k)).length ≤ 1000000 from fun k => by
  have h1 := Zdh cs (a.kids.take k);have h2 : (a.kids.take k).length ≤ a.kids.length := by rw [List.length_take]; omega
  have h3 : cs.length * (a.kids.take k).length ≤ 10 * 100000 := Nat.mul_le_mul hc10 (by omega);omega)
 unfold ATree.ptr;obtain ⟨n, hnn⟩ : ∃ n, n = a.kids.length := ⟨_, rfl⟩
 rw [← hnn] at c3 hlen hge;have HN := lh hnn;obtain ⟨m, hm⟩ : ∃ m, m = cs.length := ⟨_, rfl⟩
 rw [← hm] at hc10 ⊢;have HM := lh hm;unfold maxLen at hgm;clear hv hnn hT hkm hmx hm hcs hlb;go_enter Tryz.func39, Tryz.ntmps39
 go_wp2_with fail
 go_loopw [5, 17] (fun v i wr => ∃ (k : Nat) (v' : Value), v' = v ∧ k ≤ n ∧ i = .int .i64 k ∧ Hid (Z0s wr w.heap.size v' (Z4m cs (a.kids.take k))) ∧ Hid (Below w.heap.size w wr)) (fun _ i _ => n - (intOf i).toNat)
 case atStart => exact ⟨0, _, rfl, Nat.zero_le _, rfl, lh (Z0s.nil _ _), lh (Below.refl _ _)⟩
 case round =>
  obtain ⟨k, v, rfl, hk, rfl, HR, HB⟩ := hrel;by_cases hkn : k < n
  ·obtain ⟨x, hx⟩ : ∃ x, a.kids[k]? = some x := ⟨_, List.getElem?_eq_getElem (by rw [← HN.out]; exact hkn)⟩
   have hT2 := HT.out.bel HB.out;have hrow := hT2.rowOf;rcases Zc hrow with ⟨_, h2⟩ | ⟨g0, cap0, hv0, _⟩;·rw [← HN.out] at h2; omega
   have hp : p = some ⟨g0, 0, none⟩ := by
    have := HV.out.symm.trans hv0;simp only [Value.slice.injEq] at this;exact this.1
   subst hp;have cx := Zo hrow (g := g0) (by rw [hv0]; rfl) (i := k) (x := x.ptr) (by rw [List.getElem?_map, hx]; rfl);unfold ATree.ptr at cx;have hTx := (HT.out).kid (List.mem_of_getElem? hx);have HTX := lh hTx;have HNX := lh (Zcl (cs := cs) hx);obtain ⟨L, hL⟩ : ∃ L, L = Z4m cs (a.kids.take k) := ⟨_, rfl⟩
   have hl1 : L.length ≤ 1000000 := by rw [hL]; exact HSL.out k
   rw [← hL] at HR HNX;clear hT2 hrow hv0 hTx hx hL;go_wp2_with fail
   go_loopw [5, 23] (fun v i wr' => ∃ (j : Nat) (v' : Value), v' = v ∧ j ≤ m ∧ i = .int .i64 j ∧ Hid (Z0s wr' w.heap.size v' (L ++ Z3y (cs.take j) x)) ∧ Hid (Below w.heap.size w wr')) (fun _ i _ => m - (intOf i).toNat)
   case atStart => exact ⟨0, _, rfl, Nat.zero_le _, rfl, lh (by have := HR.out; simpa [Z3y] using this), HB⟩
   case round =>
    obtain ⟨j, v, rfl, hj, rfl, HR2, HB2⟩ := hrel;by_cases hjm : j < m
    ·obtain ⟨c, hc⟩ : ∃ c, cs[j]? = some c := ⟨_, List.getElem?_eq_getElem (by rw [← HM.out]; exact hjm)⟩
     have cc := (HB2.out.cell (p := ⟨lb, j, none⟩) HLB.out).trans (HCS.out j c hc);have x0 := (HTX.out.bel HB2.out).c0;have HST := lh (Zal (x := x) hc);obtain ⟨L2, hL2⟩ : ∃ L2, L2 = L ++ Z3y (cs.take j) x := ⟨_, rfl⟩
     have hl2 : L2.length ≤ 1000010 := by
      rw [hL2, List.length_append];have h1 := Z8x (cs.take j) x;have h2 : (cs.take j).length ≤ cs.length := by rw [List.length_take]; omega
      have h3 := HM.out;omega
     rw [← hL2] at HR2;have HL2 := lh hL2;obtain ⟨kd, hkd⟩ : ∃ kd, kd = x.kind := ⟨_, rfl⟩
     rw [← hkd] at x0 HST;clear hc hL2 hkd;by_cases hkc : kd = c
     ·subst hkc;have hbb : (kd == kd) = true := beq_self_eq_true _;have HB3 := HB2.out.size
      go_wp2_with (at_builtin; go_must (refine wpList_append_lies _ rfl (.tmp 33) (.tmp 35) 42 rfl w.heap.size 22 i0 _ 1 8 Tryz.underlying42 hi hz0 hz1 hz2 rfl (by decide) v L2.length (L2.map ATree.ptr) rfl (HR2.out.alloc _) ⟨_, 0, none⟩ 1 1 [x.ptr] rfl rfl (World.news_of_block (cs := #[x.ptr]) (t := 22) (fr := (0, 0)) (heap_alloc_new _ _)) (by simp [ATree.ptr, Value.oneCell']) (by omega) (by unfold maxLen; omega) (by omega) (by simp; omega) _ rfl ?_); intro gg cap w4 hown4 hgrow4 hat4 hgl4; have HG := lh hgrow4; have HW := lh hown4; clear hgrow4 hown4 hat4 hgl4)
      go_roundw
      case rel => exact ⟨j + 1, _, rfl, by omega, by go_num, lh (by rw [HST.out, if_pos (beq_self_eq_true _), ← List.append_assoc, ← HL2.out]; exact Z0s.snoc HW.out), lh ((HB2.out.alloc HB2.out.size _).grown HG.out (by simp; omega) fun i hi2 => (World.ownsRow.lt HR2.out i hi2).1)⟩
      case measure => simp [intOf]; omega
     ·have hbb : (kd == c) = false := by simpa using hkc
      clear hkc;go_wp2;go_roundw
      case rel => exact ⟨j + 1, _, rfl, by omega, by go_num, lh (by rw [HST.out, hbb, ← List.append_assoc, ← HL2.out]; simpa using HR2.out), HB2⟩
      case measure => simp [intOf]; omega
    ·have hj2 : j = m := by omega
     subst hj2;have HFIN := lh (show Z0s _ w.heap.size v (Z4m cs (a.kids.take (k + 1))) from by
      have := HR2.out;rw [List.take_of_length_le (by rw [← HM.out]; exact Nat.le_refl _)] at this;rw [HNX.out]; exact this)
     go_wp2;go_roundw
     case rel => exact ⟨k + 1, _, rfl, by omega, by go_num, HFIN, HB2⟩
     case measure => simp [intOf]; omega
  ·have hk2 : k = n := by omega
   subst hk2;go_wp2;go_ret;refine ⟨_, rfl, ?_, HB.out⟩;have := HR.out;rwa [List.take_of_length_le (by rw [← HN.out]; exact Nat.le_refl _)] at this
theorem Z9q (w : World) (B0 : Nat) (a : ATree) (hT : TreeAt w B0 a) (hmx : a.many ≤ 100000) :
 Calls Tryz.prog 42 #[a.ptr] w fun e w' => ∃ v, e = .returned v ∧ Z0s w' w.heap.size v (a.kids.filter Z1o) ∧ Below w.heap.size w w' := by
 have hal : Below w.heap.size w (w.alloc (.cells #[.int .i64 5] 3)) := (Below.refl _ _).alloc (Nat.le_refl _) _;have HC := Z9p (w.alloc (.cells #[.int .i64 5] 3)) B0 a (hT.bel hal) hmx w.heap.size [5] (by simp) (fun i x hx => by
  cases i with
  | zero => simp at hx; subst hx; simp
  | succ i => simp at hx) (by simp)
 rw [Zdl] at HC;have HC := lh HC;have HAL := lh hal;unfold ATree.ptr at HC ⊢;clear hal hT hmx;go_enter Tryz.func42, Tryz.ntmps42
 go_wp2_with fail
 refine HC.out.mono ?_;rintro e w1 ⟨v, rfl, hn, hb⟩;have HNN := lh hn;have HBB := lh (HAL.out.trans (hb.mono HAL.out.size));clear hn hb HC;go_wp2;go_ret;exact ⟨_, rfl, Z1w HAL.out.size HNN.out, HBB.out⟩
theorem Z90 (w : World) (B0 : Nat) (a : ATree) (hT : TreeAt w B0 a) (hmx : a.many ≤ 100000) :
 Calls Tryz.prog 18 #[a.ptr] w fun e w' => ∃ v, e = .returned v ∧ Z0s w' w.heap.size v (a.kids.filter Z26) ∧ Below w.heap.size w w' := by
 have hal : Below w.heap.size w (w.alloc (.cells #[.int .i64 3, .int .i64 4] 3)) := (Below.refl _ _).alloc (Nat.le_refl _) _;have HC := Z9p (w.alloc (.cells #[.int .i64 3, .int .i64 4] 3)) B0 a (hT.bel hal) hmx w.heap.size [3, 4] (by simp) (fun i x hx => by
  cases i with
  | zero => simp at hx; subst hx; simp
  | succ i =>
    cases i with
    | zero => simp at hx; subst hx; simp
    | succ i => simp at hx) (by simp)
 rw [Zf1] at HC;have HC := lh HC;have HAL := lh hal;unfold ATree.ptr at HC ⊢;clear hal hT hmx;go_enter Tryz.func18, Tryz.ntmps18
 go_wp2_with fail
 refine HC.out.mono ?_;rintro e w1 ⟨v, rfl, hn, hb⟩;have HNN := lh hn;have HBB := lh (HAL.out.trans (hb.mono HAL.out.size));clear hn hb HC;go_wp2;go_ret;exact ⟨_, rfl, Z1w HAL.out.size HNN.out, HBB.out⟩
theorem Z74 (l : List ByteArray) (P Q : List ATree) : Z0d l (P ++ Q) = Z0d (Z0d l P) Q := by simp [Z0d, List.foldl_append]
theorem Z30 {l : List ByteArray} {R : List ATree} {k : Nat} {x : ATree} (h : R[k]? = some x) : Z0d l (R.take (k + 1)) = addL (Z0d l (R.take k)) x.text := by rw [Z0c h, Z5d]
theorem Zbr (w : World) (B0 : Nat) (a : ATree) (hT : TreeAt w B0 a) (hmx : a.many ≤ 100000) :
 Calls Tryz.prog 22 #[a.ptr, .bool true] w fun e w' => ∃ v, e = .returned v ∧ Zy w' w.heap.size v (Z2f true a) ∧ Below w.heap.size w w' := by
 obtain ⟨i0, hi, hz0, hz1, hz2⟩ := info_parts Tryz.infoPtr;have hkm := Z24 a;have HT := lh hT;have HF := lh (fun (w1 : World) (hb : Below w.heap.size w w1) => Z9q w1 B0 a (hT.bel hb) hmx);have HL := lh (fun (w1 : World) (hb : Below w.heap.size w w1) => Z90 w1 B0 a (hT.bel hb) hmx);have hfu : (a.kids.filter Z1o).length ≤ a.kids.length := List.length_filter_le _ _;have hle : (a.kids.filter Z26).length ≤ a.kids.length := List.length_filter_le _ _;have HPK := lh (show ∀ x, x ∈ a.kids.filter Z1o → x ∈ a.kids from fun x hx => (List.mem_filter.1 hx).1)
 have HQK := lh (show ∀ x, x ∈ a.kids.filter Z26 → x ∈ a.kids from fun x hx => (List.mem_filter.1 hx).1);unfold Z2f;obtain ⟨P, hP⟩ : ∃ P, P = a.kids.filter Z1o := ⟨_, rfl⟩
 obtain ⟨Q, hQ⟩ : ∃ Q, Q = a.kids.filter Z26 := ⟨_, rfl⟩
 rw [← hP] at hfu HPK HF ⊢;rw [← hQ] at hle HQK HL ⊢;have HPL := lh (show P.length ≤ 100000 by omega);have HQL := lh (show Q.length ≤ 100000 by omega);have HV := lh (Zfm _ a (Nat.le_refl _) hmx w B0 hT);have hvl := Z6w a;simp only [if_true];obtain ⟨l0, hl0⟩ : ∃ l, l = Z4z a := ⟨_, rfl⟩
 rw [← hl0] at HV hvl ⊢;have HL0 := lh (show l0.length ≤ 100000 by omega);unfold ATree.ptr at HF HL HV ⊢;clear hkm hT hfu hle hP hQ hvl hl0 hmx;go_enter Tryz.func22, Tryz.ntmps22
 go_wp2_with fail
 refine HV.out.mono ?_;rintro e w1 ⟨v0, rfl, ht1, hb1⟩;have TX1 := lh ht1;have TX1L := TX1;have B1 := lh hb1;clear ht1 hb1 HV;go_wp2_with fail
 refine (HF.out w1 B1.out).mono ?_;rintro e w2 ⟨v2, rfl, hn2, hb2⟩;have N2 := lh hn2;have TX2 := lh (TX1.out.bel hb2);have B2 := lh (B1.out.trans (hb2.mono B1.out.size));clear hn2 hb2 HF TX1;go_wp2_with fail
 refine (HL.out w2 B2.out).mono ?_;rintro e w3 ⟨v3, rfl, hn3, hb3⟩;have NP := lh (show Z0s w3 w.heap.size v2 P from Z1w B1.out.size (N2.out.bel hb3));have NQ := lh (show Z0s w3 w.heap.size v3 Q from Z1w B2.out.size hn3);have hfar : ∀ g, v3.ownBlock = some g → w2.heap.size ≤ g := fun g h => (World.ownsRow.lt hn3 g h).1;have hpl : ∀ g, v2.ownBlock = some g → g < w2.heap.size := fun g h => (World.ownsRow.lt N2.out g h).2;have TX := lh (TX2.out.bel hb3);have B3 := lh (B2.out.trans (hb3.mono B2.out.size));have hpl0 : ∀ g, v0.ownBlock = some g → v2.ownBlock ≠ some g := fun g h e => by
  have h1 := (World.ownsRow.lt TX1L.out g h).2;have h2 := (World.ownsRow.lt N2.out g e).1;omega
 have HP0 := lh hpl0;clear hn3 hb3 HL N2 TX2 TX1L;by_cases hq : Q = []
 ·obtain ⟨p3, c3, rfl⟩ : ∃ p c, v3 = .slice p 0 c := by
   rcases NQ.out.form with ⟨h1, _⟩ | ⟨g, cap, h1, _⟩;·exact ⟨none, 0, h1⟩
   ·exact ⟨some ⟨g, 0, none⟩, cap, by rw [h1, hq]; rfl⟩
  obtain ⟨R, hR⟩ : ∃ R, R = P := ⟨_, rfl⟩
  have HR := lh (show R = P ++ Q by rw [hR, hq, List.append_nil]);have NR := NP;rw [← hR] at NR;have BW := B3;obtain ⟨q, cq, rfl, hqe, hqm⟩ : ∃ p cp, v2 = .slice p R.length cp ∧ R.length ≤ cp ∧ cp ≤ maxLen := by
   rcases NR.out.form with ⟨h1, h2⟩ | ⟨g, cap, h1, h2, h3⟩;·exact ⟨none, 0, by rw [h1, h2]; rfl, by rw [h2]; exact Nat.le_refl _, by unfold maxLen; omega⟩
   ·exact ⟨_, _, h1, h2, h3⟩
  unfold maxLen at hqm;have HRK := lh (show ∀ x ∈ R, x ∈ a.kids from fun x hx => HPK.out x (by rw [← hR]; exact hx));have hml : R.length ≤ 100000 := by rw [hR]; exact HPL.out
  have NRO := NR.out;unfold Z0s at NRO;obtain ⟨m, hm⟩ : ∃ m, m = R.length := ⟨_, rfl⟩
  rw [← hm] at hqe hml NR NRO ⊢;have HM := lh hm;have NRO := lh NRO;clear hm hR hq NP hfar hpl hpl0 NQ;go_wp2_with (at_builtin; go_must (refine Z3a rfl (.tmp 12) (.tmp 14) 42 rfl w.heap.size 22 i0 1 Tryz.underlying42 hi (.slice q m cq) m (R.map ATree.ptr) rfl NRO.out p3 c3 rfl ?_))
  go_loopw [5, 17] (fun v i wr => ∃ (k : Nat) (v' : Value), v' = v ∧ k ≤ m ∧ i = .int .i64 k ∧ Hid (Zy wr w.heap.size v' (Z0d l0 (R.take k))) ∧ Hid (Z0s wr w.heap.size (.slice q m cq) R) ∧ Hid (Below w.heap.size w wr)) (fun _ i _ => m - (intOf i).toNat)
  case atStart => exact ⟨0, _, rfl, Nat.zero_le _, rfl, lh (by simpa [Z0d] using TX.out), NR, BW⟩
  case round =>
   obtain ⟨k, v, rfl, hk, rfl, TX2, NO, HB⟩ := hrel;clear TX NR BW;by_cases hkn : k < m
   ·obtain ⟨x, hx⟩ : ∃ x, R[k]? = some x := ⟨_, List.getElem?_eq_getElem (by rw [← HM.out]; exact hkn)⟩
    obtain ⟨g0, hp⟩ : ∃ g, q = some ⟨g, 0, none⟩ := by
     rcases NO.out.form with ⟨_, h2⟩ | ⟨g, cap, h1, _⟩;·rw [h2] at hx; simp at hx
     ·simp only [Value.slice.injEq] at h1; exact ⟨g, h1.1⟩
    subst hp;have cx := NO.out.cell rfl hx;have x1 := ((HT.out.bel HB.out).kid (HRK.out x (List.mem_of_getElem? hx))).c1;have HST := lh (Z30 (l := l0) hx);have hlm : (Z0d l0 (R.take k)).length ≤ 300000 := by
     have h1 := Z16 l0 (R.take k);have h2 : (R.take k).length ≤ R.length := by rw [List.length_take]; omega
     have h3 := HM.out;have h4 := HL0.out;omega
    obtain ⟨tx, htx⟩ : ∃ tx, tx = x.text := ⟨_, rfl⟩
    rw [← htx] at x1 HST;have HA := lh (Z3o _ w.heap.size v _ tx TX2.out HB.out.size (by omega));clear hx hlm htx;go_wp2_with fail
    refine HA.out.mono ?_;rintro e w4 ⟨v4, rfl, ht4, hb4⟩;have T4 := lh ht4;have M4 := lh (NO.out.bel hb4);have B4 := lh (HB.out.trans (hb4.mono HB.out.size));clear ht4 hb4 HA;go_wp2;go_roundw
    case rel => exact ⟨k + 1, _, rfl, by omega, by go_num, lh (by rw [HST.out]; exact T4.out), M4, B4⟩
    case measure => simp [intOf]; omega
   ·have hk2 : k = m := by omega
    subst hk2;go_wp2;go_ret;refine ⟨_, rfl, ?_, HB.out⟩;have := TX2.out;rw [List.take_of_length_le (by rw [← HM.out]; exact Nat.le_refl _), HR.out, Z74] at this;exact this
 ·rcases NQ.out.form with ⟨_, h2⟩ | ⟨g, cap3, rfl, hle3, hm3⟩;·exact absurd h2 hq
  have hpos : 0 < Q.length := List.length_pos_iff.2 hq;have NEWS := lh (show ∀ (j : Nat) (u : Value), (Q.map ATree.ptr)[j]? = some u → w3.cell? ((⟨g, 0, none⟩ : Addr).add j) = some u from fun j u hu => by
   have hadd : (⟨g, 0, none⟩ : Addr).add j = ⟨g, j, none⟩ := by unfold Addr.add; split <;> simp_all
   rw [hadd];exact Zo NQ.out (g := g) rfl hu)
  have hml : P.length + Q.length ≤ 100000 + 100000 := by have := HPL.out; have := HQL.out; omega
  have hbs := B3.out.size;obtain ⟨mq, hmq⟩ : ∃ mq, mq = Q.length := ⟨_, rfl⟩
  rw [← hmq] at hpos hml hle3 ⊢;have HMQ := lh hmq;clear hmq hq hfar hpl hpl0
  go_wp2_with (at_builtin; go_must (refine wpList_append_lies _ rfl (.tmp 12) (.tmp 14) 42 rfl w.heap.size 22 i0 _ 1 8 Tryz.underlying42 hi hz0 hz1 hz2 rfl (by decide) v2 P.length (P.map ATree.ptr) rfl NP.out ⟨g, 0, none⟩ mq cap3 (Q.map ATree.ptr) rfl (by simp [HMQ.out]) NEWS.out (fun u hu => by obtain ⟨z, _, rfl⟩ := List.mem_map.1 hu; rfl) (by omega) (by unfold maxLen; omega) (by omega) (by omega) w3.heap.size rfl ?_); intro gg cq w4 hown4 hgrow4 hat4 hgl4; have HG := lh hgrow4; have HW := lh hown4; have HGL := lh hgl4; clear hgrow4 hown4 hat4 hgl4)
  obtain ⟨R, hR⟩ : ∃ R, R = P ++ Q := ⟨_, rfl⟩
  have HR := lh hR;have hRl : R.length = P.length + mq := by rw [hR, List.length_append, HMQ.out]
  obtain ⟨m, hm⟩ : ∃ m, m = P.length + mq := ⟨_, rfl⟩
  have hml2 : m ≤ 200000 := by omega
  have HM := lh (show m = R.length by omega);have NR := lh (show Z0s w4 w.heap.size (.slice (some ⟨gg, 0, none⟩) m cq) R from by
   have h1 := HW.out;unfold Z0s;rw [hRl, hR, List.map_append, ← hm];rw [← hm] at h1;exact h1)
  have hqe : m ≤ cq ∧ cq ≤ maxLen := by
   rcases NR.out.form with ⟨h1, _⟩ | ⟨g, cap, h1, h2, h3⟩;·cases h1
   ·simp only [Value.slice.injEq] at h1;rw [h1.2.2, HM.out]; exact ⟨h2, h3⟩
  obtain ⟨hqe, hqm⟩ := hqe;unfold maxLen at hqm;have BW := lh (B3.out.grown HG.out B3.out.size fun k hk => (World.ownsRow.lt NP.out k hk).1);have TX := lh (show Zy w4 w.heap.size v0 l0 from Zl TX.out fun k hk => HG.out.block k (World.ownsRow.lt TX.out k hk).2 (fun e => HP0.out k hk e.symm));have HRK := lh (show ∀ x ∈ R, x ∈ a.kids from fun x hx => by
   rw [hR] at hx;rcases List.mem_append.1 hx with h | h;·exact HPK.out x h
   ·exact HQK.out x h)
  rw [← hm];have hmi : ((P.length : Int) + (mq : Int)) = (m : Int) := by omega
  rw [hmi];obtain ⟨q, hq⟩ : ∃ q : Option Addr, q = some ⟨gg, 0, none⟩ := ⟨_, rfl⟩
  rw [← hq] at NR ⊢;clear hm hR hRl NP NQ HW HG hq hml NEWS hmi;go_loopw [5, 17] (fun v i wr => ∃ (k : Nat) (v' : Value), v' = v ∧ k ≤ m ∧ i = .int .i64 k ∧ Hid (Zy wr w.heap.size v' (Z0d l0 (R.take k))) ∧ Hid (Z0s wr w.heap.size (.slice q m cq) R) ∧ Hid (Below w.heap.size w wr)) (fun _ i _ => m - (intOf i).toNat)
  case atStart => exact ⟨0, _, rfl, Nat.zero_le _, rfl, lh (by simpa [Z0d] using TX.out), NR, BW⟩
  case round =>
   obtain ⟨k, v, rfl, hk, rfl, TX2, NO, HB⟩ := hrel;clear TX NR BW;by_cases hkn : k < m
   ·obtain ⟨x, hx⟩ : ∃ x, R[k]? = some x := ⟨_, List.getElem?_eq_getElem (by rw [← HM.out]; exact hkn)⟩
    obtain ⟨g0, hp⟩ : ∃ g, q = some ⟨g, 0, none⟩ := by
     rcases NO.out.form with ⟨_, h2⟩ | ⟨g, cap, h1, _⟩;·rw [h2] at hx; simp at hx
     ·simp only [Value.slice.injEq] at h1; exact ⟨g, h1.1⟩
    subst hp;have cx := NO.out.cell rfl hx;have x1 := ((HT.out.bel HB.out).kid (HRK.out x (List.mem_of_getElem? hx))).c1;have HST := lh (Z30 (l := l0) hx);have hlm : (Z0d l0 (R.take k)).length ≤ 300000 := by
     have h1 := Z16 l0 (R.take k);have h2 : (R.take k).length ≤ R.length := by rw [List.length_take]; omega
     have h3 := HM.out;have h4 := HL0.out;omega
    obtain ⟨tx, htx⟩ : ∃ tx, tx = x.text := ⟨_, rfl⟩
    rw [← htx] at x1 HST;have HA := lh (Z3o _ w.heap.size v _ tx TX2.out HB.out.size (by omega));clear hx hlm htx;go_wp2_with fail
    refine HA.out.mono ?_;rintro e w4 ⟨v4, rfl, ht4, hb4⟩;have T4 := lh ht4;have M4 := lh (NO.out.bel hb4);have B4 := lh (HB.out.trans (hb4.mono HB.out.size));clear ht4 hb4 HA;go_wp2;go_roundw
    case rel => exact ⟨k + 1, _, rfl, by omega, by go_num, lh (by rw [HST.out]; exact T4.out), M4, B4⟩
    case measure => simp [intOf]; omega
   ·have hk2 : k = m := by omega
    subst hk2;go_wp2;go_ret;refine ⟨_, rfl, ?_, HB.out⟩;have := TX2.out;rw [List.take_of_length_le (by rw [← HM.out]; exact Nat.le_refl _), HR.out, Z74] at this;exact this
theorem Zb5 (w : World) (B0 : Nat) (a : ATree) (hT : TreeAt w B0 a) (hmx : a.many ≤ 100000) :
 Calls Tryz.prog 22 #[a.ptr, .bool false] w fun e w' => ∃ v, e = .returned v ∧ Zy w' w.heap.size v (Z2f false a) ∧ Below w.heap.size w w' := by
 obtain ⟨i0, hi, hz0, hz1, hz2⟩ := info_parts Tryz.infoPtr;have hkm := Z24 a;have HT := lh hT;have HF := lh (fun (w1 : World) (hb : Below w.heap.size w w1) => Z9q w1 B0 a (hT.bel hb) hmx);have HL := lh (fun (w1 : World) (hb : Below w.heap.size w w1) => Z90 w1 B0 a (hT.bel hb) hmx);have hfu : (a.kids.filter Z1o).length ≤ a.kids.length := List.length_filter_le _ _;have hle : (a.kids.filter Z26).length ≤ a.kids.length := List.length_filter_le _ _;have HPK := lh (show ∀ x, x ∈ a.kids.filter Z1o → x ∈ a.kids from fun x hx => (List.mem_filter.1 hx).1)
 have HQK := lh (show ∀ x, x ∈ a.kids.filter Z26 → x ∈ a.kids from fun x hx => (List.mem_filter.1 hx).1);unfold Z2f;obtain ⟨P, hP⟩ : ∃ P, P = a.kids.filter Z1o := ⟨_, rfl⟩
 obtain ⟨Q, hQ⟩ : ∃ Q, Q = a.kids.filter Z26 := ⟨_, rfl⟩
 rw [← hP] at hfu HPK HF ⊢;rw [← hQ] at hle HQK HL ⊢;have HPL := lh (show P.length ≤ 100000 by omega);have HQL := lh (show Q.length ≤ 100000 by omega);simp only [Bool.false_eq_true, if_false];obtain ⟨l0, hl0⟩ : ∃ l : List ByteArray, l = [] := ⟨_, rfl⟩
 rw [← hl0];have HL0 := lh (show l0.length ≤ 100000 by rw [hl0]; simp);obtain ⟨v0, hv0⟩ : ∃ v, v = Value.slice none 0 0 := ⟨_, rfl⟩
 obtain ⟨w1, hw1⟩ : ∃ w1, w1 = w := ⟨_, rfl⟩
 have TX1 := lh (show Zy w1 w.heap.size v0 l0 from by rw [hv0, hl0]; exact Zy.nil _ _);have TX1L := TX1;have B1 := lh (show Below w.heap.size w w1 from by rw [hw1]; exact Below.refl _ _);have HW1 := lh hw1;have HV0 := lh hv0;unfold ATree.ptr at HF HL ⊢;clear hkm hT hfu hle hP hQ hl0 hmx hw1 hv0;go_enter Tryz.func22, Tryz.ntmps22
 go_wp2_with fail
 have HFW := HF.out w1 B1.out;rw [HW1.out] at HFW;rw [← HV0.out];refine HFW.mono ?_;rintro e w2 ⟨v2, rfl, hn2, hb2⟩;rw [← HW1.out] at hn2 hb2;have N2 := lh hn2;have TX2 := lh (TX1.out.bel hb2);have B2 := lh (B1.out.trans (hb2.mono B1.out.size));clear hn2 hb2 HF TX1;go_wp2_with fail
 refine (HL.out w2 B2.out).mono ?_;rintro e w3 ⟨v3, rfl, hn3, hb3⟩;have NP := lh (show Z0s w3 w.heap.size v2 P from Z1w B1.out.size (N2.out.bel hb3));have NQ := lh (show Z0s w3 w.heap.size v3 Q from Z1w B2.out.size hn3);have hfar : ∀ g, v3.ownBlock = some g → w2.heap.size ≤ g := fun g h => (World.ownsRow.lt hn3 g h).1;have hpl : ∀ g, v2.ownBlock = some g → g < w2.heap.size := fun g h => (World.ownsRow.lt N2.out g h).2;have TX := lh (TX2.out.bel hb3);have B3 := lh (B2.out.trans (hb3.mono B2.out.size));have hpl0 : ∀ g, v0.ownBlock = some g → v2.ownBlock ≠ some g := fun g h e => by
  have h1 := (World.ownsRow.lt TX1L.out g h).2;have h2 := (World.ownsRow.lt N2.out g e).1;omega
 have HP0 := lh hpl0;clear hn3 hb3 HL N2 TX2 TX1L;by_cases hq : Q = []
 ·obtain ⟨p3, c3, rfl⟩ : ∃ p c, v3 = .slice p 0 c := by
   rcases NQ.out.form with ⟨h1, _⟩ | ⟨g, cap, h1, _⟩;·exact ⟨none, 0, h1⟩
   ·exact ⟨some ⟨g, 0, none⟩, cap, by rw [h1, hq]; rfl⟩
  obtain ⟨R, hR⟩ : ∃ R, R = P := ⟨_, rfl⟩
  have HR := lh (show R = P ++ Q by rw [hR, hq, List.append_nil]);have NR := NP;rw [← hR] at NR;have BW := B3;obtain ⟨q, cq, rfl, hqe, hqm⟩ : ∃ p cp, v2 = .slice p R.length cp ∧ R.length ≤ cp ∧ cp ≤ maxLen := by
   rcases NR.out.form with ⟨h1, h2⟩ | ⟨g, cap, h1, h2, h3⟩;·exact ⟨none, 0, by rw [h1, h2]; rfl, by rw [h2]; exact Nat.le_refl _, by unfold maxLen; omega⟩
   ·exact ⟨_, _, h1, h2, h3⟩
  unfold maxLen at hqm;have HRK := lh (show ∀ x ∈ R, x ∈ a.kids from fun x hx => HPK.out x (by rw [← hR]; exact hx));have hml : R.length ≤ 100000 := by rw [hR]; exact HPL.out
  have NRO := NR.out;unfold Z0s at NRO;obtain ⟨m, hm⟩ : ∃ m, m = R.length := ⟨_, rfl⟩
  rw [← hm] at hqe hml NR NRO ⊢;have HM := lh hm;have NRO := lh NRO;clear hm hR hq NP hfar hpl hpl0 NQ;go_wp2_with (at_builtin; go_must (refine Z3a rfl (.tmp 12) (.tmp 14) 42 rfl w.heap.size 22 i0 1 Tryz.underlying42 hi (.slice q m cq) m (R.map ATree.ptr) rfl NRO.out p3 c3 rfl ?_))
  go_loopw [5, 17] (fun v i wr => ∃ (k : Nat) (v' : Value), v' = v ∧ k ≤ m ∧ i = .int .i64 k ∧ Hid (Zy wr w.heap.size v' (Z0d l0 (R.take k))) ∧ Hid (Z0s wr w.heap.size (.slice q m cq) R) ∧ Hid (Below w.heap.size w wr)) (fun _ i _ => m - (intOf i).toNat)
  case atStart => exact ⟨0, _, rfl, Nat.zero_le _, rfl, lh (by simpa [Z0d] using TX.out), NR, BW⟩
  case round =>
   obtain ⟨k, v, rfl, hk, rfl, TX2, NO, HB⟩ := hrel;clear TX NR BW;by_cases hkn : k < m
   ·obtain ⟨x, hx⟩ : ∃ x, R[k]? = some x := ⟨_, List.getElem?_eq_getElem (by rw [← HM.out]; exact hkn)⟩
    obtain ⟨g0, hp⟩ : ∃ g, q = some ⟨g, 0, none⟩ := by
     rcases NO.out.form with ⟨_, h2⟩ | ⟨g, cap, h1, _⟩;·rw [h2] at hx; simp at hx
     ·simp only [Value.slice.injEq] at h1; exact ⟨g, h1.1⟩
    subst hp;have cx := NO.out.cell rfl hx;have x1 := ((HT.out.bel HB.out).kid (HRK.out x (List.mem_of_getElem? hx))).c1;have HST := lh (Z30 (l := l0) hx);have hlm : (Z0d l0 (R.take k)).length ≤ 300000 := by
     have h1 := Z16 l0 (R.take k);have h2 : (R.take k).length ≤ R.length := by rw [List.length_take]; omega
     have h3 := HM.out;have h4 := HL0.out;omega
    obtain ⟨tx, htx⟩ : ∃ tx, tx = x.text := ⟨_, rfl⟩
    rw [← htx] at x1 HST;have HA := lh (Z3o _ w.heap.size v _ tx TX2.out HB.out.size (by omega));clear hx hlm htx;go_wp2_with fail
    refine HA.out.mono ?_;rintro e w4 ⟨v4, rfl, ht4, hb4⟩;have T4 := lh ht4;have M4 := lh (NO.out.bel hb4);have B4 := lh (HB.out.trans (hb4.mono HB.out.size));clear ht4 hb4 HA;go_wp2;go_roundw
    case rel => exact ⟨k + 1, _, rfl, by omega, by go_num, lh (by rw [HST.out]; exact T4.out), M4, B4⟩
    case measure => simp [intOf]; omega
   ·have hk2 : k = m := by omega
    subst hk2;go_wp2;go_ret;refine ⟨_, rfl, ?_, HB.out⟩;have := TX2.out;rw [List.take_of_length_le (by rw [← HM.out]; exact Nat.le_refl _), HR.out, Z74] at this;exact this
 ·rcases NQ.out.form with ⟨_, h2⟩ | ⟨g, cap3, rfl, hle3, hm3⟩;·exact absurd h2 hq
  have hpos : 0 < Q.length := List.length_pos_iff.2 hq;have NEWS := lh (show ∀ (j : Nat) (u : Value), (Q.map ATree.ptr)[j]? = some u → w3.cell? ((⟨g, 0, none⟩ : Addr).add j) = some u from fun j u hu => by
   have hadd : (⟨g, 0, none⟩ : Addr).add j = ⟨g, j, none⟩ := by unfold Addr.add; split <;> simp_all
   rw [hadd];exact Zo NQ.out (g := g) rfl hu)
  have hml : P.length + Q.length ≤ 100000 + 100000 := by have := HPL.out; have := HQL.out; omega
  have hbs := B3.out.size;obtain ⟨mq, hmq⟩ : ∃ mq, mq = Q.length := ⟨_, rfl⟩
  rw [← hmq] at hpos hml hle3 ⊢;have HMQ := lh hmq;clear hmq hq hfar hpl hpl0
  go_wp2_with (at_builtin; go_must (refine wpList_append_lies _ rfl (.tmp 12) (.tmp 14) 42 rfl w.heap.size 22 i0 _ 1 8 Tryz.underlying42 hi hz0 hz1 hz2 rfl (by decide) v2 P.length (P.map ATree.ptr) rfl NP.out ⟨g, 0, none⟩ mq cap3 (Q.map ATree.ptr) rfl (by simp [HMQ.out]) NEWS.out (fun u hu => by obtain ⟨z, _, rfl⟩ := List.mem_map.1 hu; rfl) (by omega) (by unfold maxLen; omega) (by omega) (by omega) w3.heap.size rfl ?_); intro gg cq w4 hown4 hgrow4 hat4 hgl4; have HG := lh hgrow4; have HW := lh hown4; have HGL := lh hgl4; clear hgrow4 hown4 hat4 hgl4)
  obtain ⟨R, hR⟩ : ∃ R, R = P ++ Q := ⟨_, rfl⟩
  have HR := lh hR;have hRl : R.length = P.length + mq := by rw [hR, List.length_append, HMQ.out]
  obtain ⟨m, hm⟩ : ∃ m, m = P.length + mq := ⟨_, rfl⟩
  have hml2 : m ≤ 200000 := by omega
  have HM := lh (show m = R.length by omega);have NR := lh (show Z0s w4 w.heap.size (.slice (some ⟨gg, 0, none⟩) m cq) R from by
   have h1 := HW.out;unfold Z0s;rw [hRl, hR, List.map_append, ← hm];rw [← hm] at h1;exact h1)
  have hqe : m ≤ cq ∧ cq ≤ maxLen := by
   rcases NR.out.form with ⟨h1, _⟩ | ⟨g, cap, h1, h2, h3⟩;·cases h1
   ·simp only [Value.slice.injEq] at h1;rw [h1.2.2, HM.out]; exact ⟨h2, h3⟩
  obtain ⟨hqe, hqm⟩ := hqe;unfold maxLen at hqm;have BW := lh (B3.out.grown HG.out B3.out.size fun k hk => (World.ownsRow.lt NP.out k hk).1);have TX := lh (show Zy w4 w.heap.size v0 l0 from Zl TX.out fun k hk => HG.out.block k (World.ownsRow.lt TX.out k hk).2 (fun e => HP0.out k hk e.symm));have HRK := lh (show ∀ x ∈ R, x ∈ a.kids from fun x hx => by
   rw [hR] at hx;rcases List.mem_append.1 hx with h | h;·exact HPK.out x h
   ·exact HQK.out x h)
  rw [← hm];have hmi : ((P.length : Int) + (mq : Int)) = (m : Int) := by omega
  rw [hmi];obtain ⟨q, hq⟩ : ∃ q : Option Addr, q = some ⟨gg, 0, none⟩ := ⟨_, rfl⟩
  rw [← hq] at NR ⊢;clear hm hR hRl NP NQ HW HG hq hml NEWS hmi;go_loopw [5, 17] (fun v i wr => ∃ (k : Nat) (v' : Value), v' = v ∧ k ≤ m ∧ i = .int .i64 k ∧ Hid (Zy wr w.heap.size v' (Z0d l0 (R.take k))) ∧ Hid (Z0s wr w.heap.size (.slice q m cq) R) ∧ Hid (Below w.heap.size w wr)) (fun _ i _ => m - (intOf i).toNat)
  case atStart => exact ⟨0, _, rfl, Nat.zero_le _, rfl, lh (by simpa [Z0d] using TX.out), NR, BW⟩
  case round =>
   obtain ⟨k, v, rfl, hk, rfl, TX2, NO, HB⟩ := hrel;clear TX NR BW;by_cases hkn : k < m
   ·obtain ⟨x, hx⟩ : ∃ x, R[k]? = some x := ⟨_, List.getElem?_eq_getElem (by rw [← HM.out]; exact hkn)⟩
    obtain ⟨g0, hp⟩ : ∃ g, q = some ⟨g, 0, none⟩ := by
     rcases NO.out.form with ⟨_, h2⟩ | ⟨g, cap, h1, _⟩;·rw [h2] at hx; simp at hx
     ·simp only [Value.slice.injEq] at h1; exact ⟨g, h1.1⟩
    subst hp;have cx := NO.out.cell rfl hx;have x1 := ((HT.out.bel HB.out).kid (HRK.out x (List.mem_of_getElem? hx))).c1;have HST := lh (Z30 (l := l0) hx);have hlm : (Z0d l0 (R.take k)).length ≤ 300000 := by
     have h1 := Z16 l0 (R.take k);have h2 : (R.take k).length ≤ R.length := by rw [List.length_take]; omega
     have h3 := HM.out;have h4 := HL0.out;omega
    obtain ⟨tx, htx⟩ : ∃ tx, tx = x.text := ⟨_, rfl⟩
    rw [← htx] at x1 HST;have HA := lh (Z3o _ w.heap.size v _ tx TX2.out HB.out.size (by omega));clear hx hlm htx;go_wp2_with fail
    refine HA.out.mono ?_;rintro e w4 ⟨v4, rfl, ht4, hb4⟩;have T4 := lh ht4;have M4 := lh (NO.out.bel hb4);have B4 := lh (HB.out.trans (hb4.mono HB.out.size));clear ht4 hb4 HA;go_wp2;go_roundw
    case rel => exact ⟨k + 1, _, rfl, by omega, by go_num, lh (by rw [HST.out]; exact T4.out), M4, B4⟩
    case measure => simp [intOf]; omega
   ·have hk2 : k = m := by omega
    subst hk2;go_wp2;go_ret;refine ⟨_, rfl, ?_, HB.out⟩;have := TX2.out;rw [List.take_of_length_le (by rw [← HM.out]; exact Nat.le_refl _), HR.out, Z74] at this;exact this
end Go.Proofs.YtgmnfgljkocnpaaGreatDoor
