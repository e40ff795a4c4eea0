/- Package tree: primary. -/
import Derived.Test.YtgmnfgljkocnpaaGreatDoorJ01
import Derived.Test.YtgmnfgljkocnpaaGreatDoorJ28
namespace Go.Proofs.YtgmnfgljkocnpaaGreatDoor
open Go Go.RowKit Go.Maps
set_option maxRecDepth 100000
set_option maxHeartbeats 20000000
set_option linter.unusedVariables false
def Z2y : List (ByteArray × Int) := [(Z4e, 19), (Z38, 20), (Z5b, 21), (Z1c, 22)]
def Z53 : DataW Unit := litD Z2y
theorem Zes : Z53 = .map [(.string Z38.data.toList, .lit (.int .i64 20)), (.string Z5b.data.toList, .lit (.int .i64 21)), (.string Z4e.data.toList, .lit (.int .i64 19)), (.string Z1c.data.toList, .lit (.int .i64 22))] := by kernel_rfl
theorem Zao {kl : Lit} (h : Maps.has Z53 kl = true) : ∃ x ∈ Z2y, kl = .string x.1.data.toList := by
 rw [Zes] at h;obtain ⟨p, hp, hk⟩ := List.any_eq_true.1 h;have e := WideAt.sameKey_eq hk;simp only [List.mem_cons, List.not_mem_nil, or_false] at hp;rcases hp with rfl | rfl | rfl | rfl;·exact ⟨(Z38, 20), by simp [Z2y], e.symm⟩
 ·exact ⟨(Z5b, 21), by simp [Z2y], e.symm⟩
 ·exact ⟨(Z4e, 19), by simp [Z2y], e.symm⟩
 ·exact ⟨(Z1c, 22), by simp [Z2y], e.symm⟩
theorem Z60 {x : ByteArray × Int} (h : x ∈ Z2y) : Maps.has Z53 (.string x.1.data.toList) = true ∧ Z53.atKey (.string x.1.data.toList) (.lit (.int .i64 0)) = .lit (.int .i64 x.2) := by
 simp only [Z2y, List.mem_cons, List.not_mem_nil, or_false] at h;rcases h with rfl | rfl | rfl | rfl <;> exact ⟨by kernel_rfl, by kernel_rfl⟩
theorem Zf3 {s : ByteArray} {ts : List Tok} (h : isT s ts = true) : (hdT ts).text = s := by
 simp only [isT, Bool.and_eq_true, Z0o, decide_eq_true_eq] at h;exact h.2
theorem Z6k {s s' : ByteArray} {ts : List Tok} (h : isT s ts = true) (hn : s ≠ s') : isT s' ts = false := by
 have := Zf3 h;simp only [isT, this];have : Z0o s s' = false := by simp [Z0o, hn]
 simp [this]
theorem Zep {x : ByteArray × Int} {ts : List Tok} (h : x ∈ Z2y) (hx : isT x.1 ts = true) : Z3g ts = x.2 ∧ x.2 ≠ 0 := by
 simp only [Z2y, List.mem_cons, List.not_mem_nil, or_false] at h;rcases h with rfl | rfl | rfl | rfl;·exact ⟨by unfold Z3g; rw [if_pos hx], by decide⟩
 ·exact ⟨by unfold Z3g; rw [Z6k hx (s' := Z4e) (by decide)]; simp only at hx; simp [hx], by decide⟩
 ·exact ⟨by unfold Z3g; rw [Z6k hx (s' := Z4e) (by decide), Z6k hx (s' := Z38) (by decide)]; simp only at hx; simp [hx], by decide⟩
 ·exact ⟨by unfold Z3g; rw [Z6k hx (s' := Z4e) (by decide), Z6k hx (s' := Z38) (by decide), Z6k hx (s' := Z5b) (by decide)]; simp only at hx; simp [hx], by decide⟩
theorem Ze5 {ts : List Tok} (h : ∀ x ∈ Z2y, isT x.1 ts = false) : Z3g ts = 0 := by
 have h1 := h (Z4e, 19) (by simp [Z2y]); have h2 := h (Z38, 20) (by simp [Z2y]); have h3 := h (Z5b, 21) (by simp [Z2y]); have h4 := h (Z1c, 22) (by simp [Z2y]);simp only at h1 h2 h3 h4;simp [Z3g, h1, h2, h3, h4]
theorem keyOf_string_inv {P : Program} {k : TypeId} (hk : P.underlying k = some .string) {key : Value} {kl : Lit} (h : keyOf P k key = some kl) : ∃ x : ByteArray, key = .string x ∧ kl = .string x.data.toList := by
 unfold keyOf at h;rw [hk] at h;simp only at h;unfold mapKey at h;rw [hk] at h;cases key <;> simp at h
 obtain ⟨_, rfl⟩ := h;exact ⟨_, rfl, rfl⟩
theorem Zb2 (f : Nat) (hA : Says 90 rArg .around f)
 (hFn : ∀ s, Says 88 (fun rb => #[.pointer (some ⟨rb, 0, none⟩), .int .i64 37, .string s]) (.func 37 s) f)
 (hO : Says 129 rArg (.object []) f) : Says 123 rArg .primary (f + 1) := by
 intro w rb B d ts r hP hp;have HA := lh hA;have HFN := lh hFn;have HO := lh hO;have HP := lh hP;obtain ⟨tb, off, cap, h⟩ := hP.rd;have c0 := h.c0;have z0 := h.fz 0;have t0 := h.hd (j := 0) rfl;have t1 := h.hd (j := 1) rfl;have t2 := h.hd (j := 2) rfl;have t3 := h.hd (j := 3) rfl;have hps := h.pos;have hm := h.most;have hle := h.le;unfold maxLen at hm;have HH := lh h;obtain ⟨n, hn⟩ : ∃ n, n = ts.length := ⟨_, rfl⟩
 rw [← hn] at c0 hps hle;have HN := lh hn;have hlt0 := h.lt;have hrt := h.rlt;have hlt := hP.lt;simp only [Nat.add_zero] at t0;have HQ := lh hp;obtain ⟨kd, hkd⟩ : ∃ k, k = (hdT ts).kind := ⟨_, rfl⟩
 rw [← hkd] at t0;have HKD := lh hkd;obtain ⟨w1, hw1⟩ : ∃ w1, w1 = w.alloc (.cells #[.int .i64 kd, .string (hdT ts).text, .int .i64 (hdT ts).n, .int .i64 (hdT ts).at'] 93) := ⟨_, rfl⟩
 have hB1 : Below w.heap.size w w1 := by rw [hw1]; exact (Below.refl _ _).alloc (Nat.le_refl _) _
 have P1 := lh (hP.below hB1);have B1 := lh hB1;have F1 := lh (RFr.below (rb := rb) hB1);have HW1 := lh hw1;clear hP hp h hn hkd hA hFn hO hB1 hw1;unfold rArg;by_cases k1 : kd = 1
 ·subst k1;have hq := HQ.out;rw [Z4, if_pos HKD.out.symm] at hq;have hr := Option.some.inj hq;have HR := lh hr.symm;have HC := lh (Z3s w1 rb ts d P1.out.rd HKD.out.symm);clear hq hr;go_enter Tryz.func123, Tryz.ntmps123
  go_wp2_with fail
  rw [← HW1.out];refine HC.out.mono ?_;rintro e w2 ⟨rfl, hR2, hF2⟩;have F2 := lh (F1.out.trans hF2);have R2 := lh hR2;obtain ⟨s, hs⟩ : ∃ s, s = (hdT ts).text := ⟨_, rfl⟩
  rw [← hs];have HS := lh hs;have HN := lh (Z0g w2 rb 23 s none 0 0);have G3 := lh (Got.leaf (k := 23) (t := s) (n := 0) HP.out.le F2.out);clear hR2 hF2 HC hs;go_wp2_with fail
  refine HN.out.mono ?_;rintro e w3 ⟨rfl, hw3⟩;have hal : Below w2.heap.size w2 w3 := by rw [hw3]; exact (Below.refl _ _).alloc (Nat.le_refl _) _
  have AL := lh hal;have HW3 := lh hw3;clear hal hw3 HN;go_wp2;go_ret;rw [HR.out, ← HS.out];exact ⟨_, rfl, by rw [HW3.out]; exact G3.out, R2.out.below AL.out, F2.out.trans (RFr.below AL.out)⟩
 have n1 : (kd == 1) = false := by simpa using k1
 have K1 := lh k1;clear k1;by_cases k3 : kd = 3
 ·subst k3;have hq := HQ.out;rw [Z4, if_neg (by rw [← HKD.out]; exact K1.out), if_pos HKD.out.symm] at hq;have hr := Option.some.inj hq;have HR := lh hr.symm;have hd6 : (hdT ts).kind ≠ 6 := by rw [← HKD.out]; decide
  have h2 := HH.out.two hd6;rw [← HN.out] at h2;have HT := lh (HH.out.tail hd6);clear hq hr hd6;go_enter Tryz.func123, Tryz.ntmps123
  go_wp2_with fail
  refine (Z0g _ rb 17 ⟨#[]⟩ none 0 0).mono ?_;rintro e w3 ⟨rfl, rfl⟩;go_wp2;go_ret;have h4 := HT.out;rw [← HN.out] at h4;have hb : ∀ o, Below (w.setCell ⟨rb, 0, none⟩ (.slice (some ⟨tb, off + 4, none⟩) (n - 1) (cap - 1))).heap.size (w.setCell ⟨rb, 0, none⟩ (.slice (some ⟨tb, off + 4, none⟩) (n - 1) (cap - 1))) ((w.setCell ⟨rb, 0, none⟩ (.slice (some ⟨tb, off + 4, none⟩) (n - 1) (cap - 1))).alloc o) := fun o => (Below.refl _ _).alloc (Nat.le_refl _) o;have F2 := fun o => (((RFr.refl w rb).set 0 (.slice (some ⟨tb, off + 4, none⟩) (n - 1) (cap - 1))).trans (RFr.below (rb := rb) (hb o)))
  have hb2 : ∀ (W : World) o, Below W.heap.size W (W.alloc o) := fun W o => (Below.refl _ _).alloc (Nat.le_refl _) o;rw [HR.out];refine ⟨_, ?pt, Got.leaf (k := 17) (t := ⟨#[]⟩) (n := (hdT ts).n) HP.out.le (F2 _), ⟨tb, off + 4, cap - 1, (h4.below (hb _)).below (hb2 _ _)⟩, (F2 _).trans (RFr.below (hb2 _ _))⟩;case pt => simp [ATree.b]
 have n3 : (kd == 3) = false := by simpa using k3
 have K3 := lh k3;clear k3;by_cases k4 : kd = 4
 ·subst k4;have hq := HQ.out;rw [Z4, if_neg (by rw [← HKD.out]; exact K1.out), if_neg (by rw [← HKD.out]; exact K3.out), if_pos HKD.out.symm] at hq;have hr := Option.some.inj hq;have HR := lh hr.symm;have hd6 : (hdT ts).kind ≠ 6 := by rw [← HKD.out]; decide
  have h2 := HH.out.two hd6;rw [← HN.out] at h2;have HT := lh (HH.out.tail hd6);clear hq hr hd6;go_enter Tryz.func123, Tryz.ntmps123
  go_wp2_with fail
  refine (Z0g _ rb 18 (hdT ts).text none 0 0).mono ?_;rintro e w3 ⟨rfl, rfl⟩;go_wp2;go_ret;have h4 := HT.out;rw [← HN.out] at h4;have hb : ∀ o, Below (w.setCell ⟨rb, 0, none⟩ (.slice (some ⟨tb, off + 4, none⟩) (n - 1) (cap - 1))).heap.size (w.setCell ⟨rb, 0, none⟩ (.slice (some ⟨tb, off + 4, none⟩) (n - 1) (cap - 1))) ((w.setCell ⟨rb, 0, none⟩ (.slice (some ⟨tb, off + 4, none⟩) (n - 1) (cap - 1))).alloc o) := fun o => (Below.refl _ _).alloc (Nat.le_refl _) o;have F2 := fun o => (((RFr.refl w rb).set 0 (.slice (some ⟨tb, off + 4, none⟩) (n - 1) (cap - 1))).trans (RFr.below (rb := rb) (hb o)))
  have hb2 : ∀ (W : World) o, Below W.heap.size W (W.alloc o) := fun W o => (Below.refl _ _).alloc (Nat.le_refl _) o;rw [HR.out];refine ⟨_, ?pt, Got.leaf (k := 18) (t := (hdT ts).text) (n := 0) HP.out.le (F2 _), ⟨tb, off + 4, cap - 1, (h4.below (hb _)).below (hb2 _ _)⟩, (F2 _).trans (RFr.below (hb2 _ _))⟩;case pt => simp [ATree.b]
 have n4 : (kd == 4) = false := by simpa using k4
 have K4 := lh k4;clear k4;have hq0 := HQ.out;rw [Z4, if_neg (by rw [← HKD.out]; exact K1.out), if_neg (by rw [← HKD.out]; exact K3.out), if_neg (by rw [← HKD.out]; exact K4.out)] at hq0;have HQ0 := lh hq0;clear hq0;have hmm := @run_makeMap Tryz.prog;have h0 := World.ownsMap_made (H := Unit) w1 Tryz.prog 9 (plainElem Tryz.prog 3);have hB0 : Below w1.heap.size w1 (w1.alloc (.map #[] 0)) := (Below.refl _ _).alloc (Nat.le_refl _) _;have HB0 := lh hB0;rw [HW1.out, World.size_alloc] at h0;clear hB0;go_enter Tryz.func123, Tryz.ntmps123
 go_wp2_with (first | (refine Z3 _ rfl _ _ _ 88 rfl 9 3 Tryz.keyedS Tryz.underlying88 _ _ 0 _ rfl h0 (by unfold maxLen; omega) _ _ _ rfl rfl (WideMaps.keyOf_string_mk Tryz.underlying9 (by decide)) _ [] (plainElem_int Tryz.underlying3 (by decide)) ?_; intro v1 h1 g1) | (refine Z3 _ rfl _ _ _ 88 rfl 9 3 Tryz.keyedS Tryz.underlying88 _ _ 1 _ rfl h1 (by unfold maxLen; omega) _ _ _ rfl rfl (WideMaps.keyOf_string_mk Tryz.underlying9 (by decide)) _ [] (plainElem_int Tryz.underlying3 (by decide)) ?_; intro v2 h2 g2) | (refine Z3 _ rfl _ _ _ 88 rfl 9 3 Tryz.keyedS Tryz.underlying88 _ _ 2 _ rfl h2 (by unfold maxLen; omega) _ _ _ rfl rfl (WideMaps.keyOf_string_mk Tryz.underlying9 (by decide)) _ [] (plainElem_int Tryz.underlying3 (by decide)) ?_; intro v3 h3 g3) | (refine Z3 _ rfl _ _ _ 88 rfl 9 3 Tryz.keyedS Tryz.underlying88 _ _ 3 _ rfl h3 (by unfold maxLen; omega) _ _ _ rfl rfl (WideMaps.keyOf_string_mk Tryz.underlying9 (by decide)) _ [] (plainElem_int Tryz.underlying3 (by decide)) ?_; intro v4 h4 g4) | (at_range; refine wpList_range_own _ rfl _ 88 rfl 9 3 Tryz.keyedS Tryz.underlying88 _ _ _ _ rfl h4 ?_; intro v5 hrg0 hg5 hs5))
 obtain ⟨mb, hmb⟩ : ∃ b, b = w.heap.size + 1 := ⟨_, rfl⟩
 have hz1 : w1.heap.size = mb := by rw [HW1.out, hmb]; simp
 obtain ⟨it, hit⟩ : ∃ b, b = v4.heap.size := ⟨_, rfl⟩
 have B1' := Ze HB0.out (by rw [← HW1.out] at g1; exact g1) (by omega) HB0.out.size;have B2 := Ze B1' g2 (by omega) B1'.size;have B3 := Ze B2 g3 (by omega) B2.size;have B4 := Ze B3 g4 (by omega) B3.size;have B5 : Below w1.heap.size w1 v5 := B4.grown hg5 B4.size (fun j hj => by cases hj);have hitl : w1.heap.size ≤ it := by rw [hit]; exact B4.size
 have hrg : v5.ranges Tryz.prog 9 (plainElem Tryz.prog 3) mb it 4 Z53 (Maps.has Z53) (Maps.size Z53) := by rw [hmb, hit]; exact hrg0
 have HRG := lh hrg;have B5 := lh B5;rw [← hmb, ← hit];have HMB := lh hmb;have HIT := lh hit;have HZ1 := lh hz1;have HITL := lh hitl;clear hrg0 hg5 hs5 h0 h1 h2 h3 h4 g1 g2 g3 g4 B1' B2 B3 B4 hrg hmb hit hz1 hitl HB0 hmm
 go_loopw [] (fun wr => ∃ (left : Lit → Bool) (cnt : Nat), wr.ranges Tryz.prog 9 (plainElem Tryz.prog 3) mb it 4 Z53 left cnt ∧ Hid (∀ kl, left kl = true → Maps.has Z53 kl = true) ∧
  Hid (∀ s : ByteArray, Maps.has Z53 (.string s.data.toList) = true → left (.string s.data.toList) = false → isT s ts = false) ∧ Hid (Below w1.heap.size w1 wr)) (fun wr => wr.rangeLeft mb it)
 case atStart => exact ⟨_, _, HRG.out, lh (fun _ h => h), lh (fun s h1 h2 => by rw [h1] at h2; cases h2), B5⟩
 case round =>
  obtain ⟨left, cnt, hrg, HLE, HNO, BW⟩ := hrel;go_wp2_with (at_next; refine wpList_next_ranges _ rfl _ rfl 9 Tryz.keyedS _ (fun x : ByteArray => Value.string x) (fun c : Int => Value.int .i64 c) (fun key kl h => by obtain ⟨x, h, _⟩ := keyOf_string_inv Tryz.underlying9 h; exact ⟨x, h⟩) (fun v y h => by obtain ⟨c, h, _⟩ := plainElem_int_inv Tryz.underlying3 h; exact ⟨c, h⟩) mb it 4 _ left cnt rfl hrg ?_ ?_)
  ·intro _ hl0;have hnone : Z3g ts = 0 := Ze5 fun x hx => HNO.out x.1 (Z60 hx).1 (hl0 _);have hq := HQ0.out;rw [if_neg (fun h => h hnone)] at hq;have HQ1 := lh hq;have P5 := lh (P1.out.below BW.out);have F5 := lh (F1.out.trans (RFr.below (rb := rb) BW.out));clear hl0 hnone hq hrg;by_cases h1 : isT Z05 ts = true
   ·have hq := HQ1.out;rw [if_pos h1] at hq;have HB := Z40 wr rb ts d Z05 P5.out.rd;rw [h1] at HB;unfold Z05 at HB;have HB := lh HB;have HQ2 := lh hq;clear h1 hq;go_wp2_with fail
    refine HB.out.mono ?_;rintro e w2 ⟨rfl, hB2⟩;have HC := HA.out w2 rb B d ts r (P5.out.below hB2) HQ2.out;unfold rArg at HC;have HC := lh HC;have F2 := lh (F5.out.trans (RFr.below (rb := rb) hB2));clear hB2 HB;go_wp2_with fail
    refine HC.out.mono ?_;rcases r with ⟨c, p⟩ | ⟨t, ts'⟩
    ·rintro e w3 ⟨⟨b, rfl, h1, h2⟩, hF⟩;exact ⟨rfl, Z07.pre F2.out (r := .error (c, p)) ⟨⟨b, rfl, h1, h2⟩, hF⟩⟩
    ·rintro e w3 ⟨a, rfl, hG, hR, hF⟩;have HG := lh (hG.pre F2.out);have HR := lh hR;have HF := lh (F2.out.trans hF);clear hG hR hF HC;go_wp2;go_ret;exact ⟨a, rfl, HG.out, HR.out, HF.out⟩
   have h1' : isT Z05 ts = false := by simpa using h1
   have hq := HQ1.out;rw [if_neg h1] at hq;have HQ2 := lh hq;have HB := Z40 wr rb ts d Z05 P5.out.rd;rw [h1'] at HB;unfold Z05 at HB;have HB := lh HB;clear h1 h1' hq;go_wp2_with fail
   refine HB.out.mono ?_;rintro e w2 ⟨rfl, hB2⟩;have P2 := lh (P5.out.below hB2);have F2 := lh (F5.out.trans (RFr.below (rb := rb) hB2));clear hB2 HB;by_cases h2 : isT Z8 ts = true
   ·have hq := HQ2.out;rw [if_pos h2] at hq;have HT := Z0r w2 rb ts d Z8 P2.out.rd h2;unfold Z8 at HT;have HT := lh HT;have HQ3 := lh hq;clear h2 hq;go_wp2_with fail
    refine HT.out.mono ?_;rintro e w3 ⟨rfl, hR3, hF3⟩;have P3 := lh (P2.out.tail hR3 hF3);have F3 := lh (F2.out.trans hF3);obtain ⟨tb2, off2, cap2, hh⟩ := hR3;have q0 := hh.c0;have q1 := hh.hd (j := 0) (x := .int .i64 (hdT ts.tail).kind) rfl;rw [Nat.add_zero] at q1;have q2 := hh.pos;obtain ⟨n2, hn2⟩ : ∃ n, n = ts.tail.length := ⟨_, rfl⟩
    rw [← hn2] at q0 q2;clear hh hF3 HT hn2;by_cases hk : (hdT ts.tail).kind = 1
    ·have e1 : ((hdT ts.tail).kind == 1) = true := by simpa using hk
     have hq := HQ3.out;rw [if_pos hk] at hq;have HC := lh (Z3s w3 rb ts.tail d P3.out.rd hk);obtain ⟨s, hs⟩ : ∃ s, s = (hdT ts.tail).text := ⟨_, rfl⟩
     rw [← hs] at HC hq;have HQ4 := lh hq;clear hk hq hs;go_wp2_with fail
     refine HC.out.mono ?_;rintro e w4 ⟨rfl, hR4, hF4⟩;have HC2 := HFN.out s w4 rb B d _ r (P3.out.tail hR4 hF4) HQ4.out;simp only at HC2;have HC2 := lh HC2;have F4 := lh (F3.out.trans hF4);clear hR4 hF4 HC;go_wp2_with fail
     refine HC2.out.mono ?_;rcases r with ⟨c, p⟩ | ⟨t, ts'⟩
     ·rintro e w3 ⟨⟨b, rfl, h1, h2⟩, hF⟩;exact ⟨rfl, Z07.pre F4.out (r := .error (c, p)) ⟨⟨b, rfl, h1, h2⟩, hF⟩⟩
     ·rintro e w3 ⟨a, rfl, hG, hR, hF⟩;have HG := lh (hG.pre F4.out);have HR := lh hR;have HF := lh (F4.out.trans hF);clear hG hR hF HC2;go_wp2;go_ret;exact ⟨a, rfl, HG.out, HR.out, HF.out⟩
    ·have e1 : ((hdT ts.tail).kind == 1) = false := by simpa using hk
     have hq := HQ3.out;rw [if_neg hk] at hq;have HC2 := HFN.out ByteArray.empty w3 rb B d _ r P3.out hq;simp only at HC2;have HC2 : Calls Tryz.prog 88 #[.pointer (some ⟨rb, 0, none⟩), .int .i64 37, .string ⟨#[]⟩] w3 (Z07 w3 rb B d r) := HC2;have HC2 := lh HC2;clear hk hq;go_wp2_with fail
     refine HC2.out.mono ?_;rcases r with ⟨c, p⟩ | ⟨t, ts'⟩
     ·rintro e w4 ⟨⟨b, rfl, h1, h2⟩, hF⟩;exact ⟨rfl, Z07.pre F3.out (r := .error (c, p)) ⟨⟨b, rfl, h1, h2⟩, hF⟩⟩
     ·rintro e w4 ⟨a, rfl, hG, hR, hF⟩;have HG := lh (hG.pre F3.out);have HR := lh hR;have HF := lh (F3.out.trans hF);clear hG hR hF HC2;go_wp2;go_ret;exact ⟨a, rfl, HG.out, HR.out, HF.out⟩
   have h2' : isT Z8 ts = false := by simpa using h2
   have hq := HQ2.out;rw [if_neg h2] at hq;have HQ3 := lh hq;have HT := Z1m w2 rb ts d Z8 P2.out.rd h2';unfold Z8 at HT;have HT := lh HT;clear h2 h2' hq;go_wp2_with fail
   refine HT.out.mono ?_;rintro e w3 ⟨rfl, hB3⟩;have P3 := lh (P2.out.below hB3);have F3 := lh (F2.out.trans (RFr.below (rb := rb) hB3));clear hB3 HT;by_cases h3 : isT Zb ts = true
   ·have hq := HQ3.out;rw [if_pos h3] at hq;have HT := Z0r w3 rb ts d Zb P3.out.rd h3;unfold Zb at HT;have HT := lh HT;have HQ4 := lh hq;clear h3 hq;go_wp2_with fail
    refine HT.out.mono ?_;rintro e w4 ⟨rfl, hR4, hF4⟩;have HC := HO.out w4 rb B d _ r (P3.out.tail hR4 hF4) HQ4.out;unfold rArg at HC;have HC := lh HC;have F4 := lh (F3.out.trans hF4);clear hR4 hF4 HT;go_wp2_with fail
    refine HC.out.mono ?_;rcases r with ⟨c, p⟩ | ⟨t, ts'⟩
    ·rintro e w5 ⟨⟨b, rfl, h1, h2⟩, hF⟩;exact ⟨rfl, Z07.pre F4.out (r := .error (c, p)) ⟨⟨b, rfl, h1, h2⟩, hF⟩⟩
    ·rintro e w5 ⟨a, rfl, hG, hR, hF⟩;have HG := lh (hG.pre F4.out);have HR := lh hR;have HF := lh (F4.out.trans hF);clear hG hR hF HC;go_wp2;go_ret;exact ⟨a, rfl, HG.out, HR.out, HF.out⟩
   have h3' : isT Zb ts = false := by simpa using h3
   have hq := HQ3.out;rw [if_neg h3] at hq;obtain rfl := Option.some.inj hq;have HT := Z1m w3 rb ts d Zb P3.out.rd h3';unfold Zb at HT;have HT := lh HT;clear h3 h3' hq;go_wp2_with fail
   refine HT.out.mono ?_;rintro e w4 ⟨rfl, hB4⟩;have HF := lh (Z2o w4 rb ts d 3 (P3.out.rd.below hB4));have F4 := lh (F3.out.trans (RFr.below (rb := rb) hB4));clear hB4 HT;go_wp2_with fail
   refine HF.out.mono ?_;rintro e w5 ⟨⟨b, rfl, h1, h2⟩, hB⟩;exact ⟨rfl, Z07.err F4.out ⟨b, rfl, h1, h2⟩ hB⟩
  ·intro x c kl y ys w2 cnt2 hkx hlx hvx hat hrg2 hcnt hg2 hs2 hen;have hb2 : Below w1.heap.size w1 w2 := Ze BW.out hg2 HITL.out BW.out.size;have B2 := lh hb2;obtain ⟨x', e, rfl⟩ := keyOf_string_inv Tryz.underlying9 hkx;obtain rfl : x = x' := by cases e; rfl
   obtain ⟨z, hz, hzx⟩ := Zao (HLE.out _ hlx);have hxz : x = z.1 := by
    have : x.data.toList = z.1.data.toList := by simpa using hzx
    exact Z25 (by rw [Lib.toList_data, Lib.toList_data]; exact this)
   obtain ⟨c', e1, e2, _⟩ := plainElem_int_inv Tryz.underlying3 hvx;obtain rfl : c = c' := by cases e1; rfl
   have hcz : c = z.2 := by
    have h1 := hat (.lit (.int .i64 0));simp only [Prod.mk.injEq] at e2;rw [hxz, (Z60 hz).2, e2.1] at h1;simpa using h1.symm
   have HZ := lh hz;have HXZ := lh hxz;have HCZ := lh hcz;have HRG2 := lh hrg2;have HRG := lh hrg;have HLT := lh hcnt;have P2 := P1.out.below hb2;clear e hzx hxz e1 e2 hcz hz hb2 hrg2 hrg hlx hvx hat hkx hcnt hg2 hs2;by_cases hs : isT x ts = true
   ·have hh := Zep HZ.out (ts := ts) (by rw [← HXZ.out]; exact hs);have hq := HQ0.out;rw [if_pos (by rw [hh.1]; exact hh.2), hh.1] at hq;have hr := Option.some.inj hq;have HR := lh hr.symm;have HT := lh (Z0r w2 rb ts d x P2.rd hs);clear hs hh hq hr P2;go_wp2_with fail
    refine HT.out.mono ?_;rintro e w3 ⟨rfl, hR3, hF3⟩;have R3 := lh hR3;have F3 := lh ((F1.out.trans (RFr.below (rb := rb) B2.out)).trans hF3);have HN := lh (Z0g w3 rb c ⟨#[]⟩ none 0 0);have G3 := lh (Got.leaf (k := c) (t := ⟨#[]⟩) (n := 0) HP.out.le F3.out);clear hR3 hF3 HT;go_wp2_with fail
    refine HN.out.mono ?_;rintro e w4 ⟨rfl, hw4⟩;have hal : Below w3.heap.size w3 w4 := by rw [hw4]; exact (Below.refl _ _).alloc (Nat.le_refl _) _
    have AL := lh hal;have HW4 := lh hw4;clear hal hw4 HN;go_wp2;go_ret;rw [HR.out, ← HCZ.out];exact ⟨_, rfl, by rw [HW4.out]; exact G3.out, R3.out.below AL.out, F3.out.trans (RFr.below AL.out)⟩
   ·have hs' : isT x ts = false := by simpa using hs
    have HT := lh (Z1m w2 rb ts d x P2.rd hs');have HS := lh hs';clear hs hs' P2;go_wp2_with fail
    refine HT.out.mono ?_;rintro e w3 ⟨rfl, hB3⟩;have B3 := lh hB3;have hg3 : w2.grownBy w3 none := ⟨hB3.os, hB3.tape, hB3.output, hB3.size, fun i hi _ => hB3.block i hi⟩
    have HRG3 := lh (HRG2.out.kept hg3 (by simp) (by simp));clear hB3 hg3;go_wp2;go_roundw
    case rel =>
     refine ⟨_, cnt2, HRG3.out, lh (fun kl hkl => HLE.out kl (by simp only [Bool.and_eq_true] at hkl; exact hkl.1)), lh (fun s h1 h2 => ?_), lh (B2.out.trans (B3.out.mono B2.out.size))⟩;by_cases hl : left (.string s.data.toList) = true
     ·rw [hl] at h2;simp only [Bool.true_and, Bool.not_eq_false'] at h2;have e := WideAt.sameKey_eq h2;have : s = x := Z25 (by rw [Lib.toList_data, Lib.toList_data]; simpa using e);rw [this]; exact HS.out
     ·exact HNO.out s h1 (by simpa using hl)
    case measure => rw [HRG3.out.left_eq, HRG.out.left_eq]; exact HLT.out
end Go.Proofs.YtgmnfgljkocnpaaGreatDoor
