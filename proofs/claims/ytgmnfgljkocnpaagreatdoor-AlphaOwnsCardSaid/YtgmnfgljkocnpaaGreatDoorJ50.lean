/- What a node's scope owns: package alpha. Package alpha: a copy of a tree. -/
import Derived.Test.YtgmnfgljkocnpaaGreatDoorJ01
import Derived.Test.YtgmnfgljkocnpaaGreatDoorJ49
namespace Go.Proofs.YtgmnfgljkocnpaaGreatDoor
open Go Go.RowKit
set_option maxRecDepth 100000
set_option maxHeartbeats 20000000
set_option linter.unusedVariables false
theorem Zc6 {a : ATree} {n : Int} {x : ATree} (h : nodeAt a n = some x) : ∃ k : Nat, n = k ∧ a.subs[k]? = some x := by
 unfold nodeAt at h;by_cases hn : n < 0;·rw [if_pos hn] at h; cases h
 rw [if_neg hn] at h;exact ⟨n.toNat, by omega, h⟩
theorem Zgx {a : ATree} {n : Int} (h : nodeAt a n = none) : Z4i a n = ([], false) := by unfold Z4i; rw [h]
theorem Zgw (w : World) (B0 : Nat) (a : ATree) (n : Int) (hT : TreeAt w B0 a) (hd : (a.subs.map (·.b)).Nodup) (hmx : a.many ≤ 1500) (hWT : WT a.tree) :
 Calls Tryz.prog 5 #[a.ptr, .int .i64 n] w fun e w' => ∃ v, e = .returned (.tuple #[v, .bool (Z4i a n).2]) ∧ Zy w' w.heap.size v (Z4i a n).1 ∧ Below w.heap.size w w' := by
 obtain ⟨i0, hi, hz0, hz1, hz2⟩ := info_parts Tryz.infoStr;have HA := lh (Zf7 w B0 a hT hd n);obtain ⟨L, hL⟩ : ∃ L, L = (Z4i a n).1 := ⟨_, rfl⟩
 obtain ⟨R, hR⟩ : ∃ R, R = (Z4i a n).2 := ⟨_, rfl⟩
 rw [← hL, ← hR];have HLR := lh (show Z4i a n = (L, R) from Prod.ext hL.symm hR.symm);have HT := lh hT;have HD := lh hd;have HWT := lh hWT;have HMX := lh hmx;clear hT hd hWT hmx hL hR;unfold ATree.ptr at HA ⊢;cases hna : nodeAt a n with
 | none =>
   rw [hna] at HA;simp only [Option.map_none] at HA;have hq := HLR.out;rw [Zgx hna] at hq;simp only [Prod.mk.injEq] at hq;obtain ⟨rfl, rfl⟩ := hq;clear hna;go_enter Tryz.func5, Tryz.ntmps5
   go_wp2_with fail
   refine HA.out.mono ?_;rintro e w2 ⟨rfl, hb2⟩;have B2 := lh hb2;clear hb2 HA;go_wp2;go_ret2
   exact ⟨_, rfl, Zy.nil _ _, B2.out⟩
 | some x =>
   rw [hna] at HA;simp only [Option.map_some] at HA;obtain ⟨k, rfl, hx⟩ := Zc6 hna;have HX := lh hx;have HWX := lh (Zb4 a HWT.out x (List.mem_of_getElem? hx));have MX := lh (show x.many ≤ 1500 by have := Zcp a x (List.mem_of_getElem? hx); have := HMX.out; omega);have HTX := lh (Z57 HT.out (List.mem_of_getElem? hx));clear hna hx;go_enter Tryz.func5, Tryz.ntmps5
   go_wp2_with fail
   refine HA.out.mono ?_;rintro e w2 ⟨rfl, hb2⟩;have B2 := lh hb2;have TX := lh (HTX.out.bel hb2);have T2 := lh (HT.out.bel hb2);have x0 := TX.out.c0;obtain ⟨kd, hkd⟩ : ∃ kd, kd = x.kind := ⟨_, rfl⟩
   rw [← hkd] at x0;have HKD := lh hkd;clear hb2 HA hkd;by_cases k1 : kd = 1
   ·subst k1;have hq := HLR.out;rw [Z50 HX.out (by rw [← HKD.out]; omega)] at hq;have e1 : ownL x = Z0d [] (x.kids.filter Z26) := by unfold ownL; rw [if_pos HKD.out.symm]
    obtain ⟨Q, hQ⟩ : ∃ Q, Q = x.kids.filter Z26 := ⟨_, rfl⟩
    rw [e1, ← hQ] at hq;simp only [Prod.mk.injEq] at hq;obtain ⟨rfl, rfl⟩ := hq;have hkm := Z24 x;have HL := lh (Za4 w2 _ x TX.out (by have := MX.out; omega));have HQK := lh (show ∀ y ∈ Q, y ∈ x.kids from fun y hy => by rw [hQ] at hy; exact (List.mem_filter.1 hy).1);have hql : Q.length ≤ 1500 := by
     have h4 : (x.kids.filter Z26).length ≤ x.kids.length := List.length_filter_le _ _;have := MX.out;rw [hQ]; omega
    rw [← hQ] at HL;have HQL := lh hql;unfold ATree.ptr at HL;clear hQ e1 hql hkm;go_wp2_with fail
    refine HL.out.mono ?_;rintro e w3 ⟨v3, rfl, hn3, hb3⟩;obtain ⟨q, cq, rfl, hqe, hqm⟩ := hn3.parts;have B3 := lh (B2.out.trans (hb3.mono B2.out.size));have N3 := lh hn3;obtain ⟨z, hz⟩ : ∃ z, z = Q.length := ⟨_, rfl⟩
    rw [← hz] at hqe N3 ⊢;have HZ := lh hz;clear hn3 hb3 hz HL x0;go_wp2_with fail
    go_loopw [7, 28] (fun v i wr => ∃ (j : Nat) (v' : Value), v' = v ∧ j ≤ z ∧ i = .int .i64 j ∧ Hid (Zy wr w.heap.size v' (Z0d [] (Q.take j))) ∧ Hid (Z0s wr w2.heap.size (.slice q z cq) Q) ∧ Hid (Below w.heap.size w wr)) (fun _ i _ => z - (intOf i).toNat)
    case atStart => exact ⟨0, _, rfl, Nat.zero_le _, rfl, lh (Zy.nil _ _), N3, B3⟩
    case round =>
     obtain ⟨j, v, rfl, hj, rfl, TT, NO, HB⟩ := hrel;clear N3;by_cases hjz : j < z
     ·obtain ⟨y, hy⟩ : ∃ y, Q[j]? = some y := ⟨_, List.getElem?_eq_getElem (by rw [← HZ.out]; exact hjz)⟩
      obtain ⟨g1, hp⟩ : ∃ g, q = some ⟨g, 0, none⟩ := by
       rcases NO.out.form with ⟨_, h2⟩ | ⟨g, cap, h1, _⟩;·rw [h2] at hy; simp at hy
       ·simp only [Value.slice.injEq] at h1; exact ⟨g, h1.1⟩
      subst hp;have cy := NO.out.cell rfl hy;have y1 := ((HTX.out.bel HB.out).kid (HQK.out y (List.mem_of_getElem? hy))).c1;have HNX := lh (Z30 (l := []) hy);have hll : (Z0d [] (Q.take j)).length ≤ 1500 := by
       have h1 := Z16 [] (Q.take j);have h2 : (Q.take j).length ≤ Q.length := by rw [List.length_take]; omega
       have h3 := HQL.out;simp only [List.length_nil] at h1;omega
      obtain ⟨l, hl⟩ : ∃ l, l = Z0d [] (Q.take j) := ⟨_, rfl⟩
      rw [← hl] at TT HNX hll;clear hy hl;have HC := lh (Z3p TT.out y.text);obtain ⟨c, hc⟩ : ∃ c, c = Lib.containsS l y.text := ⟨_, rfl⟩
      rw [← hc] at HC;cases c with
      | true =>
        have HNX2 := lh (show addL l y.text = l from by unfold addL; rw [← hc]; rfl);clear hc hll;go_wp2_with fail
        refine HC.out.mono ?_;rintro e wc ⟨rfl, hwc⟩;have hwd := hwc.symm;subst hwd;clear hwc HC;go_wp2;go_roundw
        case rel => exact ⟨j + 1, _, rfl, by omega, by go_num, lh (by rw [HNX.out, HNX2.out]; exact TT.out), NO, HB⟩
        case measure => simp [intOf]; omega
      | false =>
        have HNX2 := lh (show addL l y.text = l ++ [y.text] from by unfold addL; rw [← hc]; rfl);obtain ⟨T, hT⟩ : ∃ T, T = y.text := ⟨_, rfl⟩
        rw [← hT] at HNX HNX2 HC y1;have hbs := HB.out.size;have hro := TT.out;unfold Zy at hro;have HRO := lh hro;clear hc hT hro;go_wp2_with fail
        refine HC.out.mono ?_;rintro e wc ⟨rfl, hwc⟩;have hwd := hwc.symm;subst hwd;clear hwc HC
        go_wp2_with (at_builtin; go_must (refine wpList_append_lies _ rfl (.tmp 39) (.tmp 44) 25 rfl w.heap.size 9 i0 (.string ByteArray.empty) 1 16 Tryz.underlying25 hi hz0 hz1 hz2 rfl (by decide) v l.length (l.map Value.string) rfl (HRO.out.alloc _) ⟨_, 0, none⟩ 1 1 [.string T] rfl rfl (World.news_of_block (cs := #[.string T]) (t := 9) (fr := (0, 0)) (heap_alloc_new _ _)) (by intro u hu; simp at hu; subst hu; rfl) (by omega) (by unfold maxLen; omega) (by omega) (by simp; omega) _ rfl ?_); intro gg cap w6 hown6 hgrow6 hat6 hgl6; have HG := lh hgrow6; have HW := lh hown6; have HA6 := lh hat6; clear hgrow6 hown6 hat6 hgl6)
        go_roundw
        case rel =>
         have hfr : ∀ k, k < wr.heap.size → v.ownBlock ≠ some k → w6.heap[k]? = wr.heap[k]? := fun k hk hv => (HG.out.block k (by simp; omega) (fun e => hv e.symm)).trans (Below.heap_alloc _ _ _ hk);refine ⟨j + 1, _, rfl, by omega, by go_num, lh ?_, lh (NO.out.far TT.out hfr), lh ((HB.out.alloc HB.out.size _).grown HG.out (by simp; omega) fun i hi2 => (World.ownsRow.lt HRO.out i hi2).1)⟩;rw [HNX.out, HNX2.out];unfold Zy;rw [List.length_append, List.map_append];exact HW.out
        case measure => simp [intOf]; omega
     ·have hk2 : j = z := by omega
      subst hk2;have hend := TT.out;rw [List.take_of_length_le (by rw [← HZ.out]; exact Nat.le_refl _)] at hend;obtain ⟨pv, cv, rfl, hve, hvm⟩ := hend.parts;have TE := lh hend;obtain ⟨u, hu⟩ : ∃ u, u = (Z0d [] Q).length := ⟨_, rfl⟩
      rw [← hu] at hve TE ⊢;have HU := lh hu;clear hend TT hu;go_wp2;go_ret2
      refine ⟨_, ?_, TE.out, HB.out⟩;rw [← HU.out];rfl
   have n1 : (kd == 1) = false := by simpa using k1
   by_cases kf : kd = 5 ∨ kd = 37
   ·obtain ⟨p1, q1, hk⟩ := HWX.out.two (by rw [← HKD.out]; exact kf);have hq := HLR.out;rw [Z50 HX.out (by rw [← HKD.out]; omega)] at hq;have e1 : ownL x = Z1b (Z0d [] p1.kids) (Z2f true q1) := by unfold ownL; rw [← HKD.out, if_neg k1, if_pos kf, hk]
    have hlp : p1.kids.length ≤ 1500 := by
     have h2 := Z24 p1;have h3 := Z5f hk;have := MX.out;omega
    obtain ⟨M, hM⟩ : ∃ M, M = Z2f true q1 := ⟨_, rfl⟩
    have hlm : M.length ≤ 4500 := by
     have h1 := Z9g q1 true;have h3 := Z5f hk;have := MX.out;rw [hM]; omega
    obtain ⟨Q, hQ⟩ : ∃ Q, Q = p1.kids := ⟨_, rfl⟩
    rw [e1, ← hM, ← hQ] at hq;simp only [Prod.mk.injEq] at hq;obtain ⟨rfl, rfl⟩ := hq;obtain ⟨gk, ck, r3, r4, r5, hck, hP, _⟩ := TX.out.two hk;obtain ⟨_, _, _, _, _, _, hP0, _⟩ := HTX.out.two hk;have p3 := hP.c3;have hR : Z0s w B0 p1.v p1.kids := hP0.rowOf;obtain ⟨q, cq, hv, hqe, hqm⟩ := hP.vOf;rw [hv] at p3 hR;rw [← hQ] at p3 hR hqe hlp;have HP0 := lh (show ∀ y ∈ Q, TreeAt w B0 y from fun y hy => hP0.kid (by rw [← hQ]; exact hy));have HK2 := lh hk;have HM2 := lh hM;have HML := lh hlm;have HQL := lh hlp;have MQ := lh (show q1.many < 274877906944 by have h3 := Z5f hk; have := MX.out; omega)
    obtain ⟨z, hz⟩ : ∃ z, z = Q.length := ⟨_, rfl⟩
    rw [← hz] at p3 hR hqe;have HZ := lh hz;have HR := lh hR;unfold maxLen at hqm;clear hQ e1 hlp hlm hM hk hP hP0 hv hz hR r5;have B3 := B2;rcases kf with rfl | rfl
    all_goals
     go_wp2_with fail
     go_loopw [7, 60] (fun v i wr => ∃ (j : Nat) (v' : Value), v' = v ∧ j ≤ z ∧ i = .int .i64 j ∧ Hid (Zy wr w.heap.size v' (Z0d [] (Q.take j))) ∧ Hid (Below w.heap.size w wr)) (fun _ i _ => z - (intOf i).toNat)
     case atStart => exact ⟨0, _, rfl, Nat.zero_le _, rfl, lh (Zy.nil _ _), B3⟩
     case round =>
      obtain ⟨j, v, rfl, hj, rfl, TT, HB⟩ := hrel;clear r3 r4 p3 x0;by_cases hjz : j < z
      ·obtain ⟨y, hy⟩ : ∃ y, Q[j]? = some y := ⟨_, List.getElem?_eq_getElem (by rw [← HZ.out]; exact hjz)⟩
       have NO := lh (HR.out.bel HB.out);obtain ⟨g1, hp⟩ : ∃ g, q = some ⟨g, 0, none⟩ := by
        rcases NO.out.form with ⟨_, h2⟩ | ⟨g, cap, h1, _⟩;·rw [h2] at hy; simp at hy
        ·simp only [Value.slice.injEq] at h1; exact ⟨g, h1.1⟩
       subst hp;have cy := NO.out.cell rfl hy;have y1 := ((HP0.out y (List.mem_of_getElem? hy)).bel HB.out).c1;have HNX := lh (Z30 (l := []) hy);have hll : (Z0d [] (Q.take j)).length ≤ 1500 := by
        have h1 := Z16 [] (Q.take j);have h2 : (Q.take j).length ≤ Q.length := by rw [List.length_take]; omega
        have h3 := HQL.out;simp only [List.length_nil] at h1;omega
       obtain ⟨l, hl⟩ : ∃ l, l = Z0d [] (Q.take j) := ⟨_, rfl⟩
       rw [← hl] at TT HNX hll;clear hy hl;have HC := lh (Z3p TT.out y.text);obtain ⟨c, hc⟩ : ∃ c, c = Lib.containsS l y.text := ⟨_, rfl⟩
       rw [← hc] at HC;cases c with
       | true =>
         have HNX2 := lh (show addL l y.text = l from by unfold addL; rw [← hc]; rfl);clear hc hll;go_wp2_with fail
         refine HC.out.mono ?_;rintro e wc ⟨rfl, hwc⟩;have hwd := hwc.symm;subst hwd;clear hwc HC;go_wp2;go_roundw
         case rel => exact ⟨j + 1, _, rfl, by omega, by go_num, lh (by rw [HNX.out, HNX2.out]; exact TT.out), HB⟩
         case measure => simp [intOf]; omega
       | false =>
         have HNX2 := lh (show addL l y.text = l ++ [y.text] from by unfold addL; rw [← hc]; rfl);obtain ⟨T, hT⟩ : ∃ T, T = y.text := ⟨_, rfl⟩
         rw [← hT] at HNX HNX2 HC y1;have hbs := HB.out.size;have hro := TT.out;unfold Zy at hro;have HRO := lh hro;clear hc hT hro;go_wp2_with fail
         refine HC.out.mono ?_;rintro e wc ⟨rfl, hwc⟩;have hwd := hwc.symm;subst hwd;clear hwc HC
         go_wp2_with (at_builtin; go_must (refine wpList_append_lies _ rfl (.tmp 71) (.tmp 76) 25 rfl w.heap.size 9 i0 (.string ByteArray.empty) 1 16 Tryz.underlying25 hi hz0 hz1 hz2 rfl (by decide) v l.length (l.map Value.string) rfl (HRO.out.alloc _) ⟨_, 0, none⟩ 1 1 [.string T] rfl rfl (World.news_of_block (cs := #[.string T]) (t := 9) (fr := (0, 0)) (heap_alloc_new _ _)) (by intro u hu; simp at hu; subst hu; rfl) (by omega) (by unfold maxLen; omega) (by omega) (by simp; omega) _ rfl ?_); intro gg cap w6 hown6 hgrow6 hat6 hgl6; have HG := lh hgrow6; have HW := lh hown6; have HA6 := lh hat6; clear hgrow6 hown6 hat6 hgl6)
         go_roundw
         case rel =>
          have hfr : ∀ k, k < wr.heap.size → v.ownBlock ≠ some k → w6.heap[k]? = wr.heap[k]? := fun k hk hv => (HG.out.block k (by simp; omega) (fun e => hv e.symm)).trans (Below.heap_alloc _ _ _ hk);refine ⟨j + 1, _, rfl, by omega, by go_num, lh ?_, lh ((HB.out.alloc HB.out.size _).grown HG.out (by simp; omega) fun i hi2 => (World.ownsRow.lt HRO.out i hi2).1)⟩;rw [HNX.out, HNX2.out];unfold Zy;rw [List.length_append, List.map_append];exact HW.out
         case measure => simp [intOf]; omega
      ·have hk2 : j = z := by omega
       subst hk2;have hend := TT.out;rw [List.take_of_length_le (by rw [← HZ.out]; exact Nat.le_refl _)] at hend;obtain ⟨l0, hl0⟩ : ∃ l, l = Z0d [] Q := ⟨_, rfl⟩
       have HL0 := lh (show l0.length ≤ 1500 by have h1 := Z16 [] Q; have h3 := HQL.out; simp only [List.length_nil] at h1; rw [hl0]; omega);have HLQ := lh hl0;rw [← hl0] at hend;have TE := lh hend;obtain ⟨gk2, ck2, s3, s4, s5, hck2, _, hTq⟩ := (HTX.out.bel HB.out).two HK2.out;have HN := lh (Zar true wr B0 q1 hTq MQ.out);rw [← HM2.out] at HN;unfold ATree.ptr at HN;clear hend TT hl0 hTq s4;go_wp2_with fail
       refine HN.out.mono ?_;rintro e w4 ⟨v4, rfl, ht4, hb4⟩;obtain ⟨q2, cq2, rfl, hqe2, hqm2⟩ := ht4.parts;have HNE := lh (show ∀ g, v.ownBlock = some g → q2 ≠ some ⟨g, 0, none⟩ from fun g hg e2 => by
        have h5 := (World.ownsRow.lt TE.out g hg).2;have h6 := (World.ownsRow.lt ht4 g (by rw [e2]; rfl)).1;omega)
       have TT := lh (TE.out.bel hb4);have HB4 := lh (HB.out.trans (hb4.mono HB.out.size));obtain ⟨bb, hbb⟩ : ∃ b, b = wr.heap.size := ⟨_, rfl⟩
       rw [← hbb] at ht4;have NR := lh ht4;obtain ⟨z2, hz2⟩ : ∃ z, z = M.length := ⟨_, rfl⟩
       rw [← hz2] at hqe2 NR ⊢;have HZ2 := lh hz2;clear ht4 hb4 hbb hz2 HN TE HB s3 s5;go_wp2_with fail
       go_loopw [7, 87] (fun v i wr => ∃ (j : Nat) (v' : Value), v' = v ∧ j ≤ z2 ∧ i = .int .i64 j ∧ Hid (Zy wr w.heap.size v' (Z1b l0 (M.take j))) ∧ Hid (Zy wr bb (.slice q2 z2 cq2) M) ∧ Hid (∀ g, v'.ownBlock = some g → q2 ≠ some ⟨g, 0, none⟩) ∧ Hid (Below w.heap.size w wr)) (fun _ i _ => z2 - (intOf i).toNat)
       case atStart => exact ⟨0, _, rfl, Nat.zero_le _, rfl, TT, NR, HNE, HB4⟩
       case round =>
        clear TT NR HNE HB4;obtain ⟨j, v, rfl, hj, rfl, TT, NR, HNE, HB⟩ := hrel;by_cases hjz : j < z2
        ·obtain ⟨y, hy⟩ : ∃ y, M[j]? = some y := ⟨_, List.getElem?_eq_getElem (by rw [← HZ2.out]; exact hjz)⟩
         obtain ⟨g2, hp⟩ : ∃ g, q2 = some ⟨g, 0, none⟩ := by
          rcases NR.out.form with ⟨_, h2⟩ | ⟨g, cap, h1, _⟩;·rw [h2] at hy; simp at hy
          ·simp only [Value.slice.injEq] at h1; exact ⟨g, h1.1⟩
         subst hp;have cy := NR.out.cells rfl hy;have HNX := lh (Z5h (l := l0) hy);have hll : (Z1b l0 (M.take j)).length ≤ 6000 := by
          have h1 := Z62 l0 (M.take j);have h2 : (M.take j).length ≤ M.length := by rw [List.length_take]; omega
          have h3 := HML.out;have h4 := HL0.out;omega
         obtain ⟨l, hl⟩ : ∃ l, l = Z1b l0 (M.take j) := ⟨_, rfl⟩
         rw [← hl] at TT HNX hll;clear hy hl;have HC := lh (Z3p TT.out y);obtain ⟨c, hc⟩ : ∃ c, c = Lib.containsS l y := ⟨_, rfl⟩
         rw [← hc] at HC;cases c with
         | true =>
           have HNX2 := lh (show addL l y = l from by unfold addL; rw [← hc]; rfl);clear hc hll;go_wp2_with fail
           refine HC.out.mono ?_;rintro e wc ⟨rfl, hwc⟩;have hwd := hwc.symm;subst hwd;clear hwc HC;go_wp2;go_roundw
           case rel => exact ⟨j + 1, _, rfl, by omega, by go_num, lh (by rw [HNX.out, HNX2.out]; exact TT.out), NR, HNE, HB⟩
           case measure => simp [intOf]; omega
         | false =>
           have HNX2 := lh (show addL l y = l ++ [y] from by unfold addL; rw [← hc]; rfl);obtain ⟨T, hT⟩ : ∃ T, T = y := ⟨_, rfl⟩
           rw [← hT] at HNX HNX2 HC cy;have hbs := HB.out.size;have hro := TT.out;unfold Zy at hro;have HRO := lh hro;clear hc hT hro;go_wp2_with fail
           refine HC.out.mono ?_;rintro e wc ⟨rfl, hwc⟩;have hwd := hwc.symm;subst hwd;clear hwc HC
           go_wp2_with (at_builtin; go_must (refine wpList_append_lies _ rfl (.tmp 95) (.tmp 97) 25 rfl w.heap.size 9 i0 (.string ByteArray.empty) 1 16 Tryz.underlying25 hi hz0 hz1 hz2 rfl (by decide) v l.length (l.map Value.string) rfl (HRO.out.alloc _) ⟨_, 0, none⟩ 1 1 [.string T] rfl rfl (World.news_of_block (cs := #[.string T]) (t := 9) (fr := (0, 0)) (heap_alloc_new _ _)) (by intro u hu; simp at hu; subst hu; rfl) (by omega) (by unfold maxLen; omega) (by omega) (by simp; omega) _ rfl ?_); intro gg cap w6 hown6 hgrow6 hat6 hgl6; have HG := lh hgrow6; have HW := lh hown6; have HA6 := lh hat6; clear hgrow6 hown6 hat6 hgl6)
           go_roundw
           case rel =>
            have hfr : ∀ k, k < wr.heap.size → v.ownBlock ≠ some k → w6.heap[k]? = wr.heap[k]? := fun k hk hv => (HG.out.block k (by simp; omega) (fun e => hv e.symm)).trans (Below.heap_alloc _ _ _ hk);refine ⟨j + 1, _, rfl, by omega, by go_num, lh ?_, lh (Zl NR.out fun k hk => hfr k (World.ownsRow.lt NR.out k hk).2 fun e => HNE.out k e (by have e3 := Option.some.inj hk; rw [← e3])), lh (fun g hg e2 => by
             have e3 : gg = g := Option.some.inj hg;have e4 : g2 = g := by simpa using e2
             have h7 := (World.ownsRow.lt NR.out g2 rfl).2;rcases HA6.out with h8 | h8;·exact HNE.out gg h8 (by rw [e3, ← e4])
             ·simp at h8; omega), lh ((HB.out.alloc HB.out.size _).grown HG.out (by simp; omega) fun i hi2 => (World.ownsRow.lt HRO.out i hi2).1)⟩
            rw [HNX.out, HNX2.out];unfold Zy;rw [List.length_append, List.map_append];exact HW.out
           case measure => simp [intOf]; omega
        ·have hk2 : j = z2 := by omega
         subst hk2;have hend := TT.out;rw [List.take_of_length_le (by rw [← HZ2.out]; exact Nat.le_refl _)] at hend;obtain ⟨pv, cv, rfl, hve, hvm⟩ := hend.parts;have TE := lh hend;obtain ⟨u, hu⟩ : ∃ u, u = (Z1b l0 M).length := ⟨_, rfl⟩
         rw [← hu] at hve TE ⊢;have HU := lh hu;clear hend TT hu;go_wp2;go_ret2
         refine ⟨_, ?_, (by rw [← HLQ.out]; exact TE.out), HB.out⟩;rw [← HLQ.out, ← HU.out];rfl
   have n5 : (kd == 5) = false := by simp; omega
   have n37 : (kd == 37) = false := by simp; omega
   by_cases k6 : kd = 6
   ·subst k6;have HIB := lh (Zec w2 B0 a x T2.out HWT.out TX.out);have HNN := lh (fun (W : World) (h : Below w2.heap.size w2 W) => Zar false W B0 x (TX.out.bel h) (by have := MX.out; omega));have e1 : ownL x = Z2f false x := by unfold ownL; rw [← HKD.out]; rfl
    unfold ATree.ptr at HIB HNN;cases hib : a.subs.any (hitB x.b) with
    | true =>
      rw [hib] at HIB;have hq := HLR.out;rw [Zb7 HX.out ⟨HKD.out.symm, (Zd5 HD.out HX.out).1 hib⟩] at hq;simp only [Prod.mk.injEq] at hq;obtain ⟨rfl, rfl⟩ := hq;clear hib e1;go_wp2_with fail
      refine HIB.out.mono ?_;rintro e w3 ⟨rfl, hb3⟩;have B3 := lh (B2.out.trans (hb3.mono B2.out.size));clear hb3 HIB;go_wp2;go_ret2
      exact ⟨_, rfl, Zy.nil _ _, B3.out⟩
    | false =>
      rw [hib] at HIB;have hq := HLR.out;rw [Z50 HX.out (fun h => by have h2 := (Zd5 HD.out HX.out).2 h.2; rw [hib] at h2; cases h2), e1] at hq;obtain ⟨M, hM⟩ : ∃ M, M = Z2f false x := ⟨_, rfl⟩
      rw [← hM] at hq HNN;simp only [Prod.mk.injEq] at hq;obtain ⟨rfl, rfl⟩ := hq;clear hib e1 hM;go_wp2_with fail
      refine HIB.out.mono ?_;rintro e w3 ⟨rfl, hb3⟩;have B3 := lh (B2.out.trans (hb3.mono B2.out.size));have HN3 := lh (HNN.out w3 hb3);clear hb3 HIB HNN;go_wp2_with fail
      refine HN3.out.mono ?_;rintro e w4 ⟨v4, rfl, ht4, hb4⟩;obtain ⟨pv, cv, rfl, hve, hvm⟩ := ht4.parts;have TE := lh (ht4.base B3.out.size);have B4 := lh (B3.out.trans (hb4.mono B3.out.size));obtain ⟨u, hu⟩ : ∃ u, u = M.length := ⟨_, rfl⟩
      rw [← hu] at hve TE ⊢;have HU := lh hu;clear ht4 hb4 hu HN3;go_wp2;go_ret2
      refine ⟨_, ?_, TE.out, B4.out⟩;rw [← HU.out];rfl
   have n6 : (kd == 6) = false := by simpa using k6
   by_cases k13 : kd = 13
   ·subst k13;have hq := HLR.out;rw [Z50 HX.out (by rw [← HKD.out]; omega)] at hq;have e1 : ownL x = [x.text] := by unfold ownL; rw [← HKD.out, if_neg (by decide), if_neg (by decide), if_pos rfl]
    rw [e1] at hq;simp only [Prod.mk.injEq] at hq;obtain ⟨rfl, rfl⟩ := hq;have x1 := TX.out.c1;have TO := lh (Zy.one2 (w := w2) (B := w.heap.size) B2.out.size x.text);have BO := lh (B2.out.trans ((Below.refl w2.heap.size w2).alloc (Nat.le_refl _) (.cells #[.string x.text] 9) |>.mono B2.out.size));go_wp2;go_ret2
    exact ⟨_, rfl, TO.out, BO.out⟩
   have n13 : (kd == 13) = false := by simpa using k13
   have hq := HLR.out;rw [Z50 HX.out (by rw [← HKD.out]; omega)] at hq;have e1 : ownL x = [] := by unfold ownL; rw [← HKD.out, if_neg k1, if_neg kf, if_neg k13, if_neg k6]
   rw [e1] at hq;simp only [Prod.mk.injEq] at hq;obtain ⟨rfl, rfl⟩ := hq;go_wp2;go_ret2
   exact ⟨_, rfl, Zy.nil _ _, B2.out⟩
theorem Zh8 (w : World) : Calls Tryz.prog 9 #[.pointer none] w fun e w' => e = .returned (.pointer none) ∧ Below w.heap.size w w' := by
 go_enter Tryz.func9, Tryz.ntmps9
 go_wp2;go_ret;exact ⟨rfl, Below.refl _ _⟩
theorem Zgo (n0 : Nat) : ∀ (x : ATree), x.many ≤ n0 → x.many ≤ 10000 → ∀ (w : World) (B0 : Nat), TreeAt w B0 x →
 Calls Tryz.prog 9 #[x.ptr] w fun e w' => ∃ c, e = .returned (ATree.ptr c) ∧ Got w w.heap.size w' c x.tree ∧ Below w.heap.size w w' := by
 induction n0 with
 | zero => intro a h; exfalso; cases a; simp [ATree.many] at h
 | succ n0 ih =>
 intro x hn hmx w B0 hT;have HIH := lh ih;obtain ⟨p, cp, hv, hge, hgm⟩ := hT.vOf;obtain ⟨i0, hi, hz0, hz1, hz2⟩ := info_parts Tryz.infoPtr;have k0 := hT.c0;have k1 := hT.c1;have k3 := hT.c3;have k2 : w.cell? ⟨x.b, 2, none⟩ = some (.int .i64 x.n) := by simp [World.cell?, hT.blkOf]
 rw [hv] at k3;have hxl := hT.lt;have hro : Z0s w B0 x.v x.kids := hT.rowOf;rw [hv] at hro;have hkm := Z24 x;have HKM := lh (show ∀ y ∈ x.kids, y.many ≤ n0 ∧ y.many ≤ 10000 from fun y hy => by have := Z3n hy; omega);have HTR := lh (show x.tree = .mk x.kind x.text x.n (Z10 x.kids) from by cases x; rfl);obtain ⟨kd, hkd⟩ : ∃ kd, kd = x.kind := ⟨_, rfl⟩
 obtain ⟨tx, htx⟩ : ∃ tx, tx = x.text := ⟨_, rfl⟩
 obtain ⟨nn, hnn⟩ : ∃ nn, nn = x.n := ⟨_, rfl⟩
 rw [← hkd] at k0 HTR;rw [← htx] at k1 HTR;rw [← hnn] at k2 HTR;obtain ⟨m, hm⟩ : ∃ m, m = x.kids.length := ⟨_, rfl⟩
 rw [← hm] at hge k3 hro hkm;have hml : m ≤ 10000 := by omega
 have HM := lh hm;have HT := lh hT;have NO := lh hro;unfold maxLen at hgm;have hbp : Below w.heap.size w (w.alloc (.cells #[.int .i64 kd, .string tx, .int .i64 nn, .slice none 0 0] 44)).drew := ((Below.refl w.heap.size w).alloc (Nat.le_refl _) _).drew;have hlf := Got.rfr (Got.leaf (w0 := w) (w := w) (rb := x.b) (B := w.heap.size) (k := kd) (t := tx) (n := nn) (Nat.le_refl _) (RFr.refl w x.b)) hxl ((RFr.refl _ _).drew);have GL := lh hlf;have BL := lh hbp;unfold ATree.ptr;clear ih hn hmx hv hm hT hro hkm hkd htx hnn hlf hbp;go_enter Tryz.func9, Tryz.ntmps9
 go_wp2_with fail
 refine Z0 [(true, 0), (true, 1), (true, 2), (true, 3), (true, 4), (true, 5), (true, 6), (true, 7), (true, 8), (true, 9), (true, 10), (true, 11)] [12, 13, 14] (fun W => W.cell? ⟨x.b, 0, none⟩ = some (.int .i64 kd) ∧ W.cell? ⟨x.b, 1, none⟩ = some (.string tx) ∧ W.cell? ⟨x.b, 2, none⟩ = some (.int .i64 nn)) (by kernel_rfl) (by kernel_rfl) (fun _ _ d _ _ h => by cases d <;> exact h) ⟨k0, k1, k2⟩ (fun hS0 => ?_);simp only [Za, List.filterMap_cons, List.filterMap_nil, List.getElem?_toArray, List.getElem?_cons_zero, List.getElem?_cons_succ, Option.map_some]
 iterate 12
  first
   | (refine Z2 ?_ (by rfl) (fun w' hS' => ?_) ?_; rotate_left; (obtain ⟨s0, s1, s2⟩ := hS'; go_simp; first | done | with_reducible rfl); simp only [Act.put, zA, zB, zC])
   | (refine Z1 (by rfl) ?_; simp only [Act.put, zA, zB, zC])
 refine Z5 ?_;obtain ⟨w1, hw1⟩ : ∃ W, W = (w.alloc (.cells #[.int .i64 kd, .string tx, .int .i64 nn, .slice none 0 0] 44)).drew := ⟨_, rfl⟩
 have j3 : (w.alloc (.cells #[.int .i64 kd, .string tx, .int .i64 nn, .slice none 0 0] 44)).cell? ⟨x.b, 3, none⟩ = some (.slice p m cp) := (Z7 hxl).trans k3;rw [← hw1] at GL BL;have HW1 := lh hw1;clear hw1 k0 k1 k2 k3;go_wp2_with fail
 rw [← HW1.out];obtain ⟨nb, hnb⟩ : ∃ nb, nb = w.heap.size := ⟨_, rfl⟩
 have HNB := lh hnb;have hxl' : x.b < w.heap.size := hxl;clear j3;rw [← hnb];clear hnb;go_loopw [27] (fun i wr => ∃ (j : Nat) (v : Value) (kids : List ATree), j ≤ m ∧ i = .int .i64 j ∧ kids.length = j ∧ Hid (Got w w.heap.size wr (.mk nb v kd tx nn kids) (.mk kd tx nn (Z10 (x.kids.take j)))) ∧ Hid (Below w.heap.size w wr)) (fun i _ => m - (intOf i).toNat)
 case atStart => exact ⟨0, .slice none 0 0, [], Nat.zero_le _, rfl, rfl, lh (by rw [HNB.out]; exact GL.out), BL⟩
 case round =>
  obtain ⟨j, v, kids, hj, rfl, hkl, G, HB⟩ := hrel;clear GL BL HW1;by_cases hjm : j < m
  ·obtain ⟨y, hy⟩ : ∃ y, x.kids[j]? = some y := ⟨_, List.getElem?_eq_getElem (by rw [← HM.out]; exact hjm)⟩
   have NOW := NO.out.bel HB.out;obtain ⟨g1, hp⟩ : ∃ g, p = some ⟨g, 0, none⟩ := by
    rcases NOW.form with ⟨_, h2⟩ | ⟨g, cap, h1, _⟩;·rw [h2] at hy; simp at hy
    ·simp only [Value.slice.injEq] at h1; exact ⟨g, h1.1⟩
   subst hp;have cy := NOW.cell rfl hy;have HYM := HKM.out y (List.mem_of_getElem? hy);have hTy := ((HT.out.bel HB.out).kid (List.mem_of_getElem? hy)).drew;have HC := lh (HIH.out y HYM.1 HYM.2 wr.drew B0 hTy);obtain ⟨pv, cv, hv, hve, hvm⟩ := G.out.at'.vOf;simp only [ATree.v, ATree.kids] at hv hve;rw [hkl] at hv hve;subst hv;have hblk := G.out.at'.blkOf;simp only [ATree.b, ATree.v, ATree.kind, ATree.text, ATree.n] at hblk;have n3 : wr.cell? ⟨nb, 3, none⟩ = some (.slice pv j cv) := by simp [World.cell?, hblk]
   have hnbl : nb < wr.heap.size := (Array.getElem?_eq_some_iff.1 hblk).1;have HTS := lh (show Z10 (x.kids.take (j + 1)) = Z10 (x.kids.take j) ++ [y.tree] from by rw [Z0c hy, Z58]; rfl);unfold ATree.ptr at HC;clear NOW hy hTy HYM hblk;unfold maxLen at hvm;go_wp2_with fail
   refine Z0 [(true, 0), (true, 1), (true, 2), (true, 3), (true, 4), (true, 5), (false, 6), (false, 7), (false, 8)] [9, 10, 11] (fun W => W.cell? ⟨nb, 3, none⟩ = some (.slice pv j cv)) (by kernel_rfl) (by kernel_rfl) (fun _ _ d _ _ h => by cases d <;> exact h) n3 (fun hS0 => ?_);simp only [Za, List.filterMap_cons, List.filterMap_nil, List.getElem?_toArray, List.getElem?_cons_zero, List.getElem?_cons_succ, Option.map_some]
   iterate 6
    first
     | (refine Z2 ?_ (by rfl) (fun w' hS' => ?_) ?_; rotate_left; (have s0 := hS'; go_simp; first | done | with_reducible rfl); simp only [Act.put, zA, zB, zC])
     | (refine Z1 (by rfl) ?_; simp only [Act.put, zA, zB, zC])
   refine Z6 (fun K hK => ?_);go_wp2_with fail
   refine HC.out.mono ?_;rintro e w2 ⟨c, rfl, hA, hb2⟩;have hB2 : Below wr.heap.size wr w2 := ((Below.refl wr.heap.size wr).drew).trans hb2;have N2 := G.out.belowG hB2;have hA2 := hA.preG (w0 := wr.drew) (B' := w.heap.size) (Nat.le_refl _) HB.out.size;have hblk := N2.at'.blkOf;simp only [ATree.b, ATree.v, ATree.kind, ATree.text, ATree.n] at hblk;have m3 : w2.cell? ⟨nb, 3, none⟩ = some (.slice pv j cv) := by simp [World.cell?, hblk]
   have mz : w2.frozen? ⟨nb, 3, none⟩ = false := by simp [World.frozen?, hblk]
   have hnb3 : nb < w2.heap.size := (Array.getElem?_eq_some_iff.1 hblk).1;have hnd := N2.nodup;simp only [ATree.blocks, List.nodup_cons, List.mem_append, Option.mem_toList, not_or] at hnd;have NE := lh hnd.1.1;have hrow := N2.at'.rowOf;simp only [ATree.v, ATree.kids] at hrow;rw [hkl] at hrow;have hws : w.heap.size ≤ w2.heap.size := (HB.out.trans (hB2.mono HB.out.size)).size;have B2 := lh (HB.out.trans (hB2.mono HB.out.size));have NN := lh N2;have AA := lh hA2;have NA := lh (fun x hx => (G.out.new x hx).2);clear hB2 N2 hA hA2 hb2 hblk hnd HC;go_simp
   refine hK _ _ m3 ?_;clear hK K;refine Z6 (fun K hK => ?_);go_simp
   refine hK _ _ ((Z7 hnb3).trans m3) ?_;clear hK K;refine Z6 (fun K hK => ?_);refine step_append_lies _ (by rfl) (.tmp 35) (.tmp 38) 42 (by rfl) w.heap.size 22 i0 _ 1 8 Tryz.underlying42 hi hz0 hz1 hz2 rfl (by decide) (.slice pv j cv) j (kids.map ATree.ptr) (by rfl) (hrow.alloc _) ⟨w2.heap.size, 0, none⟩ 1 1 [c.ptr] (by rfl) rfl (World.news_of_block (cs := #[c.ptr]) (t := 22) (fr := (0, 0)) (heap_alloc_new w2 _)) (by simp [ATree.ptr, Value.oneCell']) (by decide) (by unfold maxLen; omega) (by omega) (by simp; omega) (w2.heap.size + 1) (by simp) ?_;intro gg cap w4 hown4 hgrow4 hat4 hlt4
   have m4 : w4.cell? ⟨nb, 3, none⟩ = some (.slice pv j cv) := (hgrow4.cell_far ⟨nb, 3, none⟩ (by simp; omega) (fun e => NE.out e.symm)).trans ((Z7 hnb3).trans m3);have mz4 : w4.frozen? ⟨nb, 3, none⟩ = false := (hgrow4.frozen_far ⟨nb, 3, none⟩ (by simp; omega) (fun e => NE.out e.symm)).trans ((Zu hnb3).trans mz);refine hK _ _ m4 ?_;clear hK K;simp only [Act.put, zA, zB, zC];rw [← hkl] at hown4
   have hfin := Got.pushT (rb := x.b) hxl' (Nat.le_refl _) NN.out (wA := wr.drew) NA.out AA.out (RFr.below B2.out) ((Below.refl _ _).alloc (Nat.le_refl _) _) hgrow4 hown4 (by rcases hat4 with h | h; (exact .inl h); (exact .inr (by omega))) hlt4;rw [hkl] at hfin;have FIN := lh hfin;clear hgrow4 hown4 hat4 hlt4 hfin hrow;refine Z5 ?_;go_wp2;go_roundw
   case rel =>
    refine ⟨j + 1, _, kids ++ [c], by omega, by go_num, by simp [hkl], lh (by rw [HTS.out]; exact FIN.out.1), lh ⟨FIN.out.2.1.os, FIN.out.2.1.tape, FIN.out.2.1.output, FIN.out.2.1.size, fun k hk => (FIN.out.2.2 k hk).trans (B2.out.block k hk)⟩⟩
   case measure => simp [intOf]; omega
  ·have hk2 : j = m := by omega
   subst hk2;have hend := G.out;rw [List.take_of_length_le (by rw [← HM.out]; exact Nat.le_refl _)] at hend;have TE := lh hend;clear hend G;go_wp2;go_ret;exact ⟨.mk nb v kd tx nn kids, rfl, by rw [HTR.out]; exact TE.out, HB.out⟩
end Go.Proofs.YtgmnfgljkocnpaaGreatDoor
