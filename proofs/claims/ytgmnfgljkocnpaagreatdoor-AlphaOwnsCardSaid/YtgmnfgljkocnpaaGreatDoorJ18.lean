/- Package tree: statements of a whole program. The document's parser: strictText. -/
import Derived.Test.YtgmnfgljkocnpaaGreatDoorJ01
import Derived.Test.YtgmnfgljkocnpaaGreatDoorJ17
import Derived.Test.YtgmnfgljkocnpaaGreatDoorJ16
namespace Go.Proofs.YtgmnfgljkocnpaaGreatDoor
open Go Go.RowKit
set_option maxRecDepth 100000
set_option maxHeartbeats 20000000
set_option linter.unusedVariables false
theorem Zg2 (F : Nat) (hS : ∀ g, g < F → Says 69 rArg .stmt g) :
 Says 30 (fun rb => #[.pointer (some ⟨rb, 0, none⟩), .int .i64 1, .string ⟨#[]⟩]) (.stmts 1 []) F := by
 intro w rb B d ts r hP hp;have HC := lh (Z0g w rb 1 ⟨#[]⟩ none 0 0);have HP := lh hP;have HQ := lh hp;have HS := lh hS;have hmf : ∀ (fn : Fn) (first cap : Array Value) (w : World), (Instr.makeFunc fn first cap).run Tryz.prog w = .ok (.func fn first cap) w := fun _ _ _ _ => rfl;obtain ⟨nb, hnb⟩ : ∃ b, b = w.heap.size := ⟨_, rfl⟩
 have G0 := Got.leaf (k := 1) (t := ⟨#[]⟩) (n := 0) hP.le (RFr.refl w rb);have R0 := hP.rd.below ((Below.refl _ _).alloc (Nat.le_refl _) (.cells #[.int .i64 1, .string ⟨#[]⟩, .int .i64 0, .slice none 0 0] 44));have F0 : RFr w (w.alloc (.cells #[.int .i64 1, .string ⟨#[]⟩, .int .i64 0, .slice none 0 0] 44)) rb := RFr.below ((Below.refl _ _).alloc (Nat.le_refl _) _);rw [← hnb] at G0 HC;clear hP hp hS;simp only;go_enter Tryz.func30, Tryz.ntmps30
 go_wp2_with fail
 refine HC.out.mono ?_;rintro e w1 ⟨rfl, hw1⟩;rw [← hw1] at G0 R0 F0;have hst : ∃ (g : Nat) (acc : List Tree) (us : List Tok) (v : Value) (kids : List ATree), g ≤ F ∧ Z4 g (.stmts 1 acc) d us = some r ∧ Got w B w1 (.mk nb v 1 ⟨#[]⟩ 0 kids) (.mk 1 ⟨#[]⟩ 0 acc) ∧ Rd w1 rb us d ∧ RFr w w1 rb ∧ acc.length + us.length ≤ ts.length ∧ (∀ x ∈ acc, x.kind = 15 → x.kids ≠ []) :=
  ⟨F, [], ts, _, [], Nat.le_refl _, HQ.out, G0, R0, F0, by simp, fun x hx => by cases hx⟩
 have ST := lh hst;have HNB := lh hnb;clear hst hw1 G0 R0 F0 HC hnb;go_wp2_with fail
 go_loopw [] (fun wr => ∃ (g : Nat) (acc : List Tree) (us : List Tok) (v : Value) (kids : List ATree), g ≤ F ∧ Z4 g (.stmts 1 acc) d us = some r ∧ Got w B wr (.mk nb v 1 ⟨#[]⟩ 0 kids) (.mk 1 ⟨#[]⟩ 0 acc) ∧ Rd wr rb us d ∧ RFr w wr rb ∧ acc.length + us.length ≤ ts.length ∧ (∀ x ∈ acc, x.kind = 15 → x.kids ≠ [])) (fun wr => leftOf wr rb)
 case atStart => exact ST.out
 case round =>
  obtain ⟨g, acc, us, v, kids, hg, hq, hG, hR, hF, hl, hx⟩ := hrel;have G := lh hG;have R := lh hR;have FF := lh hF;have HX := lh hx;have RL := lh hR.left;cases g with
  | zero => cases hq
  | succ g =>
  rw [Z4] at hq;obtain ⟨tb, off, cpp, hh⟩ := hR;have c0 := hh.c0;have k0 := hh.hd (j := 0) (x := .int .i64 (hdT us).kind) rfl;rw [Nat.add_zero] at k0;have hps := hh.pos;clear hh;by_cases hb : (hdT us).kind = 6
  ·have nk : ((hdT us).kind != 6) = false := by simp [hb]
   rw [if_pos (by rw [if_pos rfl]; simpa using hb)] at hq;have hr := Option.some.inj hq;have HRr := lh hr.symm;clear hG hF hq hr hb hx ST;have hB2 : Below wr.heap.size wr wr := Below.refl _ _;have hlt := HP.out.lt;have F2 := lh (FF.out.trans (RFr.below (rb := rb) hB2));have G2 := lh (G.out.rfr hlt (RFr.below (rb := rb) hB2));have R2 := lh (R.out.below hB2);have hblk := G2.out.at'.blkOf;have hrow := G2.out.at'.rowOf;simp only [ATree.b, ATree.v, ATree.kind, ATree.text, ATree.n, ATree.kids] at hblk hrow;have n3 : wr.cell? ⟨nb, 3, none⟩ = some v := by simp [World.cell?, hblk]
   have nz : wr.frozen? ⟨nb, 1, none⟩ = false := by simp [World.frozen?, hblk]
   have nc1 : wr.cell? ⟨nb, 1, none⟩ = some (.string ⟨#[]⟩) := by simp [World.cell?, hblk]
   have htr := G2.out.tree;simp only [ATree.tree, Tree.mk.injEq, true_and] at htr;have fin0 : Z1q acc = false → Z07 w rb B d r (.returned (.pointer (some ⟨nb, 0, none⟩))) wr := fun h => by
    rw [HRr.out, h];exact ⟨_, rfl, G2.out, R2.out, F2.out⟩
   have FIN0 := lh fin0;have fin1 : Z1q acc = true → Z07 w rb B d r (.returned (.pointer (some ⟨nb, 0, none⟩))) (wr.setCell ⟨nb, 1, none⟩ (.string Z2b)) := fun h => by
    rw [HRr.out, h];obtain ⟨h1, h2, h3⟩ := Got.text (t' := Z2b) hlt HP.out.le G2.out F2.out R2.out;exact ⟨_, rfl, h1, h3, h2⟩
   have FIN1 := lh fin1;have HTR := lh htr;have hks : ∀ a ∈ kids, TreeAt wr B a := fun a ha => G2.out.at'.kid (k := a) ha;have HKS := lh hks;clear hB2 hblk fin0 fin1 htr hks FF G R;cases kids with
   | nil =>
     have hs0 : Z1q acc = false := by rw [← HTR.out]; rfl
     have H0 := lh (FIN0.out hs0);clear hs0;rcases Zc hrow with ⟨rfl, _⟩ | ⟨g0, cap0, rfl, _, _, _⟩
     all_goals
      clear hrow;go_wp2;go_ret;exact H0.out
   | cons a0 ks =>
     rcases Zc hrow with ⟨_, h0⟩ | ⟨g0, cap0, rfl, k1, k2, k3⟩;·simp at h0
     have p0 := Zo hrow (g := g0) rfl (i := 0) (x := a0.ptr) rfl;have hT0 := HKS.out a0 (by simp);have hb0 := hT0.blkOf;have hr0 := hT0.rowOf;have hx0 := HX.out a0.tree (by rw [← HTR.out]; simp [Z10]);obtain ⟨b0, v0, kd0, t0, n0, l0⟩ := a0;simp only [ATree.b, ATree.v, ATree.kind, ATree.text, ATree.n, ATree.kids, ATree.ptr, List.length_cons] at hb0 hr0 p0 k1 n3 ⊢;unfold maxLen at k2;have d0 : wr.cell? ⟨b0, 0, none⟩ = some (.int .i64 kd0) := by simp [World.cell?, hb0]
     have d3 : wr.cell? ⟨b0, 3, none⟩ = some v0 := by simp [World.cell?, hb0]
     by_cases h15 : kd0 = 15
     ·subst h15;cases l0 with
      | nil => exact absurd rfl (hx0 rfl)
      | cons x xs =>
      rcases Zc hr0 with ⟨_, h0⟩ | ⟨g1, cap1, rfl, j1, j2, j3⟩;·simp at h0
      have p1 := Zo hr0 (g := g1) rfl (i := 0) (x := x.ptr) rfl;have hb1 := (hT0.kid (k := x) (by simp [ATree.kids])).blkOf;obtain ⟨b1, v1, kd1, t1, n1, l1⟩ := x;simp only [ATree.b, ATree.v, ATree.kind, ATree.text, ATree.n, ATree.ptr, List.length_cons] at hb1 p1 j1 d3;unfold maxLen at j2;have e0 : wr.cell? ⟨b1, 0, none⟩ = some (.int .i64 kd1) := by simp [World.cell?, hb1]
      have e1 : wr.cell? ⟨b1, 1, none⟩ = some (.string t1) := by simp [World.cell?, hb1]
      have hstr : Z1q acc = (decide (kd1 = 18) && Z0o t1 Z0a) := by rw [← HTR.out]; rfl
      have HST := lh hstr;clear hrow hr0 hT0 hb0 hb1 hx0 hstr;by_cases h18 : kd1 = 18
      ·subst h18;by_cases hus : t1 = Z0a
       ·subst hus;have H1 := lh (FIN1.out (by rw [HST.out]; simp [Z0o]));unfold Z0a at e1;go_wp2;go_ret;exact H1.out
       ·have H0 := lh (FIN0.out (by rw [HST.out]; simp [Z0o, hus]));have hne : ¬ t1.toList = Z0a.toList := fun h => hus (Z25 h);have hne2 : (t1.toList == Z0a.toList) = false := by simpa using hne
        have hl : Z0a.toList = [117, 115, 101, 32, 115, 116, 114, 105, 99, 116] := by rw [Lib.toList_data]; rfl
        have hne3 : ¬ t1.toList = [117, 115, 101, 32, 115, 116, 114, 105, 99, 116] := by rw [← hl]; exact hne
        have hne4 : (t1.toList == [117, 115, 101, 32, 115, 116, 114, 105, 99, 116]) = false := by simpa using hne3
        unfold Z0a at hne hne2;clear hus hl;go_wp2;go_ret;exact H0.out
      ·have n18 : (kd1 == 18) = false := by simpa using h18
       have H0 := lh (FIN0.out (by rw [HST.out]; simp [h18]));clear h18;go_wp2;go_ret;exact H0.out
     ·have n15 : (kd0 == 15) = false := by simpa using h15
      have H0 := lh (FIN0.out (by rw [← HTR.out]; cases l0 <;> simp [Z10, ATree.tree, Z1q, h15]));clear hrow hr0 hT0 hb0 hx0 h15;go_wp2;go_ret;exact H0.out
  ·have nk : ((hdT us).kind != 6) = true := by simpa using hb
   rw [if_neg (by rw [if_pos rfl]; simpa using hb)] at hq;have HQ2 := lh hq;clear hG hF hq hb hx ST;have hB2 : Below wr.heap.size wr wr := Below.refl _ _;have F2 := FF.out.trans (RFr.below (rb := rb) hB2);have G2 := G.out.rfr HP.out.lt (RFr.below (rb := rb) hB2);have R2 := R.out.below hB2;have n3 : wr.cell? ⟨nb, 3, none⟩ = some v := by have := G2.at'.blkOf; simp only [ATree.b, ATree.v, ATree.kind, ATree.text, ATree.n] at this; simp [World.cell?, this]
   have F2 := lh F2;have G2 := lh G2;have R2 := lh R2;clear hB2 FF G R;go_wp2_with fail
   refine Z0 [(true, 0), (true, 1), (true, 2), (true, 3), (true, 4), (true, 5), (true, 6), (true, 7), (false, 8), (false, 9), (false, 10)] [11, 12, 13] (fun W => W.cell? ⟨nb, 3, none⟩ = some v) (by kernel_rfl) (by kernel_rfl) (fun _ _ d _ _ h => by cases d <;> exact h) n3 (fun hS0 => ?_);simp only [Za, List.filterMap_cons, List.filterMap_nil, List.getElem?_toArray, List.getElem?_cons_zero, List.getElem?_cons_succ, Option.map_some]
   iterate 8
    first
     | (refine Z2 ?_ (by rfl) (fun w' hS' => ?_) ?_; rotate_left; (have s0 := hS'; go_simp; first | done | with_reducible rfl); simp only [Act.put, zA, zB, zC])
     | (refine Z1 (by rfl) ?_; simp only [Act.put, zA, zB, zC])
   refine Z6 (fun K hK => ?_);go_simp
   have hlt := HP.out.lt;have hRF2 : RFr wr wr.drew rb := (RFr.refl wr rb).drew;have hus : us.length ≤ 4000 := by have := HP.out.few; omega
   have hle2 : B ≤ wr.drew.heap.size := Nat.le_trans HP.out.le F2.out.size;rcases Zr HQ2.out with ⟨⟨c, p⟩, hv, rfl⟩ | ⟨t, vs, hv, hq3⟩
   ·refine (Z09 wr.drew rb B us d _ _ R2.out.drew (by have := HP.out.deep; omega) hlt hv fun hd h1 w1 hR1 hs => HS.out g (by omega) w1 rb B (d + 1) us _ ⟨hR1, hd, hlt, by omega, hus⟩ h1).mono ?_;rintro e w3 ⟨⟨b, rfl, h1, h2⟩, hF3⟩;exact ⟨rfl, Z07.pre F2.out.drew (r := .error (c, p)) ⟨⟨b, rfl, h1, h2⟩, hF3⟩⟩
   ·have hvl : vs.length < us.length := Leaves.within (Z1n g .stmt (d + 1) us) t vs hv;have hvx : t.kind = 15 → t.kids ≠ [] := by
     unfold Z0q at hv;by_cases h30 : 30 < d + 1;·rw [if_pos h30] at hv; cases hv
     ·rw [if_neg h30] at hv;cases g with
      | zero => cases hv
      | succ g => exact Zap hv
    have HVX := lh hvx;have HQ3 := lh hq3;refine (Z09 wr.drew rb B us d _ _ R2.out.drew (by have := HP.out.deep; omega) hlt hv fun hd h1 w1 hR1 hs => HS.out g (by omega) w1 rb B (d + 1) us _ ⟨hR1, hd, hlt, by omega, hus⟩ h1).mono ?_;rintro e w3 ⟨a, rfl, hA, hR3, hF3⟩;have hF23 : RFr wr w3 rb := hRF2.trans hF3;have hN3 := G2.out.rfr hlt hF23;have hblk := hN3.at'.blkOf;simp only [ATree.b, ATree.v, ATree.kind, ATree.text, ATree.n] at hblk;have m3 : w3.cell? ⟨nb, 3, none⟩ = some v := by simp [World.cell?, hblk]
    have mz : w3.frozen? ⟨nb, 3, none⟩ = false := by simp [World.frozen?, hblk]
    have hnb3 : nb < w3.heap.size := (Array.getElem?_eq_some_iff.1 hblk).1;have hnd := hN3.nodup;simp only [ATree.blocks, List.nodup_cons, List.mem_append, Option.mem_toList, not_or] at hnd;have hne : v.ownBlock ≠ some nb := hnd.1.1;have hkl : kids.length = acc.length := by
     have := hN3.tree;simp only [ATree.tree, Tree.mk.injEq, true_and] at this;rw [← this, Z2d, List.length_map]
    have hk4 : kids.length ≤ 4000 := by have := HP.out.few; omega
    have N3 := lh hN3;have A3 := lh hA;have R3 := lh hR3;have F3 := lh (F2.out.trans hF23);have NE := lh hne;have HKL := lh hkl;refine hK _ _ m3 ?_;obtain ⟨i0, hi, hz0, hz1, hz2⟩ := info_parts Tryz.infoPtr;clear hK K hA hR3 hF3 hF23 hN3 hblk hnd hne hvx hq3 hv hkl n3 hRF2;refine Z6 (fun K hK => ?_);go_simp
    refine hK _ _ ((Z7 hnb3).trans m3) ?_;clear hK K;refine Z6 (fun K hK => ?_);refine step_append_lies _ (by rfl) (.tmp 37) (.tmp 42) 42 (by rfl) B 22 i0 _ 1 8 Tryz.underlying42 hi hz0 hz1 hz2 rfl (by decide) v kids.length (kids.map ATree.ptr) (by rfl) (N3.out.at'.rowOf.alloc _) ⟨w3.heap.size, 0, none⟩ 1 1 [a.ptr] (by rfl) rfl (World.news_of_block (cs := #[a.ptr]) (t := 22) (fr := (0, 0)) (heap_alloc_new w3 _)) (by simp [ATree.ptr, Value.oneCell']) (by decide) (by unfold maxLen; omega) (by omega) (by simp; have := F3.out.size; have := HP.out.le; omega) (w3.heap.size + 1) (by simp) ?_
    intro gg cap w4 hown4 hgrow4 hat4 hlt4;have m4 : w4.cell? ⟨nb, 3, none⟩ = some v := (hgrow4.cell_far ⟨nb, 3, none⟩ (by simp; omega) (fun e => NE.out e.symm)).trans ((Z7 hnb3).trans m3);have mz4 : w4.frozen? ⟨nb, 3, none⟩ = false := (hgrow4.frozen_far ⟨nb, 3, none⟩ (by simp; omega) (fun e => NE.out e.symm)).trans ((Zu hnb3).trans mz);refine hK _ _ m4 ?_;clear hK K;simp only [Act.put, zA, zB, zC]
    have hfin := Got.push hlt HP.out.le N3.out (wA := wr.drew) (fun x hx => (G2.out.new x hx).2) A3.out F3.out R3.out ((Below.refl _ _).alloc (Nat.le_refl _) _) hgrow4 hown4 (by rcases hat4 with h | h; (exact .inl h); (exact .inr (by omega))) hlt4;have FIN := lh hfin;clear hgrow4 hown4 hat4 hlt4 hfin;refine Z5 ?_;go_wp2;go_roundw
    case rel =>
     refine ⟨g, acc ++ [t], vs, .slice (some ⟨gg, 0, none⟩) (kids.length + 1) cap, kids ++ [a], by omega, HQ3.out, ?_, FIN.out.2.2, FIN.out.2.1, by simp; omega, fun x hx => ?_⟩
     ·have h1 := FIN.out.1;have h2 := G2.out.tree;simp only [ATree.tree, Tree.mk.injEq, true_and] at h2;rw [h2] at h1;exact h1
     ·rcases List.mem_append.1 hx with hx | hx;·exact HX.out x hx
      ·simp only [List.mem_singleton] at hx; subst hx; exact HVX.out
    case measure =>
     rw [FIN.out.2.2.left, RL.out];exact hvl
def Z0w (ts : List Tree) : ByteArray := if Z1q ts then Z2b else ByteArray.empty
theorem Z51 (w0 w : World) (B : Nat) (v : Value) (kids : List ATree) (ts : List Tree) (L : ListAt w0 B w v kids ts) (hx : ∀ x ∈ ts, x.kind = 15 → x.kids ≠ []) :
 Calls Tryz.prog 26 #[v] w fun e w' => e = .returned (.string (Z0w ts)) ∧ Below w.heap.size w w' := by
 have HTR := lh L.ks.tree;have HX := lh hx;have hrow := L.row;have HKS := lh L.ks.at';clear hx L;cases kids with
 | nil =>
   have hs0 : Z0w ts = ByteArray.empty := by rw [← HTR.out]; rfl
   rw [hs0];clear HTR HX HKS hs0;rcases Zc hrow with ⟨rfl, _⟩ | ⟨g0, cap0, rfl, _, _, _⟩
   all_goals
    clear hrow;go_enter Tryz.func26, Tryz.ntmps26
    go_wp2;go_ret;exact ⟨rfl, Below.refl _ _⟩
 | cons a0 ks =>
   rcases Zc hrow with ⟨_, h0⟩ | ⟨g0, cap0, rfl, k1, k2, k3⟩;·simp at h0
   have p0 := Zo hrow (g := g0) rfl (i := 0) (x := a0.ptr) rfl;have hT0 := HKS.out a0 (by simp);have hb0 := hT0.blkOf;have hr0 := hT0.rowOf;have hx0 := HX.out a0.tree (by rw [← HTR.out]; simp [Z10]);obtain ⟨b0, v0, kd0, t0, n0, l0⟩ := a0;simp only [ATree.b, ATree.v, ATree.kind, ATree.text, ATree.n, ATree.kids, ATree.ptr, List.length_cons] at hb0 hr0 p0 k1 ⊢;unfold maxLen at k2;have d0 : w.cell? ⟨b0, 0, none⟩ = some (.int .i64 kd0) := by simp [World.cell?, hb0]
   have d3 : w.cell? ⟨b0, 3, none⟩ = some v0 := by simp [World.cell?, hb0]
   by_cases h15 : kd0 = 15
   ·subst h15;cases l0 with
    | nil => exact absurd rfl (hx0 rfl)
    | cons x xs =>
    rcases Zc hr0 with ⟨_, h0⟩ | ⟨g1, cap1, rfl, j1, j2, j3⟩;·simp at h0
    have p1 := Zo hr0 (g := g1) rfl (i := 0) (x := x.ptr) rfl;have hb1 := (hT0.kid (k := x) (by simp [ATree.kids])).blkOf;obtain ⟨b1, v1, kd1, t1, n1, l1⟩ := x;simp only [ATree.b, ATree.v, ATree.kind, ATree.text, ATree.n, ATree.ptr, List.length_cons] at hb1 p1 j1 d3;unfold maxLen at j2;have e0 : w.cell? ⟨b1, 0, none⟩ = some (.int .i64 kd1) := by simp [World.cell?, hb1]
    have e1 : w.cell? ⟨b1, 1, none⟩ = some (.string t1) := by simp [World.cell?, hb1]
    have hstr : Z1q ts = (decide (kd1 = 18) && Z0o t1 Z0a) := by rw [← HTR.out]; rfl
    have HST := lh hstr;clear hrow hr0 hT0 hb0 hb1 hx0 hstr HTR HX HKS;by_cases h18 : kd1 = 18
    ·subst h18;by_cases hus : t1 = Z0a
     ·subst hus;rw [show Z0w ts = Z2b from by unfold Z0w; rw [HST.out]; simp [Z0o]];unfold Z0a at e1;go_enter Tryz.func26, Tryz.ntmps26
      go_wp2;go_ret;exact ⟨rfl, Below.refl _ _⟩
     ·rw [show Z0w ts = ByteArray.empty from by unfold Z0w; rw [HST.out]; simp [Z0o, hus]];have hne : ¬ t1.toList = Z0a.toList := fun h => hus (Z25 h);have hl : Z0a.toList = [117, 115, 101, 32, 115, 116, 114, 105, 99, 116] := by rw [Lib.toList_data]; rfl
      have hne3 : ¬ t1.toList = [117, 115, 101, 32, 115, 116, 114, 105, 99, 116] := by rw [← hl]; exact hne
      have hne4 : (t1.toList == [117, 115, 101, 32, 115, 116, 114, 105, 99, 116]) = false := by simpa using hne3
      clear hus hl hne;go_enter Tryz.func26, Tryz.ntmps26
      go_wp2;go_ret;exact ⟨rfl, Below.refl _ _⟩
    ·have n18 : (kd1 == 18) = false := by simpa using h18
     rw [show Z0w ts = ByteArray.empty from by unfold Z0w; rw [HST.out]; simp [h18]];clear h18;go_enter Tryz.func26, Tryz.ntmps26
     go_wp2;go_ret;exact ⟨rfl, Below.refl _ _⟩
   ·have n15 : (kd0 == 15) = false := by simpa using h15
    rw [show Z0w ts = ByteArray.empty from by unfold Z0w; rw [← HTR.out]; cases l0 <;> simp [Z10, ATree.tree, Z1q, h15]];clear hrow hr0 hT0 hb0 hx0 h15 HTR HX HKS;go_enter Tryz.func26, Tryz.ntmps26
    go_wp2;go_ret;exact ⟨rfl, Below.refl _ _⟩
end Go.Proofs.YtgmnfgljkocnpaaGreatDoor
