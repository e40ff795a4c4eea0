/- Package tree: statements. Package hoist: kids of a kind, in a row of their own. Package hoist: inner, Vars; tree.Strict. -/
import Derived.Test.YtgmnfgljkocnpaaGreatDoorJ10
import Derived.Test.YtgmnfgljkocnpaaGreatDoorJ09
import Derived.Deep.Cut
import Derived.Test.YtgmnfgljkocnpaaGreatDoorJ01
namespace Go.Proofs.YtgmnfgljkocnpaaGreatDoor
open Go Go.RowKit
set_option maxRecDepth 100000
set_option maxHeartbeats 20000000
set_option linter.unusedVariables false
theorem Tryz.infoPtr : (Tryz.prog.info? 22).map (fun i => (i.zero, i.size, i.bytes)) = some (some (.pointer none), 1, 8) := by kernel_rfl
def leftOf (w : World) (rb : Nat) : Nat := match w.cell? ⟨rb, 0, none⟩ with | some (.slice _ n _) => n | _ => 0
theorem Rd.left {w : World} {rb : Nat} {ts : List Tok} {d : Nat} (h : Rd w rb ts d) : leftOf w rb = ts.length := by
 obtain ⟨tb, off, cap, h⟩ := h;unfold leftOf;rw [h.c0]
theorem Zed (F : Nat) (hS : ∀ g, g < F → Says 69 rArg .stmt g) :
 Says 30 (fun rb => #[.pointer (some ⟨rb, 0, none⟩), .int .i64 6, .string Zm]) (.stmts 6 []) F := by
 intro w rb B d ts r hP hp;have HC := lh (Z0g w rb 6 ⟨#[]⟩ none 0 0);have HP := lh hP;have HQ := lh hp;have HS := lh hS;have hmf : ∀ (fn : Fn) (first cap : Array Value) (w : World), (Instr.makeFunc fn first cap).run Tryz.prog w = .ok (.func fn first cap) w := fun _ _ _ _ => rfl;obtain ⟨nb, hnb⟩ : ∃ b, b = w.heap.size := ⟨_, rfl⟩
 have G0 := Got.leaf (k := 6) (t := ⟨#[]⟩) (n := 0) hP.le (RFr.refl w rb);have R0 := hP.rd.below ((Below.refl _ _).alloc (Nat.le_refl _) (.cells #[.int .i64 6, .string ⟨#[]⟩, .int .i64 0, .slice none 0 0] 44));have F0 : RFr w (w.alloc (.cells #[.int .i64 6, .string ⟨#[]⟩, .int .i64 0, .slice none 0 0] 44)) rb := RFr.below ((Below.refl _ _).alloc (Nat.le_refl _) _);rw [← hnb] at G0 HC;unfold Zm;clear hP hp hS;simp only;go_enter Tryz.func30, Tryz.ntmps30
 go_wp2_with fail
 refine HC.out.mono ?_;rintro e w1 ⟨rfl, hw1⟩;rw [← hw1] at G0 R0 F0;have hst : ∃ (g : Nat) (acc : List Tree) (us : List Tok) (v : Value) (kids : List ATree), g ≤ F ∧ Z4 g (.stmts 6 acc) d us = some r ∧ Got w B w1 (.mk nb v 6 ⟨#[]⟩ 0 kids) (.mk 6 ⟨#[]⟩ 0 acc) ∧ Rd w1 rb us d ∧ RFr w w1 rb ∧ acc.length + us.length ≤ ts.length ∧ (∀ x ∈ acc, x.kind = 15 → x.kids ≠ []) :=
  ⟨F, [], ts, _, [], Nat.le_refl _, HQ.out, G0, R0, F0, by simp, fun x hx => by cases hx⟩
 have ST := lh hst;have HNB := lh hnb;clear hst hw1 G0 R0 F0 HC hnb;go_wp2_with fail
 go_loopw [] (fun wr => ∃ (g : Nat) (acc : List Tree) (us : List Tok) (v : Value) (kids : List ATree), g ≤ F ∧ Z4 g (.stmts 6 acc) d us = some r ∧ Got w B wr (.mk nb v 6 ⟨#[]⟩ 0 kids) (.mk 6 ⟨#[]⟩ 0 acc) ∧ Rd wr rb us d ∧ RFr w wr rb ∧ acc.length + us.length ≤ ts.length ∧ (∀ x ∈ acc, x.kind = 15 → x.kids ≠ [])) (fun wr => leftOf wr rb)
 case atStart => exact ST.out
 case round =>
  obtain ⟨g, acc, us, v, kids, hg, hq, hG, hR, hF, hl, hx⟩ := hrel;have G := lh hG;have R := lh hR;have FF := lh hF;have HX := lh hx;have RL := lh hR.left;cases g with
  | zero => cases hq
  | succ g =>
  rw [Z4] at hq;have HB := Z40 wr rb us d Zm hR;by_cases hb : isT Zm us = true
  ·rw [hb] at HB;rw [if_pos (by rw [if_neg (by omega)]; exact hb)] at hq;have hr := Option.some.inj hq;have HRr := lh hr.symm;have HB := lh HB;unfold Zm at HB;clear hG hR hF hq hr hb hx ST;go_wp2_with fail
   refine HB.out.mono ?_;rintro e w2 ⟨rfl, hB2⟩;have hlt := HP.out.lt;have F2 := lh (FF.out.trans (RFr.below (rb := rb) hB2));have G2 := lh (G.out.rfr hlt (RFr.below (rb := rb) hB2));have R2 := lh (R.out.below hB2);have hblk := G2.out.at'.blkOf;have hrow := G2.out.at'.rowOf;simp only [ATree.b, ATree.v, ATree.kind, ATree.text, ATree.n, ATree.kids] at hblk hrow;have n3 : w2.cell? ⟨nb, 3, none⟩ = some v := by simp [World.cell?, hblk]
   have nz : w2.frozen? ⟨nb, 1, none⟩ = false := by simp [World.frozen?, hblk]
   have nc1 : w2.cell? ⟨nb, 1, none⟩ = some (.string ⟨#[]⟩) := by simp [World.cell?, hblk]
   have htr := G2.out.tree;simp only [ATree.tree, Tree.mk.injEq, true_and] at htr;have fin0 : Z1q acc = false → Z07 w rb B d r (.returned (.pointer (some ⟨nb, 0, none⟩))) w2 := fun h => by
    rw [HRr.out, h];exact ⟨_, rfl, G2.out, R2.out, F2.out⟩
   have FIN0 := lh fin0;have fin1 : Z1q acc = true → Z07 w rb B d r (.returned (.pointer (some ⟨nb, 0, none⟩))) (w2.setCell ⟨nb, 1, none⟩ (.string Z2b)) := fun h => by
    rw [HRr.out, h];obtain ⟨h1, h2, h3⟩ := Got.text (t' := Z2b) hlt HP.out.le G2.out F2.out R2.out;exact ⟨_, rfl, h1, h3, h2⟩
   have FIN1 := lh fin1;have HTR := lh htr;have hks : ∀ a ∈ kids, TreeAt w2 B a := fun a ha => G2.out.at'.kid (k := a) ha;have HKS := lh hks;clear hB2 hblk fin0 fin1 htr hks HB FF G R;cases kids with
   | nil =>
     have hs0 : Z1q acc = false := by rw [← HTR.out]; rfl
     have H0 := lh (FIN0.out hs0);clear hs0;rcases Zc hrow with ⟨rfl, _⟩ | ⟨g0, cap0, rfl, _, _, _⟩
     all_goals
      clear hrow;go_wp2;go_ret;exact H0.out
   | cons a0 ks =>
     rcases Zc hrow with ⟨_, h0⟩ | ⟨g0, cap0, rfl, k1, k2, k3⟩;·simp at h0
     have p0 := Zo hrow (g := g0) rfl (i := 0) (x := a0.ptr) rfl;have hT0 := HKS.out a0 (by simp);have hb0 := hT0.blkOf;have hr0 := hT0.rowOf;have hx0 := HX.out a0.tree (by rw [← HTR.out]; simp [Z10]);obtain ⟨b0, v0, kd0, t0, n0, l0⟩ := a0;simp only [ATree.b, ATree.v, ATree.kind, ATree.text, ATree.n, ATree.kids, ATree.ptr, List.length_cons] at hb0 hr0 p0 k1 n3 ⊢;unfold maxLen at k2;have d0 : w2.cell? ⟨b0, 0, none⟩ = some (.int .i64 kd0) := by simp [World.cell?, hb0]
     have d3 : w2.cell? ⟨b0, 3, none⟩ = some v0 := by simp [World.cell?, hb0]
     by_cases h15 : kd0 = 15
     ·subst h15;cases l0 with
      | nil => exact absurd rfl (hx0 rfl)
      | cons x xs =>
      rcases Zc hr0 with ⟨_, h0⟩ | ⟨g1, cap1, rfl, j1, j2, j3⟩;·simp at h0
      have p1 := Zo hr0 (g := g1) rfl (i := 0) (x := x.ptr) rfl;have hb1 := (hT0.kid (k := x) (by simp [ATree.kids])).blkOf;obtain ⟨b1, v1, kd1, t1, n1, l1⟩ := x;simp only [ATree.b, ATree.v, ATree.kind, ATree.text, ATree.n, ATree.ptr, List.length_cons] at hb1 p1 j1 d3;unfold maxLen at j2;have e0 : w2.cell? ⟨b1, 0, none⟩ = some (.int .i64 kd1) := by simp [World.cell?, hb1]
      have e1 : w2.cell? ⟨b1, 1, none⟩ = some (.string t1) := by simp [World.cell?, hb1]
      have hstr : Z1q acc = (decide (kd1 = 18) && Z0o t1 Z0a) := by rw [← HTR.out]; rfl
      have HST := lh hstr;clear hrow hr0 hT0 hb0 hb1 hx0 hstr;by_cases h18 : kd1 = 18
      ·subst h18;by_cases hus : t1 = Z0a
       ·subst hus;have H1 := lh (FIN1.out (by rw [HST.out]; simp [Z0o]));unfold Z0a at e1;go_wp2;go_ret;exact H1.out
       ·have H0 := lh (FIN0.out (by rw [HST.out]; simp [Z0o, hus]));have hne : ¬ t1.toList = Z0a.toList := fun h => hus (Z25 h);have hne2 : (t1.toList == Z0a.toList) = false := by simpa using hne
        have hl : Z0a.toList = [117, 115, 101, 32, 115, 116, 114, 105, 99, 116] := by rw [Lib.toList_data]; rfl
        have hne3 : ¬ t1.toList = [117, 115, 101, 32, 115, 116, 114, 105, 99, 116] := by rw [← hl]; exact hne
        have hne4 : (t1.toList == [117, 115, 101, 32, 115, 116, 114, 105, 99, 116]) = false := by simpa using hne3
        unfold Z0a at hne hne2;clear hus hl;go_wp2;go_ret;exact H0.out
      ·have n18 : (kd1 == 18) = false := by simpa using h18
       have H0 := lh (FIN0.out (by rw [HST.out]; simp [h18]));clear h18;go_wp2;go_ret;exact H0.out
     ·have n15 : (kd0 == 15) = false := by simpa using h15
      have H0 := lh (FIN0.out (by rw [← HTR.out]; cases l0 <;> simp [Z10, ATree.tree, Z1q, h15]));clear hrow hr0 hT0 hb0 hx0 h15;go_wp2;go_ret;exact H0.out
  ·have hb' : isT Zm us = false := by simpa using hb
   rw [hb'] at HB;rw [if_neg (by rw [if_neg (by omega)]; exact hb)] at hq;have HB := lh HB;unfold Zm at HB;have HQ2 := lh hq;clear hG hR hF hq hb hb' hx ST;go_wp2_with fail
   refine HB.out.mono ?_;rintro e w2 ⟨rfl, hB2⟩;have F2 := FF.out.trans (RFr.below (rb := rb) hB2);have G2 := G.out.rfr HP.out.lt (RFr.below (rb := rb) hB2);have R2 := R.out.below hB2;have n3 : w2.cell? ⟨nb, 3, none⟩ = some v := by have := G2.at'.blkOf; simp only [ATree.b, ATree.v, ATree.kind, ATree.text, ATree.n] at this; simp [World.cell?, this]
   have F2 := lh F2;have G2 := lh G2;have R2 := lh R2;clear hB2 HB FF G R;go_wp2_with fail
   refine Z0 [(true, 0), (true, 1), (true, 2), (true, 3), (true, 4), (true, 5), (true, 6), (true, 7), (false, 8), (false, 9), (false, 10)] [11, 12, 13] (fun W => W.cell? ⟨nb, 3, none⟩ = some v) (by kernel_rfl) (by kernel_rfl) (fun _ _ d _ _ h => by cases d <;> exact h) n3 (fun hS0 => ?_);simp only [Za, List.filterMap_cons, List.filterMap_nil, List.getElem?_toArray, List.getElem?_cons_zero, List.getElem?_cons_succ, Option.map_some]
   iterate 8
    first
     | (refine Z2 ?_ (by rfl) (fun w' hS' => ?_) ?_; rotate_left; (have s0 := hS'; go_simp; first | done | with_reducible rfl); simp only [Act.put, zA, zB, zC])
     | (refine Z1 (by rfl) ?_; simp only [Act.put, zA, zB, zC])
   refine Z6 (fun K hK => ?_);go_simp
   have hlt := HP.out.lt;have hRF2 : RFr w2 w2.drew rb := (RFr.refl w2 rb).drew;have hus : us.length ≤ 4000 := by have := HP.out.few; omega
   have hle2 : B ≤ w2.drew.heap.size := Nat.le_trans HP.out.le F2.out.size;rcases Zr HQ2.out with ⟨⟨c, p⟩, hv, rfl⟩ | ⟨t, vs, hv, hq3⟩
   ·refine (Z09 w2.drew rb B us d _ _ R2.out.drew (by have := HP.out.deep; omega) hlt hv fun hd h1 w1 hR1 hs => HS.out g (by omega) w1 rb B (d + 1) us _ ⟨hR1, hd, hlt, by omega, hus⟩ h1).mono ?_;rintro e w3 ⟨⟨b, rfl, h1, h2⟩, hF3⟩;exact ⟨rfl, Z07.pre F2.out.drew (r := .error (c, p)) ⟨⟨b, rfl, h1, h2⟩, hF3⟩⟩
   ·have hvl : vs.length < us.length := Leaves.within (Z1n g .stmt (d + 1) us) t vs hv;have hvx : t.kind = 15 → t.kids ≠ [] := by
     unfold Z0q at hv;by_cases h30 : 30 < d + 1;·rw [if_pos h30] at hv; cases hv
     ·rw [if_neg h30] at hv;cases g with
      | zero => cases hv
      | succ g => exact Zap hv
    have HVX := lh hvx;have HQ3 := lh hq3;refine (Z09 w2.drew rb B us d _ _ R2.out.drew (by have := HP.out.deep; omega) hlt hv fun hd h1 w1 hR1 hs => HS.out g (by omega) w1 rb B (d + 1) us _ ⟨hR1, hd, hlt, by omega, hus⟩ h1).mono ?_;rintro e w3 ⟨a, rfl, hA, hR3, hF3⟩;have hF23 : RFr w2 w3 rb := hRF2.trans hF3;have hN3 := G2.out.rfr hlt hF23;have hblk := hN3.at'.blkOf;simp only [ATree.b, ATree.v, ATree.kind, ATree.text, ATree.n] at hblk;have m3 : w3.cell? ⟨nb, 3, none⟩ = some v := by simp [World.cell?, hblk]
    have mz : w3.frozen? ⟨nb, 3, none⟩ = false := by simp [World.frozen?, hblk]
    have hnb3 : nb < w3.heap.size := (Array.getElem?_eq_some_iff.1 hblk).1;have hnd := hN3.nodup;simp only [ATree.blocks, List.nodup_cons, List.mem_append, Option.mem_toList, not_or] at hnd;have hne : v.ownBlock ≠ some nb := hnd.1.1;have hkl : kids.length = acc.length := by
     have := hN3.tree;simp only [ATree.tree, Tree.mk.injEq, true_and] at this;rw [← this, Z2d, List.length_map]
    have hk4 : kids.length ≤ 4000 := by have := HP.out.few; omega
    have N3 := lh hN3;have A3 := lh hA;have R3 := lh hR3;have F3 := lh (F2.out.trans hF23);have NE := lh hne;have HKL := lh hkl;refine hK _ _ m3 ?_;obtain ⟨i0, hi, hz0, hz1, hz2⟩ := info_parts Tryz.infoPtr;clear hK K hA hR3 hF3 hF23 hN3 hblk hnd hne hvx hq3 hv hkl n3 hRF2;refine Z6 (fun K hK => ?_);go_simp
    refine hK _ _ ((Z7 hnb3).trans m3) ?_;clear hK K;refine Z6 (fun K hK => ?_);refine step_append_lies _ (by rfl) (.tmp 37) (.tmp 42) 42 (by rfl) B 22 i0 _ 1 8 Tryz.underlying42 hi hz0 hz1 hz2 rfl (by decide) v kids.length (kids.map ATree.ptr) (by rfl) (N3.out.at'.rowOf.alloc _) ⟨w3.heap.size, 0, none⟩ 1 1 [a.ptr] (by rfl) rfl (World.news_of_block (cs := #[a.ptr]) (t := 22) (fr := (0, 0)) (heap_alloc_new w3 _)) (by simp [ATree.ptr, Value.oneCell']) (by decide) (by unfold maxLen; omega) (by omega) (by simp; have := F3.out.size; have := HP.out.le; omega) (w3.heap.size + 1) (by simp) ?_
    intro gg cap w4 hown4 hgrow4 hat4 hlt4;have m4 : w4.cell? ⟨nb, 3, none⟩ = some v := (hgrow4.cell_far ⟨nb, 3, none⟩ (by simp; omega) (fun e => NE.out e.symm)).trans ((Z7 hnb3).trans m3);have mz4 : w4.frozen? ⟨nb, 3, none⟩ = false := (hgrow4.frozen_far ⟨nb, 3, none⟩ (by simp; omega) (fun e => NE.out e.symm)).trans ((Zu hnb3).trans mz);refine hK _ _ m4 ?_;clear hK K;simp only [Act.put, zA, zB, zC]
    have hfin := Got.push hlt HP.out.le N3.out (wA := w2.drew) (fun x hx => (G2.out.new x hx).2) A3.out F3.out R3.out ((Below.refl _ _).alloc (Nat.le_refl _) _) hgrow4 hown4 (by rcases hat4 with h | h; (exact .inl h); (exact .inr (by omega))) hlt4;have FIN := lh hfin;clear hgrow4 hown4 hat4 hlt4 hfin;refine Z5 ?_;go_wp2;go_roundw
    case rel =>
     refine ⟨g, acc ++ [t], vs, .slice (some ⟨gg, 0, none⟩) (kids.length + 1) cap, kids ++ [a], by omega, HQ3.out, ?_, FIN.out.2.2, FIN.out.2.1, by simp; omega, fun x hx => ?_⟩
     ·have h1 := FIN.out.1;have h2 := G2.out.tree;simp only [ATree.tree, Tree.mk.injEq, true_and] at h2;rw [h2] at h1;exact h1
     ·rcases List.mem_append.1 hx with hx | hx;·exact HX.out x hx
      ·simp only [List.mem_singleton] at hx; subst hx; exact HVX.out
    case measure =>
     rw [FIN.out.2.2.left, RL.out];exact hvl
def Z0s (w : World) (B : Nat) (v : Value) (l : List ATree) : Prop := w.ownsRow B 22 1 v l.length (l.map ATree.ptr)
theorem Z0s.nil (w : World) (B : Nat) : Z0s w B (.slice none 0 0) [] := World.ownsRow_nil w B _ _
theorem Z0s.bel {w w' : World} {B : Nat} {v : Value} {l : List ATree} (h : Z0s w B v l) (g : Below w.heap.size w w') : Z0s w' B v l :=
 Zl h fun k hk => g.block k (World.ownsRow.lt h k hk).2
theorem Z0s.form {w : World} {B : Nat} {v : Value} {l : List ATree} (h : Z0s w B v l) : (v = .slice none 0 0 ∧ l = []) ∨ ∃ g cap, v = .slice (some ⟨g, 0, none⟩) l.length cap ∧ l.length ≤ cap ∧ cap ≤ maxLen := by
 rcases Zc h with ⟨h1, h2⟩ | ⟨g, cap, h1, h2, h3, _⟩;·exact .inl ⟨h1, List.eq_nil_of_length_eq_zero h2⟩
 ·exact .inr ⟨g, cap, h1, h2, h3⟩
theorem Z0s.cell {w : World} {B : Nat} {v : Value} {l : List ATree} (h : Z0s w B v l) {b : Nat} (hb : v.ownBlock = some b) {j : Nat} {x : ATree} (hs : l[j]? = some x) : w.cell? ⟨b, j, none⟩ = some (.pointer (some ⟨x.b, 0, none⟩)) :=
 Zo h hb (by rw [List.getElem?_map, hs]; rfl)
def Z1o (a : ATree) : Bool := a.kind == 5
def Z26 (a : ATree) : Bool := a.kind == 3 || a.kind == 4
theorem Z8z {p : ATree → Bool} {l : List ATree} {k : Nat} {x : ATree} (h : l[k]? = some x) : (l.take (k + 1)).filter p = if p x then (l.take k).filter p ++ [x] else (l.take k).filter p := by
 rw [Z0c h, List.filter_append];by_cases hp : p x <;> simp [hp]
theorem Zb0 (w : World) (B0 : Nat) (a : ATree) (hT : TreeAt w B0 a) (hn : a.kids.length < 1099511627776) :
 Calls Tryz.prog 36 #[a.ptr] w fun e w' => ∃ v, e = .returned v ∧ Z0s w' w.heap.size v (a.kids.filter Z1o) ∧ Below w.heap.size w w' := by
 obtain ⟨i0, hi, hz0, hz1, hz2⟩ := info_parts Tryz.infoPtr;have hblk := hT.blkOf;have hrow := hT.rowOf;obtain ⟨p, cp, hv, hge⟩ : ∃ p cp, a.v = .slice p a.kids.length cp ∧ a.kids.length ≤ cp := by
  rcases Zc hrow with ⟨h1, h2⟩ | ⟨g0, cap0, h1, h2, _⟩;·exact ⟨none, 0, by rw [h1, h2], by omega⟩
  ·exact ⟨_, _, h1, h2⟩
 have c3 : w.cell? ⟨a.b, 3, none⟩ = some (.slice p a.kids.length cp) := by rw [← hv]; simp [World.cell?, hblk]
 have hlen : a.kids.length ≤ 9223372036854775807 := by omega
 have HT := lh hT;have HV := lh hv;unfold ATree.ptr;obtain ⟨n, hnn⟩ : ∃ n, n = a.kids.length := ⟨_, rfl⟩
 rw [← hnn] at c3 hlen hn hge;have HN := lh hnn;clear hblk hrow hv hnn hT;go_enter Tryz.func36, Tryz.ntmps36
 go_wp2_with fail
 go_loopw [3, 13] (fun v i wr => ∃ (k : Nat) (v' : Value), v' = v ∧ k ≤ n ∧ i = .int .i64 k ∧ Hid (Z0s wr w.heap.size v' ((a.kids.take k).filter Z1o)) ∧ Hid (Below w.heap.size w wr)) (fun _ i _ => n - (intOf i).toNat)
 case atStart => exact ⟨0, _, rfl, Nat.zero_le _, rfl, lh (Z0s.nil _ _), lh (Below.refl _ _)⟩
 case round =>
  obtain ⟨k, v, rfl, hk, rfl, HR, HB⟩ := hrel;by_cases hkn : k < n
  ·obtain ⟨x, hx⟩ : ∃ x, a.kids[k]? = some x := ⟨_, List.getElem?_eq_getElem (by rw [← HN.out]; exact hkn)⟩
   have hT2 := HT.out.bel HB.out;have hrow := hT2.rowOf;rcases Zc hrow with ⟨_, h2⟩ | ⟨g0, cap0, hv0, _⟩;·rw [← HN.out] at h2; omega
   have hp : p = some ⟨g0, 0, none⟩ := by
    have := HV.out.symm.trans hv0;simp only [Value.slice.injEq] at this;exact this.1
   subst hp;have cx := Zo hrow (g := g0) (by rw [hv0]; rfl) (i := k) (x := x.ptr) (by rw [List.getElem?_map, hx]; rfl);unfold ATree.ptr at cx;have hTx := hT2.kid (List.mem_of_getElem? hx);have ck : wr.cell? ⟨x.b, 0, none⟩ = some (.int .i64 x.kind) := by simp [World.cell?, hTx.blkOf]
   have hfs : (a.kids.take (k + 1)).filter Z1o = _ := Z8z (p := Z1o) hx;have HF := lh hfs;have hll : ((a.kids.take k).filter Z1o).length ≤ k := Nat.le_trans (List.length_filter_le _ _) (by simp; omega);have hsz := HB.out.size;clear hT2 hrow hv0 hTx hfs;obtain ⟨kd, hkd⟩ : ∃ kd, kd = x.kind := ⟨_, rfl⟩
   rw [← hkd] at ck;have HKD := lh hkd;clear hkd hx;rcases (by omega : kd = 5 ∨ kd ≠ 5) with h5 | h5
   ·subst h5;obtain ⟨L, hL⟩ : ∃ L, L = (a.kids.take k).filter Z1o := ⟨_, rfl⟩
    rw [← hL] at hll HF HR;have HL := lh hL;unfold Z0s at HR;clear hL
    go_wp2_with (at_builtin; go_must (refine wpList_append_lies _ rfl (.tmp 22) (.tmp 24) 42 rfl w.heap.size 22 i0 (.pointer none) 1 8 Tryz.underlying42 hi hz0 hz1 hz2 rfl (by decide) v L.length (L.map ATree.ptr) rfl (HR.out.alloc _) ⟨wr.heap.size, 0, none⟩ 1 1 [.pointer (some ⟨x.b, 0, none⟩)] rfl rfl (fun j u hu => cell_one_new wr _ _ j u hu) (by intro u hu; simp at hu; subst hu; rfl) (by first | omega | (simp; omega)) (by unfold maxLen; omega) (by first | omega | (simp; omega)) (by first | omega | (simp; omega)) (wr.heap.size + 1) (by simp) ?_); intro g cap w2 hown2 hgrow2 hat2 hgl2; have HG := lh hgrow2; have HW := lh hown2; have HT2 := lh hat2; clear hgrow2 hown2 hat2 hgl2)
    go_roundw
    case rel =>
     refine ⟨k + 1, _, rfl, by omega, by go_num, lh ?_, lh ?_⟩
     ·rw [HF.out, if_pos (by simp [Z1o, ← HKD.out])];unfold Z0s;rw [List.length_append, List.map_append];exact HW.out
     ·exact (HB.out.alloc hsz _).grown HG.out (by simp; omega) fun j hj => (World.ownsRow.lt HR.out j hj).1
    case measure => simp [intOf]; omega
   ·have n5 : (kd == 5) = false := by simpa using h5
    clear h5;go_wp2;go_roundw
    case rel =>
     refine ⟨k + 1, _, rfl, by omega, by go_num, lh ?_, HB⟩;rw [HF.out, if_neg (by simp [Z1o, ← HKD.out, n5])];exact HR.out
    case measure => simp [intOf]; omega
  ·have hk2 : k = n := by omega
   subst hk2;go_wp2;go_ret;refine ⟨_, rfl, ?_, HB.out⟩;have := HR.out;rwa [List.take_of_length_le (by rw [← HN.out]; exact Nat.le_refl _)] at this
theorem Za4 (w : World) (B0 : Nat) (a : ATree) (hT : TreeAt w B0 a) (hn : a.kids.length < 1099511627776) :
 Calls Tryz.prog 13 #[a.ptr] w fun e w' => ∃ v, e = .returned v ∧ Z0s w' w.heap.size v (a.kids.filter Z26) ∧ Below w.heap.size w w' := by
 obtain ⟨i0, hi, hz0, hz1, hz2⟩ := info_parts Tryz.infoPtr;have hblk := hT.blkOf;have hrow := hT.rowOf;obtain ⟨p, cp, hv, hge⟩ : ∃ p cp, a.v = .slice p a.kids.length cp ∧ a.kids.length ≤ cp := by
  rcases Zc hrow with ⟨h1, h2⟩ | ⟨g0, cap0, h1, h2, _⟩;·exact ⟨none, 0, by rw [h1, h2], by omega⟩
  ·exact ⟨_, _, h1, h2⟩
 have c3 : w.cell? ⟨a.b, 3, none⟩ = some (.slice p a.kids.length cp) := by rw [← hv]; simp [World.cell?, hblk]
 have hlen : a.kids.length ≤ 9223372036854775807 := by omega
 have HT := lh hT;have HV := lh hv;unfold ATree.ptr;obtain ⟨n, hnn⟩ : ∃ n, n = a.kids.length := ⟨_, rfl⟩
 rw [← hnn] at c3 hlen hn hge;have HN := lh hnn;clear hblk hrow hv hnn hT;go_enter Tryz.func13, Tryz.ntmps13
 go_wp2_with fail
 go_loopw [3, 13] (fun v i wr => ∃ (k : Nat) (v' : Value), v' = v ∧ k ≤ n ∧ i = .int .i64 k ∧ Hid (Z0s wr w.heap.size v' ((a.kids.take k).filter Z26)) ∧ Hid (Below w.heap.size w wr)) (fun _ i _ => n - (intOf i).toNat)
 case atStart => exact ⟨0, _, rfl, Nat.zero_le _, rfl, lh (Z0s.nil _ _), lh (Below.refl _ _)⟩
 case round =>
  obtain ⟨k, v, rfl, hk, rfl, HR, HB⟩ := hrel;by_cases hkn : k < n
  ·obtain ⟨x, hx⟩ : ∃ x, a.kids[k]? = some x := ⟨_, List.getElem?_eq_getElem (by rw [← HN.out]; exact hkn)⟩
   have hT2 := HT.out.bel HB.out;have hrow := hT2.rowOf;rcases Zc hrow with ⟨_, h2⟩ | ⟨g0, cap0, hv0, _⟩;·rw [← HN.out] at h2; omega
   have hp : p = some ⟨g0, 0, none⟩ := by
    have := HV.out.symm.trans hv0;simp only [Value.slice.injEq] at this;exact this.1
   subst hp;have cx := Zo hrow (g := g0) (by rw [hv0]; rfl) (i := k) (x := x.ptr) (by rw [List.getElem?_map, hx]; rfl);unfold ATree.ptr at cx;have hTx := hT2.kid (List.mem_of_getElem? hx);have ck : wr.cell? ⟨x.b, 0, none⟩ = some (.int .i64 x.kind) := by simp [World.cell?, hTx.blkOf]
   have hfs : (a.kids.take (k + 1)).filter Z26 = _ := Z8z (p := Z26) hx;have HF := lh hfs;have hll : ((a.kids.take k).filter Z26).length ≤ k := Nat.le_trans (List.length_filter_le _ _) (by simp; omega);have hsz := HB.out.size;clear hT2 hrow hv0 hTx hfs;obtain ⟨kd, hkd⟩ : ∃ kd, kd = x.kind := ⟨_, rfl⟩
   rw [← hkd] at ck;have HKD := lh hkd;clear hkd hx;rcases (by omega : kd = 3 ∨ kd = 4 ∨ (kd ≠ 3 ∧ kd ≠ 4)) with h3 | h3 | ⟨h3, h4⟩
   ·subst h3;obtain ⟨L, hL⟩ : ∃ L, L = (a.kids.take k).filter Z26 := ⟨_, rfl⟩
    rw [← hL] at hll HF HR;have HL := lh hL;unfold Z0s at HR;clear hL
    go_wp2_with (at_builtin; go_must (refine wpList_append_lies _ rfl (.tmp 29) (.tmp 31) 42 rfl w.heap.size 22 i0 (.pointer none) 1 8 Tryz.underlying42 hi hz0 hz1 hz2 rfl (by decide) v L.length (L.map ATree.ptr) rfl (HR.out.alloc _) ⟨wr.heap.size, 0, none⟩ 1 1 [.pointer (some ⟨x.b, 0, none⟩)] rfl rfl (fun j u hu => cell_one_new wr _ _ j u hu) (by intro u hu; simp at hu; subst hu; rfl) (by first | omega | (simp; omega)) (by unfold maxLen; omega) (by first | omega | (simp; omega)) (by first | omega | (simp; omega)) (wr.heap.size + 1) (by simp) ?_); intro g cap w2 hown2 hgrow2 hat2 hgl2; have HG := lh hgrow2; have HW := lh hown2; have HT2 := lh hat2; clear hgrow2 hown2 hat2 hgl2)
    go_roundw
    case rel =>
     refine ⟨k + 1, _, rfl, by omega, by go_num, lh ?_, lh ?_⟩
     ·rw [HF.out, if_pos (by simp [Z26, ← HKD.out])];unfold Z0s;rw [List.length_append, List.map_append];exact HW.out
     ·exact (HB.out.alloc hsz _).grown HG.out (by simp; omega) fun j hj => (World.ownsRow.lt HR.out j hj).1
    case measure => simp [intOf]; omega
   ·subst h3;obtain ⟨L, hL⟩ : ∃ L, L = (a.kids.take k).filter Z26 := ⟨_, rfl⟩
    rw [← hL] at hll HF HR;have HL := lh hL;unfold Z0s at HR;clear hL
    go_wp2_with (at_builtin; go_must (refine wpList_append_lies _ rfl (.tmp 29) (.tmp 31) 42 rfl w.heap.size 22 i0 (.pointer none) 1 8 Tryz.underlying42 hi hz0 hz1 hz2 rfl (by decide) v L.length (L.map ATree.ptr) rfl (HR.out.alloc _) ⟨wr.heap.size, 0, none⟩ 1 1 [.pointer (some ⟨x.b, 0, none⟩)] rfl rfl (fun j u hu => cell_one_new wr _ _ j u hu) (by intro u hu; simp at hu; subst hu; rfl) (by first | omega | (simp; omega)) (by unfold maxLen; omega) (by first | omega | (simp; omega)) (by first | omega | (simp; omega)) (wr.heap.size + 1) (by simp) ?_); intro g cap w2 hown2 hgrow2 hat2 hgl2; have HG := lh hgrow2; have HW := lh hown2; have HT2 := lh hat2; clear hgrow2 hown2 hat2 hgl2)
    go_roundw
    case rel =>
     refine ⟨k + 1, _, rfl, by omega, by go_num, lh ?_, lh ?_⟩
     ·rw [HF.out, if_pos (by simp [Z26, ← HKD.out])];unfold Z0s;rw [List.length_append, List.map_append];exact HW.out
     ·exact (HB.out.alloc hsz _).grown HG.out (by simp; omega) fun j hj => (World.ownsRow.lt HR.out j hj).1
    case measure => simp [intOf]; omega
   ·have n3 : (kd == 3) = false := by simpa using h3
    have n4 : (kd == 4) = false := by simpa using h4
    clear h3 h4;go_wp2;go_roundw
    case rel =>
     refine ⟨k + 1, _, rfl, by omega, by go_num, lh ?_, HB⟩;rw [HF.out, if_neg (by simp [Z26, ← HKD.out, n3, n4])];exact HR.out
    case measure => simp [intOf]; omega
  ·have hk2 : k = n := by omega
   subst hk2;go_wp2;go_ret;refine ⟨_, rfl, ?_, HB.out⟩;have := HR.out;rwa [List.take_of_length_le (by rw [← HN.out]; exact Nat.le_refl _)] at this
def Z0m (a : ATree) : Bool := a.kind == 5 || a.kind == 37
theorem TreeAt.c0 {w : World} {B : Nat} {a : ATree} (h : TreeAt w B a) : w.cell? ⟨a.b, 0, none⟩ = some (.int .i64 a.kind) := by simp [World.cell?, h.blkOf]
theorem TreeAt.c1 {w : World} {B : Nat} {a : ATree} (h : TreeAt w B a) : w.cell? ⟨a.b, 1, none⟩ = some (.string a.text) := by simp [World.cell?, h.blkOf]
theorem TreeAt.c3 {w : World} {B : Nat} {a : ATree} (h : TreeAt w B a) : w.cell? ⟨a.b, 3, none⟩ = some a.v := by simp [World.cell?, h.blkOf]
theorem TreeAt.vOf {w : World} {B : Nat} {a : ATree} (h : TreeAt w B a) : ∃ p cp, a.v = .slice p a.kids.length cp ∧ a.kids.length ≤ cp ∧ cp ≤ maxLen := by
 rcases Zc h.rowOf with ⟨h1, h2⟩ | ⟨g0, cap0, h1, h2, h3, _⟩;·exact ⟨none, 0, by rw [h1, h2], by omega, by unfold maxLen; omega⟩
 ·exact ⟨_, _, h1, h2, h3⟩
theorem Zaq (w : World) (B : Nat) (a : ATree) (hT : TreeAt w B a) :
 Calls Tryz.prog 72 #[a.ptr] w fun e w' => e = .returned (.bool (Z0m a)) ∧ w' = w := by
 have c0 := hT.c0;unfold Z0m ATree.ptr;obtain ⟨kd, hkd⟩ : ∃ kd, kd = a.kind := ⟨_, rfl⟩
 rw [← hkd] at c0 ⊢;clear hkd hT;rcases (by omega : kd = 5 ∨ kd = 37 ∨ (kd ≠ 5 ∧ kd ≠ 37)) with h3 | h3 | ⟨h3, h4⟩
 ·subst h3;go_enter Tryz.func72, Tryz.ntmps72
  go_wp2;go_ret;exact ⟨rfl, rfl⟩
 ·subst h3;go_enter Tryz.func72, Tryz.ntmps72
  go_wp2;go_ret;exact ⟨rfl, rfl⟩
 ·have n3 : (kd == 5) = false := by simpa using h3
  have n4 : (kd == 37) = false := by simpa using h4
  clear h3 h4;rw [n3, n4];go_enter Tryz.func72, Tryz.ntmps72
  go_wp2;go_ret;exact ⟨rfl, rfl⟩
theorem Zy.slice {w : World} {B : Nat} {v : Value} {l : List ByteArray} (h : Zy w B v l) : ∃ p n c, v = .slice p n c := by
 rcases h.form with ⟨h, _⟩ | ⟨g, cap, h, _⟩;·exact ⟨_, _, _, h⟩
 ·exact ⟨_, _, _, h⟩
def Z2g (l : List ByteArray) (a : ATree) : Bool × List ByteArray := (!Z0m a, if a.kind == 2 then addL l a.text else l)
theorem Zbe : ∀ (l T : List ByteArray), l.Nodup → (∀ x ∈ l, x ∈ T) → l.length ≤ T.length := by
 intro l;induction l with
 | nil => intro T _ _; simp
 | cons a l ih =>
   intro T hd hs;obtain ⟨h1, h2⟩ := List.nodup_cons.1 hd;have ha := hs a (by simp);have := ih (T.eraseP (fun x => decide (x = a))) h2 (fun x hx => (List.mem_eraseP_of_neg (by simp only [decide_eq_true_eq]; exact fun e => h1 (by rw [← e]; exact hx))).2 (hs x (List.mem_cons_of_mem _ hx)));have h3 := List.length_eraseP_of_mem (p := fun x => decide (x = a)) ha (by simp);have h4 := List.length_pos_of_mem ha;simp only [List.length_cons];omega
theorem Ze4 {l : List ByteArray} {s : ByteArray} (h : l.Nodup) : (addL l s).Nodup := by
 unfold addL;by_cases hc : Lib.containsS l s = true;·rw [if_pos hc]; exact h
 ·rw [if_neg hc];rw [Lib.containsS_iff] at hc;rw [List.nodup_append];exact ⟨h, by simp, fun a ha b hb e => hc (by simp at hb; rw [← hb, ← e]; exact ha)⟩
theorem Zgs {l : List ByteArray} {s x : ByteArray} (h : x ∈ addL l s) : x ∈ l ∨ x = s := by
 unfold addL at h;split at h;·exact .inl h
 ·simpa using h
structure VInv (w0 : World) (c : Nat) (T : List ByteArray) (l : List ByteArray) (w : World) : Prop where
 cell : ∃ v, w.heap[c]? = some (.cells #[v] 25 (0, 0)) ∧ Zy w (c + 1) v l
 bel : Below c w0 w
 nd : l.Nodup
 sub : ∀ s ∈ l, s ∈ T
section
variable {w0 w : World} {c B : Nat} {T l : List ByteArray} {a : ATree}
theorem VInv.lt (h : VInv w0 c T l w) : c < w.heap.size := by obtain ⟨v, hb, _⟩ := h.cell; exact (Array.getElem?_eq_some_iff.1 hb).1
theorem VInv.tree (h : VInv w0 c T l w) (hT : TreeAt w0 B a) (hc : w0.heap.size ≤ c) : TreeAt w B a := hT.keep fun k _ hk => h.bel.block k (by omega)
theorem VInv.drew (h : VInv w0 c T l w) : VInv w0 c T l w.drew := ⟨h.cell, h.bel.drew, h.nd, h.sub⟩
theorem VInv.add {w1 : World} {v' : Value} {s : ByteArray} (h : VInv w0 c T l w) (hs : s ∈ T) (hB : Below (c + 1) w w1) (ht : Zy w1 (c + 1) v' (addL l s)) : VInv w0 c T (addL l s) (w1.setCell ⟨c, 0, none⟩ v') := by
 obtain ⟨v, hb, _⟩ := h.cell;have hb1 : w1.heap[c]? = some (.cells #[v] 25 (0, 0)) := (hB.block c (by omega)).trans hb;refine ⟨⟨v', Zn (o := 0) v' hb1, ?_⟩, ?_, Ze4 h.nd, fun x hx => (Zgs hx).elim (h.sub x) (fun e => by rw [e]; exact hs)⟩;·exact Zl ht fun k hk => Below.heap_setCell _ _ _ _ (by have := (World.ownsRow.lt ht k hk).1; simp only; omega)
 ·exact (h.bel.trans (hB.mono (by omega))).setCell (p := ⟨c, 0, none⟩) (Nat.le_refl _) _
end
theorem Zfd (w0 : World) (c B : Nat) (T : List ByteArray) (hT : T.length < 1099511627776) (hc : w0.heap.size ≤ c) (x : ATree) (hx : TreeAt w0 B x) (hxT : x.text ∈ T) (l : List ByteArray) (w : World) (hI : VInv w0 c T l w) :
 Calls Tryz.prog 71 #[x.ptr, .pointer (some ⟨c, 0, none⟩)] w fun e w' => e = .returned (.bool (Z2g l x).1) ∧ VInv w0 c T (Z2g l x).2 w' := by
 have hxw := hI.tree hx hc;have c0 := hxw.c0;have c1 := hxw.c1;have HX := lh hx;have HI := lh hI;have HC := lh hc;have hsz := hI.lt;obtain ⟨v, hb, htx⟩ := hI.cell;have cc : w.cell? ⟨c, 0, none⟩ = some v := by simp [World.cell?, hb]
 have cz : w.frozen? ⟨c, 0, none⟩ = false := by simp [World.frozen?, hb]
 have HTX := lh htx;have hlen := Nat.lt_of_le_of_lt (Zbe l T hI.nd hI.sub) hT;have HL := lh hlen;have HXT := lh hxT;clear hxw hx hI hc hb htx hlen hxT hT;unfold Z2g ATree.ptr;obtain ⟨tx, htx⟩ : ∃ tx, tx = x.text := ⟨_, rfl⟩
 rw [← htx] at c1 HXT ⊢;clear htx;obtain ⟨kd, hkd⟩ : ∃ kd, kd = x.kind := ⟨_, rfl⟩
 rw [← hkd] at c0 ⊢;clear hkd;rcases (by omega : kd = 2 ∨ kd ≠ 2) with h2 | h2
 ·subst h2;go_enter Tryz.func71, Tryz.ntmps71
  go_wp2_with fail
  refine Z0 [(true, 0), (true, 1), (true, 2), (true, 3), (true, 4)] [5, 6] (fun W => W.cell? ⟨c, 0, none⟩ = some v ∧ W.cell? ⟨x.b, 1, none⟩ = some (.string tx)) (by kernel_rfl) (by kernel_rfl) (fun _ _ d _ _ h => by cases d <;> exact h) ⟨cc, c1⟩ (fun hS0 => ?_);simp only [Za, List.filterMap_cons, List.filterMap_nil, List.getElem?_toArray, List.getElem?_cons_zero, List.getElem?_cons_succ, Option.map_some]
  iterate 5
   first
    | (refine Z2 ?_ (by rfl) (fun w' hS' => ?_) ?_; rotate_left; (obtain ⟨s0, s1⟩ := hS'; go_simp; first | done | with_reducible rfl); simp only [Act.put, zA, zB, zC])
    | (refine Z1 (by rfl) ?_; simp only [Act.put, zA, zB, zC])
  refine Z5 ?_;have HA := (Zib w.drew (c + 1) v l tx HTX.out hsz HL.out)
  go_wp2_with fail
  refine HA.mono ?_;rintro e w1 ⟨v1, rfl, ht1, hb1⟩;obtain ⟨vp, vn, vc, rfl⟩ := ht1.slice;have hI1 := HI.out.drew.add HXT.out hb1 ht1;have H1 := lh hI1;have hcz : w1.frozen? ⟨c, 0, none⟩ = false := (World.frozen?_of_block (hb1.block c (by omega))).trans cz;have hcs : ∃ v, w1.cell? ⟨c, 0, none⟩ = some v := ⟨v, (World.cell?_of_block (hb1.block c (by omega))).trans cc⟩
  obtain ⟨v2, hcs⟩ := hcs;have HIN := Zaq _ B x (hI1.tree HX.out HC.out);unfold ATree.ptr at HIN;have HIN := lh HIN;clear hI1 HA hb1 ht1;go_wp2_with fail
  refine HIN.out.mono ?_;rintro e w3 ⟨rfl, rfl⟩;go_wp2;go_ret;exact ⟨rfl, H1.out⟩
 ·have n2 : (kd == 2) = false := by simpa using h2
  rw [n2];clear h2;have HIN := Zaq w B x (HI.out.tree HX.out HC.out);unfold ATree.ptr at HIN;have HIN := lh HIN;go_enter Tryz.func71, Tryz.ntmps71
  go_wp2_with fail
  refine HIN.out.mono ?_;rintro e w3 ⟨rfl, rfl⟩;go_wp2;go_ret;exact ⟨rfl, HI.out⟩
end Go.Proofs.YtgmnfgljkocnpaaGreatDoor
