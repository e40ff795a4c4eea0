/- Package tree: function. -/
import Derived.Test.YtgmnfgljkocnpaaGreatDoorJ01
import Derived.Test.YtgmnfgljkocnpaaGreatDoorJ16
import Derived.Test.YtgmnfgljkocnpaaGreatDoorJ09
namespace Go.Proofs.YtgmnfgljkocnpaaGreatDoor
open Go Go.RowKit
set_option maxRecDepth 100000
set_option maxHeartbeats 20000000
set_option linter.unusedVariables false
def Zf8 (f d : Nat) (kind : Int) (text : ByteArray) (p : Tree) (ts : List Tok) : PR := Z0u Z06 ts fun ts => Zx (Z4 f (.block true) d ts) fun b ts => okT (.mk kind text 0 [p, b]) ts
theorem Z89 {ts : List Tok} {k : ByteArray → List Tok → PR} {kk : Tree → List Tok → PR} {r : Except (Int × Nat) (Tree × List Tok)} (h : Zx (Z3b ts k) kk = some r) : ((hdT ts).kind = 1 ∧ Zx (k (hdT ts).text ts.tail) kk = some r) ∨ ((hdT ts).kind ≠ 1 ∧ r = .error (3, (hdT ts).at')) := by
 unfold Z3b at h;by_cases hk : (hdT ts).kind = 1;·rw [if_pos hk] at h; exact .inl ⟨hk, h⟩
 ·rw [if_neg hk] at h; exact .inr ⟨hk, (Option.some.inj h).symm⟩
theorem Z6s {ts : List Tok} (h : (hdT ts).kind = 1) : 0 < ts.length := by
 cases ts with
 | nil => simp [hdT] at h
 | cons t l => simp
def Zgm (g f d : Nat) (kind : Int) (text : ByteArray) (acc : List Tree) (us : List Tok) : PR := Zx (if acc.length = 8 then Z2m 4 us else Z3b us fun s ts => Z4 g (.params (acc ++ [.mk 23 s 0 []])) d ts) (Zf8 f d kind text)
theorem Zel (F : Nat) (kind : Int) (text : ByteArray) (hB : Says 84 (fun rb => #[.pointer (some ⟨rb, 0, none⟩), .bool true]) (.block true) F) :
 Says 88 (fun rb => #[.pointer (some ⟨rb, 0, none⟩), .int .i64 kind, .string text]) (.func kind text) (F + 1) := by
 intro w rb B d ts r hP hp;have hw : Z0u Z05 ts (fun ts => Zx (Z4 F (.params []) d ts) (Zf8 F d kind text)) = some r := hp;have HP := lh hP;have HBL := lh hB;simp only;rcases Z1r hw with ⟨hs, h1⟩ | ⟨hs, rfl⟩
 ·have HC := lh (Z1t w rb ts d Z05 hP.rd hs);have H1 := lh h1;clear hP hp hw hs h1 hB;go_enter Tryz.func88, Tryz.ntmps88
  go_wp2_with fail
  refine HC.out.mono ?_;rintro e w1 ⟨rfl, hR1, hF1⟩;have P1 := lh (HP.out.tail hR1 hF1);have HN := lh (Z0g w1 rb 40 ⟨#[]⟩ none 0 0);obtain ⟨nb, hnb⟩ : ∃ b, b = w1.heap.size := ⟨_, rfl⟩
  have G0 := Got.leaf (k := 40) (t := ⟨#[]⟩) (n := 0) HP.out.le hF1;have hal : Below w1.heap.size w1 (w1.alloc (.cells #[.int .i64 40, .string ⟨#[]⟩, .int .i64 0, .slice none 0 0] 44)) := (Below.refl _ _).alloc (Nat.le_refl _) _;have R0 := hR1.below hal;have F0 := hF1.trans (RFr.below (rb := rb) hal);rw [← hnb] at G0 HN;obtain ⟨us0, hus0⟩ : ∃ us, us = ts.tail := ⟨_, rfl⟩
  have hul : us0.length ≤ ts.length := by rw [hus0]; simp
  rw [← hus0] at R0 H1;clear hus0;go_wp2_with fail
  refine HN.out.mono ?_;rintro e w2 ⟨rfl, hw2⟩;rw [← hw2] at G0 R0 F0;have hst : ∃ (g : Nat) (acc : List Tree) (us : List Tok) (v : Value) (kids : List ATree), g ≤ F ∧ Zx (Z4 g (.params acc) d us) (Zf8 F d kind text) = some r ∧ Got w B w2 (.mk nb v 40 ⟨#[]⟩ 0 kids) (.mk 40 ⟨#[]⟩ 0 acc) ∧ Rd w2 rb us d ∧ RFr w w2 rb ∧ acc.length ≤ 8 ∧ us.length ≤ ts.length :=
   ⟨F, [], us0, _, [], Nat.le_refl _, H1.out, G0, R0, F0, by simp, hul⟩
  have ST := lh hst;have HNB := lh hnb;clear hst hw2 G0 R0 F0 HC HN hnb hF1 hR1 P1 H1 hal hul;go_wp2_with fail
  go_loopw [] (fun wr => ∃ (g : Nat) (acc : List Tree) (us : List Tok) (v : Value) (kids : List ATree), g ≤ F ∧ Zx (Z4 g (.params acc) d us) (Zf8 F d kind text) = some r ∧ Got w B wr (.mk nb v 40 ⟨#[]⟩ 0 kids) (.mk 40 ⟨#[]⟩ 0 acc) ∧ Rd wr rb us d ∧ RFr w wr rb ∧ acc.length ≤ 8 ∧ us.length ≤ ts.length) (fun wr => leftOf wr rb)
  case atStart => exact ST.out
  case round =>
   obtain ⟨g, acc, us, v, kids, hg, hq, hG, hR, hF, hl, hu⟩ := hrel;have G := lh hG;have R := lh hR;have FF := lh hF;have RL := lh hR.left;cases g with
   | zero => cases hq
   | succ g =>
   rw [Z4] at hq;have HB := Z40 wr rb us d Z06 hR;by_cases hb : isT Z06 us = true
   ·rw [hb] at HB;rw [if_pos hb] at hq;have hq : Zf8 F d kind text (.mk 40 ByteArray.empty 0 acc) us = some r := hq;have HB := lh HB;have HQ := lh hq;have HI := lh hb;unfold Z06 at HB;clear hG hR hF hq hb ST;go_wp2_with fail
    refine HB.out.mono ?_;rintro e w3 ⟨rfl, hB3⟩;have hlt := HP.out.lt;have F3 := FF.out.trans (RFr.below (rb := rb) hB3);have G3 := G.out.rfr hlt (RFr.below (rb := rb) hB3);have R3 := R.out.below hB3;have P3 : Pre w3 rb B d us := ⟨R3, HP.out.deep, hlt, Nat.le_trans HP.out.le F3.size, Nat.le_trans hu HP.out.few⟩
    have HC := Z1t w3 rb us d Z06 R3 HI.out;unfold Z06 at HC;have HC := lh HC;have F3 := lh F3;have G3 := lh G3;have P3 := lh P3;obtain ⟨_, h3⟩ : isT Z06 us = true ∧ Zx (Z4 F (.block true) d us.tail) (fun b ts => okT (.mk kind text 0 [.mk 40 ByteArray.empty 0 acc, b]) ts) = some r := by
     rcases Z1r HQ.out with h | ⟨hs, _⟩;·exact h
     ·rw [HI.out] at hs; cases hs
    have H3 := lh h3;clear hB3 R3 h3 FF G R HB HQ;go_wp2_with fail
    refine HC.out.mono ?_;rintro e w4 ⟨rfl, hR4, hF4⟩;have P4 := lh (P3.out.tail hR4 hF4);have F4 := lh (F3.out.trans hF4);have G4 := lh (G3.out.rfr hlt hF4);clear hR4 hF4 HC F3 G3;rcases Zr H3.out with ⟨⟨c, p⟩, hv, rfl⟩ | ⟨t, ts2, hv, h4⟩
    ·have HV := lh (HBL.out w4 rb B d _ _ P4.out hv);clear hv;go_wp2_with fail
     refine HV.out.mono ?_;rintro e w5 ⟨⟨b, rfl, h1, h2⟩, hF⟩;exact ⟨rfl, Z07.pre F4.out (r := .error (c, p)) ⟨⟨b, rfl, h1, h2⟩, hF⟩⟩
    ·have HV := lh (HBL.out w4 rb B d _ _ P4.out hv);obtain rfl := Option.some.inj h4;clear hv;go_wp2_with fail
     refine HV.out.mono ?_;rintro e w5 ⟨a, rfl, hG5, hR5, hF5⟩;have G5 := lh hG5;have R5 := lh hR5;have F5 := lh hF5;clear hG5 hR5 hF5 HV;have HN := lh (Z0g (w5.alloc (.cells #[.pointer (some ⟨nb, 0, none⟩), .pointer (some ⟨a.b, 0, none⟩)] 22)) rb kind text (some ⟨w5.heap.size, 0, none⟩) 2 2);go_wp2_with fail
     refine HN.out.mono ?_;rintro e w6 ⟨rfl, hw6⟩;have hfin := Got.two (k := kind) (t := text) HP.out.le (F4.out.trans F5.out) (G4.out.rfr hlt F5.out) (wA := w4) (fun x hx => (G4.out.new x hx).2) F4.out.size G5.out;have hal6 := ((Below.refl w5.heap.size w5).alloc (Nat.le_refl _) (.cells #[.pointer (some ⟨nb, 0, none⟩), .pointer (some ⟨a.b, 0, none⟩)] 22))
     have hR6 : Rd w6 rb ts2 d := by rw [hw6]; exact (R5.out.below hal6).below ((Below.refl _ _).alloc (Nat.le_refl _) _)
     have hF6 : RFr w w6 rb := by rw [hw6]; exact ((F4.out.trans F5.out).trans (RFr.below hal6)).trans (RFr.below ((Below.refl _ _).alloc (Nat.le_refl _) _))
     have FIN := lh hfin;have HW6 := lh hw6;have R6 := lh hR6;have F6 := lh hF6;clear hfin hw6 hR6 hF6 hal6 HN;go_wp2;go_ret;refine ⟨_, ?pt, (by rw [HW6.out]; exact FIN.out), R6.out, F6.out⟩;case pt => simp [ATree.b]
   ·have hb' : isT Z06 us = false := by simpa using hb
    rw [hb'] at HB;rw [if_neg hb] at hq;have HB := lh HB;have HQ := lh hq;unfold Z06 at HB;have hkl : kids.length = acc.length := by
     have := hG.tree;simp only [ATree.tree, Tree.mk.injEq, true_and] at this;rw [← this, Z2d, List.length_map]
    have HKL := lh hkl;clear hG hR hF hq hb hb' ST hkl;go_wp2_with fail
    refine HB.out.mono ?_;rintro e w3 ⟨rfl, hB3⟩;have hlt := HP.out.lt;have F3 := FF.out.trans (RFr.below (rb := rb) hB3);have G3 := G.out.rfr hlt (RFr.below (rb := rb) hB3);have R3 := R.out.below hB3;have P3 : Pre w3 rb B d us := ⟨R3, HP.out.deep, hlt, Nat.le_trans HP.out.le F3.size, Nat.le_trans hu HP.out.few⟩
    obtain ⟨p, cp, rfl⟩ : ∃ p cp, v = .slice p kids.length cp := by
     rcases Zc G3.at'.rowOf with ⟨h1, h2⟩ | ⟨g0, cap0, h1, _⟩
     ·simp only [ATree.v, ATree.kids] at h1 h2;exact ⟨none, 0, by rw [h1, h2]⟩
     ·exact ⟨_, _, h1⟩
    have hblk := G3.at'.blkOf;simp only [ATree.b, ATree.v, ATree.kind, ATree.text, ATree.n] at hblk;have n3 : w3.cell? ⟨nb, 3, none⟩ = some (.slice p kids.length cp) := by simp [World.cell?, hblk]
    have F3 := lh F3;have G3 := lh G3;have P3 := lh P3;have HU := lh hu;have HL := lh hl;clear hB3 R3 FF G R HB hblk hu hl;by_cases h0 : acc.length = 0
    ·have a0 : decide (0 < kids.length) = false := by have := HKL.out; simp; exact List.eq_nil_of_length_eq_zero (by omega)
     have hq2 : Zgm g F d kind text acc us = some r := by have h := HQ.out; rw [if_neg (by omega)] at h; exact h
     have h8 : ¬ acc.length = 8 := by omega
     have PQ := lh (show Pre w3 rb B d us ∧ us.length ≤ ts.length from ⟨P3.out, HU.out⟩);have GQ := G3;have FQ := F3;have PL := lh (Nat.le_refl us.length);clear HQ;have n8 : ((kids.length : Int) == 8) = false := by have := HKL.out; simp; omega
     have HQ2 := hq2;unfold Zgm at HQ2;rw [if_neg h8] at HQ2;have HQ2 := lh HQ2;clear hq2;go_wp2_with fail
     refine Z0 [(true, 0), (true, 1), (true, 2), (true, 3), (true, 4), (true, 5), (true, 6), (false, 7), (false, 8), (false, 9), (false, 10)] [11, 12, 13] (fun W => W.cell? ⟨nb, 3, none⟩ = some (.slice p kids.length cp)) (by kernel_rfl) (by kernel_rfl) (fun _ _ d _ _ h => by cases d <;> exact h) n3 (fun hS0 => ?_);simp only [Za, List.filterMap_cons, List.filterMap_nil, List.getElem?_toArray, List.getElem?_cons_zero, List.getElem?_cons_succ, Option.map_some]
     iterate 7
      first
       | (refine Z2 ?_ (by rfl) (fun w' hS' => ?_) ?_; rotate_left; (have s0 := hS'; go_simp; first | done | with_reducible rfl); simp only [Act.put, zA, zB, zC])
       | (refine Z1 (by rfl) ?_; simp only [Act.put, zA, zB, zC])
     refine Z6 (fun K hK => ?_);go_simp
     have hus : us.length ≤ ts.length := PQ.out.2;rcases Z89 HQ2.out with ⟨hk, h1⟩ | ⟨hk, rfl⟩
     ·refine (Z3s w3.drew rb us d PQ.out.1.rd.drew hk).mono ?_;rintro e wa ⟨rfl, hRa, hFa⟩;have hFwa : RFr w3 wa rb := (RFr.refl w3 rb).drew.trans hFa;have hNa := GQ.out.rfr hlt hFwa;have hblk := hNa.at'.blkOf;simp only [ATree.b, ATree.v, ATree.kind, ATree.text, ATree.n] at hblk;have m3 : wa.cell? ⟨nb, 3, none⟩ = some (.slice p kids.length cp) := by simp [World.cell?, hblk]
      refine hK _ _ m3 ?_;clear hK K;refine Z6 (fun K hK => ?_);go_simp
      have hala : Below wa.heap.size wa (wa.alloc (.cells #[.int .i64 23, .string (hdT us).text, .int .i64 0, .slice none 0 0] 44)) := (Below.refl _ _).alloc (Nat.le_refl _) _;have hA := Got.leaf (w0 := wa) (w := wa) (rb := rb) (B := B) (k := 23) (t := (hdT us).text) (n := 0) (Nat.le_trans HP.out.le (FQ.out.trans hFwa).size) (RFr.refl _ _);refine (Z0g wa rb 23 (hdT us).text none 0 0).mono ?_;rintro e w3' ⟨rfl, hw3'⟩;rw [← hw3'] at hA hala;have hF23 : RFr w3 w3' rb := hFwa.trans (RFr.below hala);have hN3 := hNa.rfr hlt (RFr.below (rb := rb) hala);have hR3 := hRa.below hala
      have hblk := hN3.at'.blkOf;simp only [ATree.b, ATree.v, ATree.kind, ATree.text, ATree.n] at hblk;have m3 : w3'.cell? ⟨nb, 3, none⟩ = some (.slice p kids.length cp) := by simp [World.cell?, hblk]
      have mz : w3'.frozen? ⟨nb, 3, none⟩ = false := by simp [World.frozen?, hblk]
      have hnb3 : nb < w3'.heap.size := (Array.getElem?_eq_some_iff.1 hblk).1;have hnd := hN3.nodup;simp only [ATree.blocks, List.nodup_cons, List.mem_append, Option.mem_toList, not_or] at hnd;have hne := hnd.1.1;have hk4 : kids.length ≤ 8 := by have := HKL.out; have := HL.out; omega
      obtain ⟨a, ha⟩ : ∃ a : ATree, a = .mk wa.heap.size (.slice none 0 0) 23 (hdT us).text 0 [] := ⟨_, rfl⟩
      rw [← ha] at hA;have hap : Value.pointer (some ⟨wa.heap.size, 0, none⟩) = .pointer (some ⟨a.b, 0, none⟩) := by rw [ha]; rfl
      rw [hap];clear ha hap;have N3 := lh hN3;have A3 := lh hA;have R3 := lh hR3;have F3' := lh (FQ.out.trans hF23);have NE := lh hne;have NA := lh (fun x hx => (hNa.new x hx).2);have HQ3 := lh h1;refine hK _ _ m3 ?_;obtain ⟨i0, hi, hz0, hz1, hz2⟩ := info_parts Tryz.infoPtr;clear hK K hA hR3 hF23 hN3 hblk hnd hne h1 n3 hFa hFwa hNa hRa hala hw3';refine Z6 (fun K hK => ?_);go_simp
      refine hK _ _ ((Z7 hnb3).trans m3) ?_;clear hK K;refine Z6 (fun K hK => ?_)
      refine step_append_lies _ (by rfl) (.tmp 35) (.tmp 40) 42 (by rfl) B 22 i0 _ 1 8 Tryz.underlying42 hi hz0 hz1 hz2 rfl (by decide) (.slice p kids.length cp) kids.length (kids.map ATree.ptr) (by rfl) (N3.out.at'.rowOf.alloc _) ⟨w3'.heap.size, 0, none⟩ 1 1 [a.ptr] (by rfl) rfl (World.news_of_block (cs := #[a.ptr]) (t := 22) (fr := (0, 0)) (heap_alloc_new w3' _)) (by simp [ATree.ptr, Value.oneCell']) (by decide) (by unfold maxLen; omega) (by omega) (by simp; have := F3'.out.size; have := HP.out.le; omega) (w3'.heap.size + 1) (by simp) ?_;intro gg cap w4 hown4 hgrow4 hat4 hlt4
      have m4 : w4.cell? ⟨nb, 3, none⟩ = some (.slice p kids.length cp) := (hgrow4.cell_far ⟨nb, 3, none⟩ (by simp; omega) (fun e => NE.out e.symm)).trans ((Z7 hnb3).trans m3);have mz4 : w4.frozen? ⟨nb, 3, none⟩ = false := (hgrow4.frozen_far ⟨nb, 3, none⟩ (by simp; omega) (fun e => NE.out e.symm)).trans ((Zu hnb3).trans mz);refine hK _ _ m4 ?_;clear hK K;simp only [Act.put, zA, zB, zC];have hfin := Got.push hlt HP.out.le N3.out (wA := wa) NA.out A3.out F3'.out R3.out ((Below.refl _ _).alloc (Nat.le_refl _) _) hgrow4 hown4 (by rcases hat4 with h | h; (exact .inl h); (exact .inr (by omega))) hlt4
      have FIN := lh hfin;clear hgrow4 hown4 hat4 hlt4 hfin;refine Z5 ?_;go_wp2;go_roundw
      case rel =>
       refine ⟨g, acc ++ [.mk 23 (hdT us).text 0 []], us.tail, .slice (some ⟨gg, 0, none⟩) (kids.length + 1) cap, kids ++ [a], by omega, HQ3.out, ?_, FIN.out.2.2, FIN.out.2.1, by have := HL.out; simp; omega, by rw [List.length_tail]; omega⟩;have h1 := FIN.out.1;have h2 := GQ.out.tree;simp only [ATree.tree, Tree.mk.injEq, true_and] at h2;rw [h2] at h1;exact h1
      case measure =>
       rw [FIN.out.2.2.left, RL.out];exact Nat.lt_of_lt_of_le (by have := Z6s hk; rw [List.length_tail]; omega) PL.out
     ·refine (Z5n w3.drew rb us d PQ.out.1.rd.drew hk).mono ?_;rintro e w9 ⟨⟨b, rfl, h1, h2⟩, hB⟩;exact ⟨rfl, Z07.err FQ.out.drew ⟨b, rfl, h1, h2⟩ hB⟩
    ·have a0 : decide (0 < kids.length) = true := by have := HKL.out; simp; omega
     have hq1 := HQ.out;rw [if_pos (by omega)] at hq1;by_cases hc : isT Z0p us = true
     ·have hq2 : Zgm g F d kind text acc us.tail = some r := by rw [Z0u, if_pos hc] at hq1; exact hq1
      have HC := Z1t w3 rb us d Z0p P3.out.rd hc;unfold Z0p at HC;have HC := lh HC;clear hq1 hc HQ;go_wp2_with fail
      refine HC.out.mono ?_;rintro e w4q ⟨rfl, hR4, hF4⟩;have PQ := lh (show Pre w4q rb B d us.tail ∧ us.tail.length ≤ ts.length from ⟨P3.out.tail hR4 hF4, by have := HU.out; rw [List.length_tail]; omega⟩);have GQ := lh (G3.out.rfr hlt hF4);have FQ := lh (F3.out.trans hF4);have PL := lh (show us.tail.length ≤ us.length by rw [List.length_tail]; omega);have hblk := GQ.out.at'.blkOf;simp only [ATree.b, ATree.v, ATree.kind, ATree.text, ATree.n] at hblk;clear n3;have n3 : w4q.cell? ⟨nb, 3, none⟩ = some (.slice p kids.length cp) := by simp [World.cell?, hblk]
      clear hR4 hF4 HC hblk F3 G3 P3;by_cases h8 : acc.length = 8
      ·have n8 : ((kids.length : Int) == 8) = true := by have := HKL.out; simp; omega
       have hr : r = .error (4, (hdT us.tail).at') := by
        unfold Zgm at hq2;rw [if_pos h8] at hq2;exact (Option.some.inj hq2).symm
       subst hr;have HE := lh (Z2o w4q rb us.tail d 4 PQ.out.1.rd);clear hq2;go_wp2_with fail
       refine HE.out.mono ?_;rintro e w9 ⟨⟨b, rfl, h1, h2⟩, hB⟩;exact ⟨rfl, Z07.err FQ.out ⟨b, rfl, h1, h2⟩ hB⟩
      ·skip
       have n8 : ((kids.length : Int) == 8) = false := by have := HKL.out; simp; omega
       have HQ2 := hq2;unfold Zgm at HQ2;rw [if_neg h8] at HQ2;have HQ2 := lh HQ2;clear hq2;go_wp2_with fail
       refine Z0 [(true, 0), (true, 1), (true, 2), (true, 3), (true, 4), (true, 5), (true, 6), (false, 7), (false, 8), (false, 9), (false, 10)] [11, 12, 13] (fun W => W.cell? ⟨nb, 3, none⟩ = some (.slice p kids.length cp)) (by kernel_rfl) (by kernel_rfl) (fun _ _ d _ _ h => by cases d <;> exact h) n3 (fun hS0 => ?_);simp only [Za, List.filterMap_cons, List.filterMap_nil, List.getElem?_toArray, List.getElem?_cons_zero, List.getElem?_cons_succ, Option.map_some]
       iterate 7
        first
         | (refine Z2 ?_ (by rfl) (fun w' hS' => ?_) ?_; rotate_left; (have s0 := hS'; go_simp; first | done | with_reducible rfl); simp only [Act.put, zA, zB, zC])
         | (refine Z1 (by rfl) ?_; simp only [Act.put, zA, zB, zC])
       refine Z6 (fun K hK => ?_);go_simp
       have hus : us.tail.length ≤ ts.length := PQ.out.2;rcases Z89 HQ2.out with ⟨hk, h1⟩ | ⟨hk, rfl⟩
       ·refine (Z3s w4q.drew rb us.tail d PQ.out.1.rd.drew hk).mono ?_;rintro e wa ⟨rfl, hRa, hFa⟩;have hFwa : RFr w4q wa rb := (RFr.refl w4q rb).drew.trans hFa;have hNa := GQ.out.rfr hlt hFwa;have hblk := hNa.at'.blkOf;simp only [ATree.b, ATree.v, ATree.kind, ATree.text, ATree.n] at hblk;have m3 : wa.cell? ⟨nb, 3, none⟩ = some (.slice p kids.length cp) := by simp [World.cell?, hblk]
        refine hK _ _ m3 ?_;clear hK K;refine Z6 (fun K hK => ?_);go_simp
        have hala : Below wa.heap.size wa (wa.alloc (.cells #[.int .i64 23, .string (hdT us.tail).text, .int .i64 0, .slice none 0 0] 44)) := (Below.refl _ _).alloc (Nat.le_refl _) _;have hA := Got.leaf (w0 := wa) (w := wa) (rb := rb) (B := B) (k := 23) (t := (hdT us.tail).text) (n := 0) (Nat.le_trans HP.out.le (FQ.out.trans hFwa).size) (RFr.refl _ _);refine (Z0g wa rb 23 (hdT us.tail).text none 0 0).mono ?_;rintro e w3' ⟨rfl, hw3'⟩;rw [← hw3'] at hA hala;have hF23 : RFr w4q w3' rb := hFwa.trans (RFr.below hala);have hN3 := hNa.rfr hlt (RFr.below (rb := rb) hala);have hR3 := hRa.below hala
        have hblk := hN3.at'.blkOf;simp only [ATree.b, ATree.v, ATree.kind, ATree.text, ATree.n] at hblk;have m3 : w3'.cell? ⟨nb, 3, none⟩ = some (.slice p kids.length cp) := by simp [World.cell?, hblk]
        have mz : w3'.frozen? ⟨nb, 3, none⟩ = false := by simp [World.frozen?, hblk]
        have hnb3 : nb < w3'.heap.size := (Array.getElem?_eq_some_iff.1 hblk).1;have hnd := hN3.nodup;simp only [ATree.blocks, List.nodup_cons, List.mem_append, Option.mem_toList, not_or] at hnd;have hne := hnd.1.1;have hk4 : kids.length ≤ 8 := by have := HKL.out; have := HL.out; omega
        obtain ⟨a, ha⟩ : ∃ a : ATree, a = .mk wa.heap.size (.slice none 0 0) 23 (hdT us.tail).text 0 [] := ⟨_, rfl⟩
        rw [← ha] at hA;have hap : Value.pointer (some ⟨wa.heap.size, 0, none⟩) = .pointer (some ⟨a.b, 0, none⟩) := by rw [ha]; rfl
        rw [hap];clear ha hap;have N3 := lh hN3;have A3 := lh hA;have R3 := lh hR3;have F3' := lh (FQ.out.trans hF23);have NE := lh hne;have NA := lh (fun x hx => (hNa.new x hx).2);have HQ3 := lh h1;refine hK _ _ m3 ?_;obtain ⟨i0, hi, hz0, hz1, hz2⟩ := info_parts Tryz.infoPtr;clear hK K hA hR3 hF23 hN3 hblk hnd hne h1 n3 hFa hFwa hNa hRa hala hw3';refine Z6 (fun K hK => ?_);go_simp
        refine hK _ _ ((Z7 hnb3).trans m3) ?_;clear hK K;refine Z6 (fun K hK => ?_)
        refine step_append_lies _ (by rfl) (.tmp 35) (.tmp 40) 42 (by rfl) B 22 i0 _ 1 8 Tryz.underlying42 hi hz0 hz1 hz2 rfl (by decide) (.slice p kids.length cp) kids.length (kids.map ATree.ptr) (by rfl) (N3.out.at'.rowOf.alloc _) ⟨w3'.heap.size, 0, none⟩ 1 1 [a.ptr] (by rfl) rfl (World.news_of_block (cs := #[a.ptr]) (t := 22) (fr := (0, 0)) (heap_alloc_new w3' _)) (by simp [ATree.ptr, Value.oneCell']) (by decide) (by unfold maxLen; omega) (by omega) (by simp; have := F3'.out.size; have := HP.out.le; omega) (w3'.heap.size + 1) (by simp) ?_;intro gg cap w4 hown4 hgrow4 hat4 hlt4
        have m4 : w4.cell? ⟨nb, 3, none⟩ = some (.slice p kids.length cp) := (hgrow4.cell_far ⟨nb, 3, none⟩ (by simp; omega) (fun e => NE.out e.symm)).trans ((Z7 hnb3).trans m3);have mz4 : w4.frozen? ⟨nb, 3, none⟩ = false := (hgrow4.frozen_far ⟨nb, 3, none⟩ (by simp; omega) (fun e => NE.out e.symm)).trans ((Zu hnb3).trans mz);refine hK _ _ m4 ?_;clear hK K;simp only [Act.put, zA, zB, zC]
        have hfin := Got.push hlt HP.out.le N3.out (wA := wa) NA.out A3.out F3'.out R3.out ((Below.refl _ _).alloc (Nat.le_refl _) _) hgrow4 hown4 (by rcases hat4 with h | h; (exact .inl h); (exact .inr (by omega))) hlt4;have FIN := lh hfin;clear hgrow4 hown4 hat4 hlt4 hfin;refine Z5 ?_;go_wp2;go_roundw
        case rel =>
         refine ⟨g, acc ++ [.mk 23 (hdT us.tail).text 0 []], us.tail.tail, .slice (some ⟨gg, 0, none⟩) (kids.length + 1) cap, kids ++ [a], by omega, HQ3.out, ?_, FIN.out.2.2, FIN.out.2.1, by have := HL.out; simp; omega, by rw [List.length_tail]; omega⟩;have h1 := FIN.out.1;have h2 := GQ.out.tree;simp only [ATree.tree, Tree.mk.injEq, true_and] at h2;rw [h2] at h1;exact h1
        case measure =>
         rw [FIN.out.2.2.left, RL.out];exact Nat.lt_of_lt_of_le (by have := Z6s hk; rw [List.length_tail]; omega) PL.out
       ·refine (Z5n w4q.drew rb us.tail d PQ.out.1.rd.drew hk).mono ?_;rintro e w9 ⟨⟨b, rfl, h1, h2⟩, hB⟩;exact ⟨rfl, Z07.err FQ.out.drew ⟨b, rfl, h1, h2⟩ hB⟩
     ·have hr : r = .error (3, (hdT us).at') := by rw [Z0u, if_neg hc] at hq1; exact (Option.some.inj hq1).symm
      subst hr;have HC := Z33 w3 rb us d Z0p P3.out.rd (by simpa using hc);unfold Z0p at HC;have HC := lh HC;clear hq1 hc HQ;go_wp2_with fail
      refine HC.out.mono ?_;rintro e w9 ⟨⟨b, rfl, h1, h2⟩, hB⟩;exact ⟨rfl, Z07.err F3.out ⟨b, rfl, h1, h2⟩ hB⟩
 ·have HC := lh (Z33 w rb ts d Z05 hP.rd hs);clear hP hp hw hs;go_enter Tryz.func88, Tryz.ntmps88
  go_wp2_with fail
  refine HC.out.mono ?_;rintro e w3 ⟨⟨b, rfl, h1, h2⟩, hB⟩;exact ⟨rfl, Z07.err (RFr.refl _ _) ⟨b, rfl, h1, h2⟩ hB⟩
end Go.Proofs.YtgmnfgljkocnpaaGreatDoor
