/- Package tree: postfix. -/
import Derived.Test.YtgmnfgljkocnpaaGreatDoorJ01
import Derived.Test.YtgmnfgljkocnpaaGreatDoorJ27
namespace Go.Proofs.YtgmnfgljkocnpaaGreatDoor
open Go Go.RowKit
set_option maxRecDepth 100000
set_option maxHeartbeats 20000000
set_option linter.unusedVariables false
theorem Z7s {p : PR} {k m : Tree → List Tok → PR} : Zx (Zx p k) m = Zx p fun t ts => Zx (k t ts) m := by
 rcases p with _ | e | ⟨t, ts⟩ <;> rfl
theorem Zc5 {s : ByteArray} {ts : List Tok} {k : List Tok → PR} {m : Tree → List Tok → PR} : Zx (Z0u s ts k) m = Z0u s ts fun ts => Zx (k ts) m := by
 unfold Z0u;by_cases h : isT s ts = true;·rw [if_pos h, if_pos h]
 ·rw [if_neg h, if_neg h]; rfl
def Za7 (g G d : Nat) (acc : List Tree) (us : List Tok) : PR := if 8 < acc.length then Z2m 4 us else Zx (Zx (Z4 g .value d us) fun v ts => Z4 g (.args (acc ++ [v])) d ts) fun n ts => Z4 G (.postLoop n) d ts
theorem Zgd {g G d : Nat} {acc : List Tree} {us : List Tok} (h : isT Z06 us = false) :
 Zx (Z4 (g + 1) (.args acc) d us) (fun n ts => Z4 G (.postLoop n) d ts) = (if 1 < acc.length then Z0u Z0p us else fun k => k us) fun us => Za7 g G d acc us := by
 have key : ∀ us, Zx (if 8 < acc.length then Z2m 4 us else Zx (Z4 g .value d us) fun v ts => Z4 g (.args (acc ++ [v])) d ts) (fun n ts => Z4 G (.postLoop n) d ts) = Za7 g G d acc us := by
  intro us;unfold Za7;by_cases h : 8 < acc.length;·rw [if_pos h, if_pos h]; rfl
  ·rw [if_neg h, if_neg h]
 rw [Z4, if_neg (by rw [h]; simp)];by_cases h1 : 1 < acc.length
 ·simp only [if_pos h1];rw [Zc5];simp only [key]
 ·simp only [if_neg h1];exact key us
theorem Zah (F : Nat) (hPr : Says 123 rArg .primary F) (hV : ∀ g, g < F → Says 91 rArg .value g) :
 Says 118 rArg .postfix_ (F + 1) := by
 intro w rb B d ts r hP hp;have hw : Zx (Z4 F .primary d ts) (fun x ts => Z4 F (.postLoop x) d ts) = some r := hp;have HP := lh hP;have HV := lh hV;have H1 := lh hw;have HPR := lh hPr;have hlt := hP.lt;clear hP hp hV hPr hw;rcases Zr H1.out with ⟨⟨c, p⟩, hv, rfl⟩ | ⟨t, us0, hv, h2⟩
 ·have HC := HPR.out w rb B d _ _ HP.out hv;unfold rArg at HC ⊢;have HC := lh HC;clear hv;go_enter Tryz.func118, Tryz.ntmps118
  go_wp2_with fail
  refine HC.out.mono ?_;rintro e w2 ⟨⟨b, rfl, h1, h2⟩, hF⟩;exact ⟨rfl, ⟨b, rfl, h1, h2⟩, hF⟩
 have HC := HPR.out w rb B d _ _ HP.out hv;have hul := Z0t hv;unfold rArg at HC ⊢;have HC := lh HC;have H2 := lh h2;clear hv h2;go_enter Tryz.func118, Tryz.ntmps118
 go_wp2_with fail
 refine HC.out.mono ?_;rintro e w1 ⟨a0, rfl, hG1, hR1, hF1⟩;have ST : Hid (∃ (G : Nat) (us : List Tok) (a : ATree) (t : Tree), G ≤ F ∧ Value.pointer (some ⟨a0.b, 0, none⟩) = .pointer (some ⟨a.b, 0, none⟩) ∧ Z4 G (.postLoop t) d us = some r ∧ Got w B w1 a t ∧ Rd w1 rb us d ∧ RFr w w1 rb ∧ us.length ≤ ts.length) :=
  lh ⟨F, us0, a0, t, Nat.le_refl _, rfl, H2.out, hG1, hR1, hF1, hul⟩
 clear hG1 hR1 hF1 hul HC H2;go_wp2_with fail
 go_loopw [3] (fun v3 wr => ∃ (G : Nat) (us : List Tok) (a : ATree) (t : Tree), G ≤ F ∧ v3 = .pointer (some ⟨a.b, 0, none⟩) ∧ Z4 G (.postLoop t) d us = some r ∧ Got w B wr a t ∧ Rd wr rb us d ∧ RFr w wr rb ∧ us.length ≤ ts.length) (fun _ wr => leftOf wr rb)
 case atStart => exact ST.out
 case round =>
  obtain ⟨G, us, a, t, hGF, rfl, hq, hG, hR, hF, hu⟩ := hrel;obtain ⟨wo, rfl⟩ : ∃ wo : World, wo = wr := ⟨_, rfl⟩
  obtain ⟨ab, hab⟩ : ∃ b, b = a.b := ⟨_, rfl⟩
  have HAB := lh hab;rw [← hab];have G1 := lh hG;have F1 := lh hF;have RLO := lh hR.left;have P1 : Pre wo rb B d us := ⟨hR, HP.out.deep, hlt, Nat.le_trans HP.out.le hF.size, Nat.le_trans hu HP.out.few⟩
  have P1 := lh P1;have HU := lh hu;clear hG hF hR hu ST hab;cases G with
  | zero => cases hq
  | succ G =>
  rw [Z4] at hq;by_cases hd : isT Z8v us = true
  ·rw [if_pos hd] at hq;have HT := Z0r wo rb us d Z8v P1.out.rd hd;unfold Z8v at HT;have HT := lh HT;have HPOS := lh (Z00 hd);have HQ := lh hq;clear hq hd;go_wp2_with fail
   refine HT.out.mono ?_;rintro e w2 ⟨rfl, hR2, hF2⟩;have P2 := lh (P1.out.tail hR2 hF2);have F2 := lh (F1.out.trans hF2);have G2 := lh (G1.out.rfr hlt hF2);clear hR2 hF2 HT;rcases Z3i HQ.out with ⟨hk, h1⟩ | ⟨hk, rfl⟩
   ·have HC := lh (Z3s w2 rb us.tail d P2.out.rd hk);obtain ⟨s, hs⟩ : ∃ s, s = (hdT us.tail).text := ⟨_, rfl⟩
    rw [← hs] at HC h1;have H3 := lh h1;clear hk h1 hs;go_wp2_with fail
    refine HC.out.mono ?_;rintro e w3 ⟨rfl, hR3, hF3⟩;have F3 := F2.out.trans hF3;have G3 := G2.out.rfr hlt hF3;have hb1 : Below w3.heap.size w3 (w3.alloc (.cells #[.pointer (some ⟨ab, 0, none⟩)] 22)) := (Below.refl _ _).alloc (Nat.le_refl _) _;have hb2 : Below w3.heap.size w3 ((w3.alloc (.cells #[.pointer (some ⟨ab, 0, none⟩)] 22)).alloc (.cells #[.int .i64 36, .string s, .int .i64 0, .slice (some ⟨w3.heap.size, 0, none⟩) 1 1] 44)) := hb1.alloc (by simp) _;have hA := Got.one (k := 36) (t := s) HP.out.le F3 G3;have HA := lh hA;have R4 := lh (hR3.below hb2)
    have F4 := lh (F3.trans (RFr.below (rb := rb) hb2));clear hR3 hF3 F3 G3 hb1 hb2 hA HC;go_wp2_with fail
    refine (Z0g _ rb 36 s _ 1 1).mono ?_;rintro e w7 ⟨rfl, rfl⟩;go_wp2;go_roundw
    case rel =>
     refine ⟨G, us.tail.tail, .mk (w3.heap.size + 1) (.slice (some ⟨w3.heap.size, 0, none⟩) 1 1) 36 s 0 [a], .mk 36 s 0 [t], by omega, by simp [ATree.b], H3.out, ?_, R4.out, F4.out, by have := HU.out; have := Z0k us; have := Z0k us.tail; omega⟩;rw [HAB.out];exact HA.out
    case measure =>
     rw [R4.out.left, RLO.out];have := HPOS.out; have := Z0k us.tail; omega
   ·have HC := lh (Z5n w2 rb us.tail d P2.out.rd hk);clear hk;go_wp2_with fail
    refine HC.out.mono ?_;rintro e w9 ⟨⟨b, rfl, h1, h2⟩, hB⟩;exact ⟨rfl, Z07.err F2.out ⟨b, rfl, h1, h2⟩ hB⟩
  ·have hd' : isT Z8v us = false := by simpa using hd
   rw [if_neg hd] at hq;have HT := Z1m wo rb us d Z8v P1.out.rd hd';unfold Z8v at HT;have HT := lh HT;have HQ := lh hq;clear hq hd hd';go_wp2_with fail
   refine HT.out.mono ?_;rintro e w2 ⟨rfl, hB2⟩;have P2 := lh (P1.out.below hB2);have F2 := lh (F1.out.trans (RFr.below (rb := rb) hB2));have G2 := lh (G1.out.rfr hlt (RFr.below (rb := rb) hB2));clear hB2 HT;by_cases hl : isT Z05 us = true
   ·have hq := HQ.out;rw [if_pos hl] at hq;have HQ2 := lh hq;have HT := Z0r w2 rb us d Z05 P2.out.rd hl;unfold Z05 at HT;have HT := lh HT;have HPOS := lh (Z00 hl);clear hq hl HQ;go_wp2_with fail
    refine HT.out.mono ?_;rintro e w3 ⟨rfl, hR3, hF3⟩;have F3 := F2.out.trans hF3;have G3 := G2.out.rfr hlt hF3;have hb1 : Below w3.heap.size w3 (w3.alloc (.cells #[.pointer (some ⟨ab, 0, none⟩)] 22)) := (Below.refl _ _).alloc (Nat.le_refl _) _;have hb2 : Below w3.heap.size w3 ((w3.alloc (.cells #[.pointer (some ⟨ab, 0, none⟩)] 22)).alloc (.cells #[.int .i64 35, .string ⟨#[]⟩, .int .i64 0, .slice (some ⟨w3.heap.size, 0, none⟩) 1 1] 44)) := hb1.alloc (by simp) _;have hA := Got.one (k := 35) (t := ⟨#[]⟩) HP.out.le F3 G3;have hR4 := hR3.below hb2;have hF4 := F3.trans (RFr.below (rb := rb) hb2)
    have HN := lh (Z0g (w3.alloc (.cells #[.pointer (some ⟨ab, 0, none⟩)] 22)) rb 35 ⟨#[]⟩ (some ⟨w3.heap.size, 0, none⟩) 1 1);clear hR3 hF3 F3 G3 hb1 HT;go_wp2_with fail
    refine HN.out.mono ?_;rintro e w4 ⟨rfl, hw4⟩;have hsz3 : (w3.alloc (.cells #[.pointer (some ⟨ab, 0, none⟩)] 22)).heap.size = w3.heap.size + 1 := by simp
    rw [hsz3];obtain ⟨nb, hnb⟩ : ∃ b, b = w3.heap.size + 1 := ⟨_, rfl⟩
    rw [← hnb];have hA' : Got w B w4 (.mk nb (.slice (some ⟨w3.heap.size, 0, none⟩) 1 1) 35 ⟨#[]⟩ 0 [a]) (.mk 35 ⟨#[]⟩ 0 [t]) := by rw [hw4, hnb, HAB.out]; exact hA
    rw [← hw4] at hR4 hF4;obtain ⟨us1, hus1⟩ : ∃ us1, us1 = us.tail := ⟨_, rfl⟩
    have ST : Hid (∃ (g : Nat) (acc : List Tree) (vs : List Tok) (v : Value) (kids : List ATree), g ≤ G ∧ Zx (Z4 g (.args acc) d vs) (fun n ts => Z4 G (.postLoop n) d ts) = some r ∧ Got w B w4 (.mk nb v 35 ⟨#[]⟩ 0 kids) (.mk 35 ⟨#[]⟩ 0 acc) ∧ Rd w4 rb vs d ∧ RFr w w4 rb ∧ 1 ≤ acc.length ∧ acc.length ≤ 9 ∧ vs.length ≤ us1.length) :=
     lh ⟨G, [t], us1, _, [a], Nat.le_refl _, by rw [hus1]; exact HQ2.out, hA', by rw [hus1]; exact hR4, hF4, by simp, by simp, Nat.le_refl _⟩
    have HUS1 := lh hus1;clear hw4 hsz3 hnb hA hA' hR4 hF4 hb2 HQ2 HN hus1;go_wp2_with fail
    go_loopw [] (fun wr => ∃ (g : Nat) (acc : List Tree) (vs : List Tok) (v : Value) (kids : List ATree), g ≤ G ∧ Zx (Z4 g (.args acc) d vs) (fun n ts => Z4 G (.postLoop n) d ts) = some r ∧ Got w B wr (.mk nb v 35 ⟨#[]⟩ 0 kids) (.mk 35 ⟨#[]⟩ 0 acc) ∧ Rd wr rb vs d ∧ RFr w wr rb ∧ 1 ≤ acc.length ∧ acc.length ≤ 9 ∧ vs.length ≤ us1.length) (fun wr => leftOf wr rb)
    case atStart => exact ST.out
    case round =>
     obtain ⟨g, acc, vs, v, kids, hgG, hq, hG, hR, hF, hl1, hl, hu⟩ := hrel;have GG := lh hG;have RR' := lh hR;have FF := lh hF;have RL := lh hR.left;cases g with
     | zero => cases hq
     | succ g =>
     have HB := Z40 wr rb vs d Z06 hR;have hvt : vs.length ≤ ts.length := by have e1 := HUS1.out; have e2 := HU.out; have e3 := Z0k us; rw [e1] at hu; omega
     by_cases hb : isT Z06 vs = true
     ·rw [hb] at HB;rw [Z4, if_pos hb] at hq;have hq : Z4 G (.postLoop (.mk 35 ByteArray.empty 0 acc)) d vs.tail = some r := hq;have HQ := lh hq;have HB := lh HB;have HI := lh hb;unfold Z06 at HB;have HVU := lh hu;have HVT := lh hvt;clear hG hR hF hq hb ST hu hvt;go_wp2_with fail
      refine HB.out.mono ?_;rintro e w5 ⟨rfl, hB5⟩;have F5 := FF.out.trans (RFr.below (rb := rb) hB5);have G5 := GG.out.rfr hlt (RFr.below (rb := rb) hB5);have R5 := RR'.out.below hB5;have HC := Z1t w5 rb vs d Z06 R5 HI.out;unfold Z06 at HC;have HC := lh HC;have F5 := lh F5;have G5 := lh G5;clear hB5 R5 FF GG RR' HB;go_wp2_with fail
      refine HC.out.mono ?_;rintro e w6 ⟨rfl, hR6, hF6⟩;have R6 := lh hR6;have F6 := lh (F5.out.trans hF6);have G6 := lh (G5.out.rfr hlt hF6);clear hR6 hF6 HC F5 G5;go_wp2;go_roundw
      case rel => exact ⟨G, vs.tail, _, _, by omega, rfl, HQ.out, G6.out, R6.out, F6.out, by have := HVT.out; have := Z0k vs; omega⟩
      case measure =>
       rw [R6.out.left, RLO.out];have e1 := HUS1.out; have h2 := HVU.out; rw [e1] at h2; have := HPOS.out; have := Z0k vs; omega
     ·have hb' : isT Z06 vs = false := by simpa using hb
      rw [hb'] at HB;rw [Zgd hb'] at hq;have HB := lh HB;have HQ := lh hq;unfold Z06 at HB;have hkl : kids.length = acc.length := by
       have := hG.tree;simp only [ATree.tree, Tree.mk.injEq, true_and] at this;rw [← this, Z2d, List.length_map]
      have HKL := lh hkl;clear hG hR hF hq hb hb' ST hkl;go_wp2_with fail
      refine HB.out.mono ?_;rintro e w5 ⟨rfl, hB5⟩;have F5 := FF.out.trans (RFr.below (rb := rb) hB5);have G5 := GG.out.rfr hlt (RFr.below (rb := rb) hB5);have R5 := RR'.out.below hB5;have P5 : Pre w5 rb B d vs := ⟨R5, HP.out.deep, hlt, Nat.le_trans HP.out.le F5.size, Nat.le_trans hvt HP.out.few⟩
      obtain ⟨p, cp, rfl⟩ : ∃ p cp, v = .slice p kids.length cp := by
       rcases Zc G5.at'.rowOf with ⟨h1, h2⟩ | ⟨g0, cap0, h1, _⟩
       ·simp only [ATree.v, ATree.kids] at h1 h2;exact ⟨none, 0, by rw [h1, h2]⟩
       ·exact ⟨_, _, h1⟩
      have hblk := G5.at'.blkOf;simp only [ATree.b, ATree.v, ATree.kind, ATree.text, ATree.n] at hblk;have n3 : w5.cell? ⟨nb, 3, none⟩ = some (.slice p kids.length cp) := by simp [World.cell?, hblk]
      have F5 := lh F5;have G5 := lh G5;have P5 := lh P5;have HL := lh hl;have HL1 := lh hl1;have HVU := lh hu;have HVT := lh hvt;clear hB5 R5 FF GG RR' HB hblk hl hl1 hu hvt;by_cases h0 : 1 < acc.length
      ·have a0 : decide (1 < (kids.length : Int)) = true := by have := HKL.out; simp; omega
       have hq1 := HQ.out;rw [if_pos h0] at hq1;have H0 := lh h0;clear h0;by_cases hc : isT Z0p vs = true
       ·have hq2 : Za7 g G d acc vs.tail = some r := by rw [Z0u, if_pos hc] at hq1; exact hq1
        have HC := Z1t w5 rb vs d Z0p P5.out.rd hc;unfold Z0p at HC;have HC := lh HC;have HQ2 := lh hq2;clear hq1 hc HQ hq2;go_wp2_with fail
        refine HC.out.mono ?_;rintro e w4q ⟨rfl, hR4, hF4⟩;have PQ := lh (show Pre w4q rb B d vs.tail ∧ vs.tail.length ≤ us1.length from ⟨P5.out.tail hR4 hF4, by have := HVU.out; rw [List.length_tail]; omega⟩);have GQ := lh (G5.out.rfr hlt hF4);have FQ := lh (F5.out.trans hF4);have PL := lh (show vs.tail.length ≤ vs.length by rw [List.length_tail]; omega);have hblk := GQ.out.at'.blkOf;simp only [ATree.b, ATree.v, ATree.kind, ATree.text, ATree.n] at hblk;clear n3;have n3 : w4q.cell? ⟨nb, 3, none⟩ = some (.slice p kids.length cp) := by simp [World.cell?, hblk]
        clear hR4 hF4 HC hblk F5 G5 P5;by_cases h8 : 8 < acc.length
        ·have n8 : decide (8 < (kids.length : Int)) = true := by have := HKL.out; simp; omega
         have hr : r = .error (4, (hdT vs.tail).at') := by
          have h := HQ2.out;unfold Za7 at h;rw [if_pos h8] at h;exact (Option.some.inj h).symm
         subst hr;have HF := lh (Z2o w4q rb vs.tail d 4 PQ.out.1.rd);clear h8;go_wp2_with fail
         refine HF.out.mono ?_;rintro e w9 ⟨⟨b, rfl, h1, h2⟩, hB⟩;exact ⟨rfl, Z07.err FQ.out ⟨b, rfl, h1, h2⟩ hB⟩
        ·have n8 : decide (8 < (kids.length : Int)) = false := by have := HKL.out; simp; omega
         have hq3 := HQ2.out;unfold Za7 at hq3;rw [if_neg h8] at hq3;have H8 := lh h8;have H2 := lh hq3;clear h8 hq3;go_wp2_with fail
         refine Z0 [(true, 0), (true, 1), (true, 2), (true, 3), (true, 4), (true, 5), (false, 6), (false, 7), (false, 8)] [9, 10, 11] (fun W => W.cell? ⟨nb, 3, none⟩ = some (.slice p kids.length cp)) (by kernel_rfl) (by kernel_rfl) (fun _ _ d _ _ h => by cases d <;> exact h) n3 (fun hS0 => ?_);simp only [Za, List.filterMap_cons, List.filterMap_nil, List.getElem?_toArray, List.getElem?_cons_zero, List.getElem?_cons_succ, Option.map_some]
         iterate 6
          first
           | (refine Z2 ?_ (by rfl) (fun w' hS' => ?_) ?_; rotate_left; (have s0 := hS'; go_simp; first | done | with_reducible rfl); simp only [Act.put, zA, zB, zC])
           | (refine Z1 (by rfl) ?_; simp only [Act.put, zA, zB, zC])
         refine Z6 (fun K hK => ?_);go_simp
         have P7 : Pre w4q.drew rb B d _ := PQ.out.1.below (Below.refl _ _).drew;rw [Z7s] at H2;rcases Zr H2.out with ⟨⟨c, p⟩, hv, rfl⟩ | ⟨t, vs, hv, hq4⟩
         ·refine (HV.out g (by omega) w4q.drew rb B d _ _ P7 hv).mono ?_;rintro e w7 ⟨⟨b, rfl, h1, h2⟩, hF7⟩;exact ⟨rfl, Z07.pre FQ.out.drew (r := .error (c, p)) ⟨⟨b, rfl, h1, h2⟩, hF7⟩⟩
         ·have hvl := Z1n _ _ _ _ _ _ hv;have HQ4 := lh hq4;refine (HV.out g (by omega) w4q.drew rb B d _ _ P7 hv).mono ?_;rintro e w3 ⟨a, rfl, hA, hR3, hF3⟩;have hF63 : RFr w4q w3 rb := (RFr.refl w4q rb).drew.trans hF3;have hN3 := GQ.out.rfr hlt hF63;have hblk := hN3.at'.blkOf;simp only [ATree.b, ATree.v, ATree.kind, ATree.text, ATree.n] at hblk;have m3 : w3.cell? ⟨nb, 3, none⟩ = some (.slice p kids.length cp) := by simp [World.cell?, hblk]
          have mz : w3.frozen? ⟨nb, 3, none⟩ = false := by simp [World.frozen?, hblk]
          have hnb3 : nb < w3.heap.size := (Array.getElem?_eq_some_iff.1 hblk).1;have hnd := hN3.nodup;simp only [ATree.blocks, List.nodup_cons, List.mem_append, Option.mem_toList, not_or] at hnd;have hne := hnd.1.1;have hk4 : kids.length ≤ 9 := by have := HKL.out; have := HL.out; omega
          have N3 := lh hN3;have A3 := lh hA;have R3 := lh hR3;have F3 := lh (FQ.out.trans hF63);have NE := lh hne;have NA := lh (show ∀ y ∈ (ATree.mk nb (.slice p kids.length cp) 35 ⟨#[]⟩ 0 kids).blocks, y < w4q.drew.heap.size from fun y hy => (GQ.out.new y hy).2);have HVL := lh hvl;refine hK _ _ m3 ?_;obtain ⟨i0, hi, hz0, hz1, hz2⟩ := info_parts Tryz.infoPtr;clear hK K hA hR3 hF63 hN3 hblk hnd hne n3 hF3 hv hq4 P7 hvl;refine Z6 (fun K hK => ?_);go_simp
          refine hK _ _ ((Z7 hnb3).trans m3) ?_;clear hK K;refine Z6 (fun K hK => ?_)
          refine step_append_lies _ (by rfl) (.tmp 47) (.tmp 50) 42 (by rfl) B 22 i0 _ 1 8 Tryz.underlying42 hi hz0 hz1 hz2 rfl (by decide) (.slice p kids.length cp) (kids).length ((kids).map ATree.ptr) (by rfl) (N3.out.at'.rowOf.alloc _) ⟨w3.heap.size, 0, none⟩ 1 1 [a.ptr] (by rfl) rfl (World.news_of_block (cs := #[a.ptr]) (t := 22) (fr := (0, 0)) (heap_alloc_new w3 _)) (by simp [ATree.ptr, Value.oneCell']) (by decide) (by unfold maxLen; omega) (by omega) (by simp; have := F3.out.size; have := HP.out.le; omega) (w3.heap.size + 1) (by simp) ?_;intro gg cap w4 hown4 hgrow4 hat4 hlt4
          have m4 : w4.cell? ⟨nb, 3, none⟩ = some (.slice p kids.length cp) := (hgrow4.cell_far ⟨nb, 3, none⟩ (by simp; omega) (fun e => NE.out e.symm)).trans ((Z7 hnb3).trans m3);have mz4 : w4.frozen? ⟨nb, 3, none⟩ = false := (hgrow4.frozen_far ⟨nb, 3, none⟩ (by simp; omega) (fun e => NE.out e.symm)).trans ((Zu hnb3).trans mz);refine hK _ _ m4 ?_;clear hK K;simp only [Act.put, zA, zB, zC]
          have hfin := Got.push hlt HP.out.le N3.out (wA := w4q.drew) NA.out A3.out F3.out R3.out ((Below.refl _ _).alloc (Nat.le_refl _) _) hgrow4 hown4 (by rcases hat4 with h | h; (exact .inl h); (exact .inr (by omega))) hlt4;have FIN := lh hfin;clear hgrow4 hown4 hat4 hlt4 hfin;refine Z5 ?_;go_wp2;go_roundw
          case rel =>
           refine ⟨g, acc ++ [t], vs, .slice (some ⟨gg, 0, none⟩) (kids.length + 1) cap, kids ++ [a], by omega, HQ4.out, ?_, FIN.out.2.2, FIN.out.2.1, by simp, by have := HL.out; have := H8.out; simp; omega, by have := HVL.out; simp only [Job.least] at this; have := PQ.out.2; omega⟩;have h1 := FIN.out.1;have h2 := GQ.out.tree;simp only [ATree.tree, Tree.mk.injEq, true_and] at h2;rw [h2] at h1;exact h1
          case measure =>
           rw [FIN.out.2.2.left, RL.out];have := HVL.out; simp only [Job.least] at this; have := PL.out;omega
       ·have hc' : isT Z0p vs = false := by simpa using hc
        have hr : r = .error (3, (hdT vs).at') := by
         rw [Z0u, if_neg hc] at hq1;exact (Option.some.inj hq1).symm
        subst hr;have HC := Z33 w5 rb vs d Z0p P5.out.rd hc';unfold Z0p at HC;have HC := lh HC;clear hq1 hc hc' HQ;go_wp2_with fail
        refine HC.out.mono ?_;rintro e w9 ⟨⟨b, rfl, h1, h2⟩, hB⟩;exact ⟨rfl, Z07.err F5.out ⟨b, rfl, h1, h2⟩ hB⟩
      ·have a0 : decide (1 < (kids.length : Int)) = false := by have := HKL.out; simp; omega
       have hq2 : Za7 g G d acc vs = some r := by have h := HQ.out; rw [if_neg h0] at h; exact h
       have PQ := lh (show Pre w5 rb B d vs ∧ vs.length ≤ us1.length from ⟨P5.out, HVU.out⟩);have GQ := G5;have FQ := F5;have PL := lh (Nat.le_refl vs.length);have HQ2 := lh hq2;have H0 := lh h0;clear HQ hq2 h0;by_cases h8 : 8 < acc.length
       ·have n8 : decide (8 < (kids.length : Int)) = true := by have := HKL.out; simp; omega
        have hr : r = .error (4, (hdT vs).at') := by
         have h := HQ2.out;unfold Za7 at h;rw [if_pos h8] at h;exact (Option.some.inj h).symm
        subst hr;have HF := lh (Z2o w5 rb vs d 4 PQ.out.1.rd);clear h8;go_wp2_with fail
        refine HF.out.mono ?_;rintro e w9 ⟨⟨b, rfl, h1, h2⟩, hB⟩;exact ⟨rfl, Z07.err FQ.out ⟨b, rfl, h1, h2⟩ hB⟩
       ·have n8 : decide (8 < (kids.length : Int)) = false := by have := HKL.out; simp; omega
        have hq3 := HQ2.out;unfold Za7 at hq3;rw [if_neg h8] at hq3;have H8 := lh h8;have H2 := lh hq3;clear h8 hq3;go_wp2_with fail
        refine Z0 [(true, 0), (true, 1), (true, 2), (true, 3), (true, 4), (true, 5), (false, 6), (false, 7), (false, 8)] [9, 10, 11] (fun W => W.cell? ⟨nb, 3, none⟩ = some (.slice p kids.length cp)) (by kernel_rfl) (by kernel_rfl) (fun _ _ d _ _ h => by cases d <;> exact h) n3 (fun hS0 => ?_);simp only [Za, List.filterMap_cons, List.filterMap_nil, List.getElem?_toArray, List.getElem?_cons_zero, List.getElem?_cons_succ, Option.map_some]
        iterate 6
         first
          | (refine Z2 ?_ (by rfl) (fun w' hS' => ?_) ?_; rotate_left; (have s0 := hS'; go_simp; first | done | with_reducible rfl); simp only [Act.put, zA, zB, zC])
          | (refine Z1 (by rfl) ?_; simp only [Act.put, zA, zB, zC])
        refine Z6 (fun K hK => ?_);go_simp
        have P7 : Pre w5.drew rb B d _ := PQ.out.1.below (Below.refl _ _).drew;rw [Z7s] at H2;rcases Zr H2.out with ⟨⟨c, p⟩, hv, rfl⟩ | ⟨t, vs, hv, hq4⟩
        ·refine (HV.out g (by omega) w5.drew rb B d _ _ P7 hv).mono ?_;rintro e w7 ⟨⟨b, rfl, h1, h2⟩, hF7⟩;exact ⟨rfl, Z07.pre FQ.out.drew (r := .error (c, p)) ⟨⟨b, rfl, h1, h2⟩, hF7⟩⟩
        ·have hvl := Z1n _ _ _ _ _ _ hv;have HQ4 := lh hq4;refine (HV.out g (by omega) w5.drew rb B d _ _ P7 hv).mono ?_;rintro e w3 ⟨a, rfl, hA, hR3, hF3⟩;have hF63 : RFr w5 w3 rb := (RFr.refl w5 rb).drew.trans hF3;have hN3 := GQ.out.rfr hlt hF63;have hblk := hN3.at'.blkOf;simp only [ATree.b, ATree.v, ATree.kind, ATree.text, ATree.n] at hblk;have m3 : w3.cell? ⟨nb, 3, none⟩ = some (.slice p kids.length cp) := by simp [World.cell?, hblk]
         have mz : w3.frozen? ⟨nb, 3, none⟩ = false := by simp [World.frozen?, hblk]
         have hnb3 : nb < w3.heap.size := (Array.getElem?_eq_some_iff.1 hblk).1;have hnd := hN3.nodup;simp only [ATree.blocks, List.nodup_cons, List.mem_append, Option.mem_toList, not_or] at hnd;have hne := hnd.1.1;have hk4 : kids.length ≤ 9 := by have := HKL.out; have := HL.out; omega
         have N3 := lh hN3;have A3 := lh hA;have R3 := lh hR3;have F3 := lh (FQ.out.trans hF63);have NE := lh hne;have NA := lh (show ∀ y ∈ (ATree.mk nb (.slice p kids.length cp) 35 ⟨#[]⟩ 0 kids).blocks, y < w5.drew.heap.size from fun y hy => (GQ.out.new y hy).2);have HVL := lh hvl;refine hK _ _ m3 ?_;obtain ⟨i0, hi, hz0, hz1, hz2⟩ := info_parts Tryz.infoPtr;clear hK K hA hR3 hF63 hN3 hblk hnd hne n3 hF3 hv hq4 P7 hvl;refine Z6 (fun K hK => ?_);go_simp
         refine hK _ _ ((Z7 hnb3).trans m3) ?_;clear hK K;refine Z6 (fun K hK => ?_)
         refine step_append_lies _ (by rfl) (.tmp 47) (.tmp 50) 42 (by rfl) B 22 i0 _ 1 8 Tryz.underlying42 hi hz0 hz1 hz2 rfl (by decide) (.slice p kids.length cp) (kids).length ((kids).map ATree.ptr) (by rfl) (N3.out.at'.rowOf.alloc _) ⟨w3.heap.size, 0, none⟩ 1 1 [a.ptr] (by rfl) rfl (World.news_of_block (cs := #[a.ptr]) (t := 22) (fr := (0, 0)) (heap_alloc_new w3 _)) (by simp [ATree.ptr, Value.oneCell']) (by decide) (by unfold maxLen; omega) (by omega) (by simp; have := F3.out.size; have := HP.out.le; omega) (w3.heap.size + 1) (by simp) ?_;intro gg cap w4 hown4 hgrow4 hat4 hlt4
         have m4 : w4.cell? ⟨nb, 3, none⟩ = some (.slice p kids.length cp) := (hgrow4.cell_far ⟨nb, 3, none⟩ (by simp; omega) (fun e => NE.out e.symm)).trans ((Z7 hnb3).trans m3);have mz4 : w4.frozen? ⟨nb, 3, none⟩ = false := (hgrow4.frozen_far ⟨nb, 3, none⟩ (by simp; omega) (fun e => NE.out e.symm)).trans ((Zu hnb3).trans mz);refine hK _ _ m4 ?_;clear hK K;simp only [Act.put, zA, zB, zC]
         have hfin := Got.push hlt HP.out.le N3.out (wA := w5.drew) NA.out A3.out F3.out R3.out ((Below.refl _ _).alloc (Nat.le_refl _) _) hgrow4 hown4 (by rcases hat4 with h | h; (exact .inl h); (exact .inr (by omega))) hlt4;have FIN := lh hfin;clear hgrow4 hown4 hat4 hlt4 hfin;refine Z5 ?_;go_wp2;go_roundw
         case rel =>
          refine ⟨g, acc ++ [t], vs, .slice (some ⟨gg, 0, none⟩) (kids.length + 1) cap, kids ++ [a], by omega, HQ4.out, ?_, FIN.out.2.2, FIN.out.2.1, by simp, by have := HL.out; have := H8.out; simp; omega, by have := HVL.out; simp only [Job.least] at this; have := PQ.out.2; omega⟩;have h1 := FIN.out.1;have h2 := GQ.out.tree;simp only [ATree.tree, Tree.mk.injEq, true_and] at h2;rw [h2] at h1;exact h1
         case measure =>
          rw [FIN.out.2.2.left, RL.out];have := HVL.out; simp only [Job.least] at this; have := PL.out;omega
   ·have hl' : isT Z05 us = false := by simpa using hl
    have hq := HQ.out;rw [if_neg hl] at hq;have hr := Option.some.inj hq;have HRr := lh hr.symm;have HT := Z1m w2 rb us d Z05 P2.out.rd hl';unfold Z05 at HT;have HT := lh HT;clear hq hl hl' hr HQ;go_wp2_with fail
    refine HT.out.mono ?_;rintro e w3 ⟨rfl, hB3⟩;have R3 := lh (P2.out.rd.below hB3);have F3 := lh (F2.out.trans (RFr.below (rb := rb) hB3));have G3 := lh (G2.out.rfr hlt (RFr.below (rb := rb) hB3));clear hB3 HT;go_wp2;go_ret;rw [HRr.out, HAB.out];exact ⟨a, rfl, G3.out, R3.out, F3.out⟩
end Go.Proofs.YtgmnfgljkocnpaaGreatDoor
