/- Package lex: quoted, walked. -/
import Derived.Test.YtgmnfgljkocnpaaGreatDoorJ01
import Derived.Test.YtgmnfgljkocnpaaGreatDoorJ04
namespace Go.Proofs.YtgmnfgljkocnpaaGreatDoor
open Go Go.RowKit
set_option maxRecDepth 100000
set_option maxHeartbeats 20000000
theorem Z73 (B : Nat) (w : World) (b : Nat) (p v : Value) (bs : List Value) (c : Int) (h : BAt B w b p v bs) (hn : bs.length < 1099511627776) :
 Calls Tryz.prog 81 #[.pointer (some ⟨b, 0, none⟩), .int .u8 c] w fun e w' => e = .returned .nilIface ∧ ∃ v', BAt B w' b (.pointer (some ⟨b, 0, none⟩)) v' (bs ++ [.int .u8 c]) ∧ BFr w w' b v v' := by
 rcases h.ptr with rfl | rfl;·exact Z8h B w b v bs c h hn
 ·exact Z95 B w b v bs c h hn
theorem ScanAt.set' {w0 w : World} {sb a b : Nat} {text : ByteArray} {x : Int} (h : ScanAt w0 w sb text a) (hx : x = b) : ScanAt w0 (w.setCell ⟨sb, 1, none⟩ (.int .i64 x)) sb text b := by
 subst hx; exact h.set b
theorem ScanAt.c1' {w0 w : World} {sb a : Nat} {text : ByteArray} {x : Int} (h : ScanAt w0 w sb text a) (hx : x = a) : w.cell? ⟨sb, 1, none⟩ = some (.int .i64 x) := by
 subst hx; exact h.c1
theorem ScanAt.belowB {w0 w w' : World} {B sb a : Nat} {text : ByteArray} (h : ScanAt w0 w sb text a) (hs : sb < B) (h0 : w0.heap.size ≤ B) (hB : Below B w w') : ScanAt w0 w' sb text a :=
 ⟨(hB.block sb hs).trans h.blk, hB.os.trans h.os, hB.tape.trans h.tape, hB.output.trans h.output, Nat.le_trans h.size hB.size, fun k hk hn => (hB.block k (Nat.lt_of_lt_of_le hk h0)).trans (h.block k hk hn)⟩
theorem Zfu (c : Int) (u : UInt8) (hu : (u.toNat : Int) = c) : (Z6o c = none ∧ Lib.indexByte [110, 39, 92] c.toNat.toUInt8 = -1) ∨ (c = 110 ∧ Z6o c = some 10 ∧ Lib.indexByte [110, 39, 92] c.toNat.toUInt8 = 0) ∨ (c = 39 ∧ Z6o c = some 39 ∧ Lib.indexByte [110, 39, 92] c.toNat.toUInt8 = 1) ∨ (c = 92 ∧ Z6o c = some 92 ∧ Lib.indexByte [110, 39, 92] c.toNat.toUInt8 = 2) := by
 subst hu;have hx : ((u.toNat : Int)).toNat.toUInt8 = u := by simp
 rw [hx];by_cases h1 : u = 110;·subst h1; exact .inr (.inl ⟨rfl, rfl, rfl⟩)
 by_cases h2 : u = 39;·subst h2; exact .inr (.inr (.inl ⟨rfl, rfl, rfl⟩))
 by_cases h3 : u = 92;·subst h3; exact .inr (.inr (.inr ⟨rfl, rfl, rfl⟩))
 refine .inl ⟨?_, ?_⟩
 ·have k1 : ¬ (u.toNat : Int) = 110 := fun h => h1 (UInt8.toNat_inj.1 (by simp; omega));have k2 : ¬ (u.toNat : Int) = 39 := fun h => h2 (UInt8.toNat_inj.1 (by simp; omega));have k3 : ¬ (u.toNat : Int) = 92 := fun h => h3 (UInt8.toNat_inj.1 (by simp; omega));unfold Z6o;rw [if_neg k1, if_neg k2, if_neg k3]
 ·have k1 : ((110 : UInt8) == u) = false := by simpa using fun h => h1 h.symm
  have k2 : ((39 : UInt8) == u) = false := by simpa using fun h => h2 h.symm
  have k3 : ((92 : UInt8) == u) = false := by simpa using fun h => h3 h.symm
  simp [Lib.indexByte, k1, k2, k3]
theorem Zda (w : World) (sb a : Nat) (text : ByteArray) (h : w.heap[sb]? = some (.cells #[.string text, .int .i64 a] 91 (0, 0))) (ha : a < text.size) (hm : text.size ≤ 1000000) :
 Calls Tryz.prog 64 #[.pointer (some ⟨sb, 0, none⟩)] w fun e w' => e = .returned (.tuple #[.string ⟨(Z0f text (a + 1)).1.toArray⟩, .int .i64 (Z0f text (a + 1)).2.1, .int .i64 (Z0f text (a + 1)).2.2]) ∧ ScanAt w w' sb text (Z0f text (a + 1)).2.2 := by
 obtain ⟨R, hR⟩ : ∃ R, R = Z0f text (a + 1) := ⟨_, rfl⟩
 rw [← hR];have HR := lh hR;clear hR;have S0 := lh (ScanAt.refl h);have hsb : sb < w.heap.size := (Array.getElem?_eq_some_iff.1 h).1;have B0 := lh (BAt.new w);have S1 := lh (S0.out.below (w' := w.alloc (.cells #[.pointer none, .slice none 0 0] 110)) ((Below.refl _ _).alloc (Nat.le_refl _) _));have c0 := S1.out.c0;have c1 := S1.out.c1;have z1 := S1.out.fz 1;clear h;go_enter Tryz.func64, Tryz.ntmps64
 go_wp2;have S2 := lh ((S0.out.set (a + 1)).below (w' := (w.setCell ⟨sb, 1, none⟩ (.int .i64 ((a : Int) + 1))).alloc (.cells #[.pointer none, .slice none 0 0] 110)) ((Below.refl _ _).alloc (Nat.le_refl _) _));have hsz : (w.setCell ⟨sb, 1, none⟩ (.int .i64 ((a : Int) + 1))).heap.size = w.heap.size := World.size_setCell ..;have b2 := BAt.new (w.setCell ⟨sb, 1, none⟩ (.int .i64 ((a : Int) + 1)));rw [hsz] at b2;have B2 := lh b2;clear b2 hsz;clear S1 B0 c0 c1 z1
 go_loopw [] (fun wr => ∃ (i f : Nat) (acc : List UInt8) (p v : Value), ScanAt w wr sb text i ∧ BAt w.heap.size wr w.heap.size p v (Lib.byteCells acc) ∧ Z0j text f i acc = R ∧ text.size + 1 ≤ i + f ∧ i ≤ text.size ∧ acc.length ≤ i) (fun wr => text.size + 1 - (intOf ((wr.cell? ⟨sb, 1, none⟩).getD .nilIface)).toNat)
 case atStart => exact ⟨a + 1, text.size + 1 - (a + 1), [], _, _, S2.out, B2.out, HR.out.symm, by omega, by omega, by simp⟩
 case round =>
  obtain ⟨i, f, acc, p, v, hS, hB, hq, hf, hi, hl⟩ := hrel;have q0 := hS.c0;have q1 := hS.c1;have z1 := hS.fz 1;have SI := lh hS;have BI := lh hB;have HQ := lh hq;obtain ⟨f, rfl⟩ : ∃ g, f = g + 1 := ⟨f - 1, by omega⟩
  clear hS hB hq S2 B2;by_cases hlt : i < text.size
  ·have hd : decide (text.size ≤ i) = false := by simp; omega
   have hby := Z1s (text := text) hlt;obtain ⟨c, hc⟩ : ∃ c, c = Z9 text i := ⟨_, rfl⟩
   rw [← hc] at hby;by_cases e10 : c = 10
   ·subst e10;have hR : R = ([], 3, i) := by rw [← HQ.out]; simp [Z0j, ← hc]
    have hb2 := hby.symm;have HR2 := lh hR;clear hby hR hc;go_wp2_with fail
    refine Z0 [(true, 0), (true, 1), (true, 2), (true, 3), (true, 4), (true, 5), (true, 6), (true, 7), (true, 8), (true, 9), (true, 10), (true, 11), (true, 12), (true, 13), (true, 14), (true, 15), (true, 16), (true, 17), (true, 18)] [19, 20, 21] (fun W => W.cell? ⟨sb, 0, none⟩ = some (.string text) ∧ W.cell? ⟨sb, 1, none⟩ = some (.int .i64 i)) (by kernel_rfl) (by kernel_rfl) (fun _ _ d _ _ h => by cases d <;> exact h) ⟨q0, q1⟩ (fun hS0 => ?_);simp only [Za, List.filterMap_cons, List.filterMap_nil, List.getElem?_toArray, List.getElem?_cons_zero, List.getElem?_cons_succ, Option.map_some]
    iterate 19
     first
      | (refine Z2 ?_ (by rfl) (fun w' hS' => ?_) ?_; rotate_left; (obtain ⟨s0, s1⟩ := hS'; go_simp; first | done | with_reducible rfl); simp only [Act.put, zA, zB, zC])
      | (refine Z1 (by rfl) ?_; simp only [Act.put, zA, zB, zC])
    refine Z5 ?_;go_wp2;refine Z0 [(true, 0), (true, 1), (true, 2), (true, 3), (true, 4), (true, 5)] [6] (fun W => W.cell? ⟨sb, 1, none⟩ = some (.int .i64 i)) (by kernel_rfl) (by kernel_rfl) (fun _ _ d _ _ h => by cases d <;> exact h) q1 (fun hS0 => ?_);simp only [Za, List.filterMap_cons, List.filterMap_nil, List.getElem?_toArray, List.getElem?_cons_zero, List.getElem?_cons_succ, Option.map_some]
    iterate 6
     first
      | (refine Z2 ?_ (by rfl) (fun w' hS' => ?_) ?_; rotate_left; (have s0 := hS'; go_simp; first | done | with_reducible rfl); simp only [Act.put, zA, zB, zC])
      | (refine Z1 (by rfl) ?_; simp only [Act.put, zA, zB, zC])
    refine Z5 ?_;go_wp2;go_ret3
    rw [HR2.out];exact ⟨rfl, SI.out.drew.drew⟩
   have n10 : (c == 10) = false := by simp [e10]
   have hlen : (Lib.byteCells acc).length = acc.length := by simp [Lib.byteCells]
   have HLN := lh hlen;clear hlen;by_cases e39 : c = 39
   ·subst e39;have hR : R = if 500 < acc.length then ([], 4, i + 1) else (acc, 0, i + 1) := by rw [← HQ.out]; simp [Z0j, ← hc]; omega
    have hb2 := hby.symm;have HR2 := lh hR;clear hby hR hc e10 n10;have z1 := SI.out.drew.drew.fz 1;go_wp2_with fail
    refine Z0 [(true, 0), (true, 1), (true, 2), (true, 3), (true, 4), (true, 5), (true, 6), (true, 7), (true, 8), (true, 9), (true, 10), (true, 11), (true, 12), (true, 13), (true, 14), (true, 15), (true, 16), (true, 17), (true, 18)] [19, 20, 21] (fun W => W.cell? ⟨sb, 0, none⟩ = some (.string text) ∧ W.cell? ⟨sb, 1, none⟩ = some (.int .i64 i)) (by kernel_rfl) (by kernel_rfl) (fun _ _ d _ _ h => by cases d <;> exact h) ⟨q0, q1⟩ (fun hS0 => ?_);simp only [Za, List.filterMap_cons, List.filterMap_nil, List.getElem?_toArray, List.getElem?_cons_zero, List.getElem?_cons_succ, Option.map_some]
    iterate 19
     first
      | (refine Z2 ?_ (by rfl) (fun w' hS' => ?_) ?_; rotate_left; (obtain ⟨s0, s1⟩ := hS'; go_simp; first | done | with_reducible rfl); simp only [Act.put, zA, zB, zC])
      | (refine Z1 (by rfl) ?_; simp only [Act.put, zA, zB, zC])
    refine Z5 ?_;go_wp2;refine Z0 [(true, 0), (true, 1), (true, 2), (true, 3), (true, 4), (true, 5), (true, 6), (true, 7)] [8, 9] (fun W => W.cell? ⟨sb, 0, none⟩ = some (.string text) ∧ W.cell? ⟨sb, 1, none⟩ = some (.int .i64 i)) (by kernel_rfl) (by kernel_rfl) (fun _ _ d _ _ h => by cases d <;> exact h) ⟨q0, q1⟩ (fun hS0 => ?_);simp only [Za, List.filterMap_cons, List.filterMap_nil, List.getElem?_toArray, List.getElem?_cons_zero, List.getElem?_cons_succ, Option.map_some]
    iterate 8
     first
      | (refine Z2 ?_ (by rfl) (fun w' hS' => ?_) ?_; rotate_left; (obtain ⟨s0, s1⟩ := hS'; go_simp; first | done | with_reducible rfl); simp only [Act.put, zA, zB, zC])
      | (refine Z1 (by rfl) ?_; simp only [Act.put, zA, zB, zC])
    refine Z5 ?_;go_wp2_with fail
    have SN := (SI.out.set' (b := i + 1) (x := (i : Int) + 1) (by omega)).drew.drew;have BN := (BI.out.set hsb (.int .i64 ((i : Int) + 1))).drew.drew;have HL := Zio BN;rw [HLN.out] at HL;have HL := lh HL;have q1' := SN.c1' (x := (i : Int) + 1) (by omega);have hlS := SN.lt;have BN := lh BN;have SN := lh SN;refine HL.out.mono ?_;rintro e w1 ⟨rfl, hw⟩;rw [← hw] at BN SN q1' hlS;clear hw HL z1 q0 q1;by_cases h5 : 500 < acc.length
    ·go_wp2;refine Z0 [(true, 0), (true, 1), (true, 2), (true, 3), (true, 4), (true, 5)] [6] (fun W => W.cell? ⟨sb, 1, none⟩ = some (.int .i64 ((i : Int) + 1))) (by kernel_rfl) (by kernel_rfl) (fun _ _ d _ _ h => by cases d <;> exact h) q1' (fun hS0 => ?_);simp only [Za, List.filterMap_cons, List.filterMap_nil, List.getElem?_toArray, List.getElem?_cons_zero, List.getElem?_cons_succ, Option.map_some]
     iterate 6
      first
       | (refine Z2 ?_ (by rfl) (fun w' hS' => ?_) ?_; rotate_left; (have s0 := hS'; go_simp; first | done | with_reducible rfl); simp only [Act.put, zA, zB, zC])
       | (refine Z1 (by rfl) ?_; simp only [Act.put, zA, zB, zC])
     refine Z5 ?_;go_wp2;go_ret3
     rw [HR2.out, if_pos h5];exact ⟨rfl, SN.out.drew⟩
    ·go_wp2;refine Z0 [(true, 1), (true, 2), (true, 3), (true, 4), (false, 0), (true, 5), (true, 6)] [7] (fun W => W.cell? ⟨sb, 1, none⟩ = some (.int .i64 ((i : Int) + 1))) (by kernel_rfl) (by kernel_rfl) (fun _ _ d _ _ h => by cases d <;> exact h) q1' (fun hS0 => ?_);simp only [Za, List.filterMap_cons, List.filterMap_nil, List.getElem?_toArray, List.getElem?_cons_zero, List.getElem?_cons_succ, Option.map_some]
     iterate 4
      first
       | (refine Z2 ?_ (by rfl) (fun w' hS' => ?_) ?_; rotate_left; (have s0 := hS'; go_simp; first | done | with_reducible rfl); simp only [Act.put, zA, zB, zC])
       | (refine Z1 (by rfl) ?_; simp only [Act.put, zA, zB, zC])
     refine Z6 (fun K hK => ?_);go_simp
     refine (Zdu acc BN.out.drew (by have := (Array.getElem?_eq_some_iff.1 BN.out.blk).1; simp; omega)).mono ?_;rintro e w2 ⟨rfl, hB⟩;have S2 := SN.out.drew.belowB hsb (Nat.le_refl _) hB;refine hK _ _ (S2.c1' (by omega)) ?_;have S2 := lh S2;clear hK K hB
     iterate 2
      first
       | (refine Z2 ?_ (by rfl) (fun w' hS' => ?_) ?_; rotate_left; (have s0 := hS'; go_simp; first | done | with_reducible rfl); simp only [Act.put, zA, zB, zC])
       | (refine Z1 (by rfl) ?_; simp only [Act.put, zA, zB, zC])
     refine Z5 ?_;go_wp2;go_ret3
     rw [HR2.out, if_neg h5];exact ⟨rfl, S2.out⟩
   have n39 : (c == 39) = false := by simp [e39]
   by_cases e92 : c = 92
   ·subst e92;have hb2 := hby.symm;clear hby e10 n10 e39 n39;have HC := lh hc;clear hc;go_wp2_with fail
    refine Z0 [(true, 0), (true, 1), (true, 2), (true, 3), (true, 4), (true, 5), (true, 6), (true, 7), (true, 8), (true, 9), (true, 10), (true, 11), (true, 12), (true, 13), (true, 14), (true, 15), (true, 16), (true, 17), (true, 18)] [19, 20, 21] (fun W => W.cell? ⟨sb, 0, none⟩ = some (.string text) ∧ W.cell? ⟨sb, 1, none⟩ = some (.int .i64 i)) (by kernel_rfl) (by kernel_rfl) (fun _ _ d _ _ h => by cases d <;> exact h) ⟨q0, q1⟩ (fun hS0 => ?_);simp only [Za, List.filterMap_cons, List.filterMap_nil, List.getElem?_toArray, List.getElem?_cons_zero, List.getElem?_cons_succ, Option.map_some]
    iterate 19
     first
      | (refine Z2 ?_ (by rfl) (fun w' hS' => ?_) ?_; rotate_left; (obtain ⟨s0, s1⟩ := hS'; go_simp; first | done | with_reducible rfl); simp only [Act.put, zA, zB, zC])
      | (refine Z1 (by rfl) ?_; simp only [Act.put, zA, zB, zC])
    refine Z5 ?_;go_wp2;refine Z0 [(true, 0), (true, 1), (true, 2), (true, 3), (true, 4), (true, 5), (true, 6), (true, 7)] [8, 9] (fun W => W.cell? ⟨sb, 0, none⟩ = some (.string text) ∧ W.cell? ⟨sb, 1, none⟩ = some (.int .i64 i)) (by kernel_rfl) (by kernel_rfl) (fun _ _ d _ _ h => by cases d <;> exact h) ⟨q0, q1⟩ (fun hS0 => ?_);simp only [Za, List.filterMap_cons, List.filterMap_nil, List.getElem?_toArray, List.getElem?_cons_zero, List.getElem?_cons_succ, Option.map_some]
    iterate 8
     first
      | (refine Z2 ?_ (by rfl) (fun w' hS' => ?_) ?_; rotate_left; (obtain ⟨s0, s1⟩ := hS'; go_simp; first | done | with_reducible rfl); simp only [Act.put, zA, zB, zC])
      | (refine Z1 (by rfl) ?_; simp only [Act.put, zA, zB, zC])
    refine Z5 ?_;go_wp2_with fail
    have SN := (SI.out.set' (b := i + 1) (x := (i : Int) + 1) (by omega)).drew.drew;have BN := (BI.out.set hsb (.int .i64 ((i : Int) + 1))).drew.drew;obtain ⟨w1, hw⟩ : ∃ W, W = (wr.setCell ⟨sb, 1, none⟩ (.int .i64 ((i : Int) + 1))).drew.drew := ⟨_, rfl⟩
    rw [← hw] at BN SN ⊢;have p0 := SN.c0;have p1 := SN.c1' (x := (i : Int) + 1) (by omega);have pz := SN.fz 1;have BN := lh BN;have SN := lh SN;clear hw q0 q1 z1 hb2;by_cases h4 : i + 1 < text.size
    ·have hby := Z1s (text := text) h4;have hd4 : decide ((i : Int) + 1 < text.size) = true := by simp; omega
     obtain ⟨k, hk⟩ : ∃ k, k = Lib.indexByte [110, 39, 92] ((text[i + 1].toNat : Int)).toNat.toUInt8 := ⟨_, rfl⟩
     have hesc := Zfu (Z9 text (i + 1)) text[i + 1] hby.symm;rw [hby, ← hk] at hesc;have HX : Hid (∀ w, Calls Tryz.prog 65 #[.string ⟨#[110, 39, 92]⟩, .int .u8 (text[i + 1].toNat : Int)] w fun e w' => e = .returned (.int .i64 k) ∧ w' = w) :=
      lh fun w => (Tryz.strings_IndexByte ⟨#[110, 39, 92]⟩ (text[i + 1].toNat : Int) w).mono fun e w' h => ⟨by rw [hk]; exact h.1, h.2⟩
     have HBY := lh hby;have HE := lh hesc;clear hby hesc hk;go_wp2_with fail
     refine Z0 [(true, 0), (true, 1), (true, 2), (true, 3), (true, 4), (true, 5), (true, 6), (true, 7), (true, 8)] [9] (fun W => W.cell? ⟨sb, 0, none⟩ = some (.string text) ∧ W.cell? ⟨sb, 1, none⟩ = some (.int .i64 ((i : Int) + 1))) (by kernel_rfl) (by kernel_rfl) (fun _ _ d _ _ h => by cases d <;> exact h) ⟨p0, p1⟩ (fun hS0 => ?_);simp only [Za, List.filterMap_cons, List.filterMap_nil, List.getElem?_toArray, List.getElem?_cons_zero, List.getElem?_cons_succ, Option.map_some]
     iterate 9
      first
       | (refine Z2 ?_ (by rfl) (fun w' hS' => ?_) ?_; rotate_left; (obtain ⟨s0, s1⟩ := hS'; go_simp; first | done | with_reducible rfl); simp only [Act.put, zA, zB, zC])
       | (refine Z1 (by rfl) ?_; simp only [Act.put, zA, zB, zC])
     refine Z5 ?_;go_wp2;refine Z0 [(true, 0), (true, 1), (true, 2), (true, 3), (true, 4), (true, 5), (true, 6), (true, 7)] [8, 9, 10] (fun W => W.cell? ⟨sb, 0, none⟩ = some (.string text) ∧ W.cell? ⟨sb, 1, none⟩ = some (.int .i64 ((i : Int) + 1))) (by kernel_rfl) (by kernel_rfl) (fun _ _ d _ _ h => by cases d <;> exact h) ⟨p0, p1⟩ (fun hS0 => ?_);simp only [Za, List.filterMap_cons, List.filterMap_nil, List.getElem?_toArray, List.getElem?_cons_zero, List.getElem?_cons_succ, Option.map_some]
     iterate 8
      first
       | (refine Z2 ?_ (by rfl) (fun w' hS' => ?_) ?_; rotate_left; (obtain ⟨s0, s1⟩ := hS'; go_simp; first | done | with_reducible rfl); simp only [Act.put, zA, zB, zC])
       | (refine Z1 (by rfl) ?_; simp only [Act.put, zA, zB, zC])
     refine Z5 ?_;go_wp2_with fail
     refine (HX.out _).mono ?_;rintro e w2 ⟨rfl, hw⟩;have BN2 := BN.out.drew.drew;have SN2 := SN.out.drew.drew;rw [← hw] at BN2 SN2;have p1' := SN2.c1' (x := (i : Int) + 1) (by omega);have pz' := SN2.fz 1;have BN2 := lh BN2;have SN2 := lh SN2;clear hw BN SN p0 p1 pz HX;have fin : ∀ (x : UInt8), Hid (Z6o (text[i + 1].toNat : Int) = some x) → Z0j text f (i + 2) (acc ++ [x]) = R := by
      intro x hx;rw [← HQ.out];simp only [Z0j];rw [if_neg (by rw [← HC.out]; omega), if_neg (by rw [← HC.out]; omega), if_pos HC.out.symm, if_pos h4, HBY.out, hx.out]
     have FIN := lh fin;have HLb : Hid ((Lib.byteCells acc).length < 1099511627776) := lh (by rw [HLN.out]; omega);clear fin;rcases HE.out with ⟨he, rfl⟩ | ⟨_, he, rfl⟩ | ⟨_, he, rfl⟩ | ⟨_, he, rfl⟩
     ·have hR : R = ([], 3, i + 1) := by
       rw [← HQ.out];simp only [Z0j];rw [if_neg (by rw [← HC.out]; omega), if_neg (by rw [← HC.out]; omega), if_pos HC.out.symm, if_pos h4, HBY.out, he]
      have HR2 := lh hR;clear hR he HE;go_wp2;refine Z0 [(true, 0), (true, 1), (true, 2), (true, 3), (true, 4), (true, 5)] [6] (fun W => W.cell? ⟨sb, 1, none⟩ = some (.int .i64 ((i : Int) + 1))) (by kernel_rfl) (by kernel_rfl) (fun _ _ d _ _ h => by cases d <;> exact h) p1' (fun hS0 => ?_);simp only [Za, List.filterMap_cons, List.filterMap_nil, List.getElem?_toArray, List.getElem?_cons_zero, List.getElem?_cons_succ, Option.map_some]
      iterate 6
       first
        | (refine Z2 ?_ (by rfl) (fun w' hS' => ?_) ?_; rotate_left; (have s0 := hS'; go_simp; first | done | with_reducible rfl); simp only [Act.put, zA, zB, zC])
        | (refine Z1 (by rfl) ?_; simp only [Act.put, zA, zB, zC])
      refine Z5 ?_;go_wp2;go_ret3
      rw [HR2.out];exact ⟨rfl, SN2.out.drew⟩
     all_goals
      have FI := lh (FIN.out _ (lh he));clear he HE FIN;go_wp2_with fail
      refine (Z73 _ _ _ _ _ _ _ BN2.out HLb.out).mono ?_;rintro e w3 ⟨rfl, v', hB3, hF3⟩;have S3 := SN2.out.bfr BN2.out hsb (Nat.le_refl _) hF3;have r1 := S3.c1' (x := (i : Int) + 1) (by omega);have rz := S3.fz 1;have B3 := lh hB3;have S3 := lh S3;clear hB3 hF3 p1' pz';go_wp2;go_roundw
      case rel => exact ⟨i + 2, f, _, _, _, S3.out.set' (by omega), (by rw [Lib.byteCells, List.map_append]; exact B3.out.set hsb _), FI.out, by omega, by omega, by simp; omega⟩
      case measure =>
       have e1 := (S3.out.set' (b := i + 2) (x := (i : Int) + 1 + 1) (by omega)).c1;have e2 := SI.out.c1;rw [e1, e2];simp [intOf];omega
    ·have hd4 : decide ((i : Int) + 1 < text.size) = false := by simp; omega
     have hR : R = ([], 3, i + 1) := by
      rw [← HQ.out];simp only [Z0j];rw [if_neg (by rw [← HC.out]; omega), if_neg (by rw [← HC.out]; omega), if_pos HC.out.symm, if_neg h4]
     have HR2 := lh hR;clear hR;go_wp2_with fail
     refine Z0 [(true, 0), (true, 1), (true, 2), (true, 3), (true, 4), (true, 5), (true, 6), (true, 7), (true, 8)] [9] (fun W => W.cell? ⟨sb, 0, none⟩ = some (.string text) ∧ W.cell? ⟨sb, 1, none⟩ = some (.int .i64 ((i : Int) + 1))) (by kernel_rfl) (by kernel_rfl) (fun _ _ d _ _ h => by cases d <;> exact h) ⟨p0, p1⟩ (fun hS0 => ?_);simp only [Za, List.filterMap_cons, List.filterMap_nil, List.getElem?_toArray, List.getElem?_cons_zero, List.getElem?_cons_succ, Option.map_some]
     iterate 9
      first
       | (refine Z2 ?_ (by rfl) (fun w' hS' => ?_) ?_; rotate_left; (obtain ⟨s0, s1⟩ := hS'; go_simp; first | done | with_reducible rfl); simp only [Act.put, zA, zB, zC])
       | (refine Z1 (by rfl) ?_; simp only [Act.put, zA, zB, zC])
     refine Z5 ?_;go_wp2;refine Z0 [(true, 0), (true, 1), (true, 2), (true, 3), (true, 4), (true, 5)] [6] (fun W => W.cell? ⟨sb, 1, none⟩ = some (.int .i64 ((i : Int) + 1))) (by kernel_rfl) (by kernel_rfl) (fun _ _ d _ _ h => by cases d <;> exact h) p1 (fun hS0 => ?_);simp only [Za, List.filterMap_cons, List.filterMap_nil, List.getElem?_toArray, List.getElem?_cons_zero, List.getElem?_cons_succ, Option.map_some]
     iterate 6
      first
       | (refine Z2 ?_ (by rfl) (fun w' hS' => ?_) ?_; rotate_left; (have s0 := hS'; go_simp; first | done | with_reducible rfl); simp only [Act.put, zA, zB, zC])
       | (refine Z1 (by rfl) ?_; simp only [Act.put, zA, zB, zC])
     refine Z5 ?_;go_wp2;go_ret3
     rw [HR2.out];exact ⟨rfl, SN.out.drew.drew⟩
   have n92 : (c == 92) = false := by simp [e92]
   have FI : Hid (Z0j text f (i + 1) (acc ++ [text.data.getD i 0]) = R) := by
    refine lh ?_;rw [← HQ.out];simp only [Z0j];rw [if_neg (by rw [← hc]; omega), if_neg (by rw [← hc]; omega), if_neg (by rw [← hc]; omega)]
   have HLb : Hid ((Lib.byteCells acc).length < 1099511627776) := lh (by rw [HLN.out]; omega);have HCB : Hid (Lib.byteCells acc ++ [.int .u8 c] = Lib.byteCells (acc ++ [text.data.getD i 0])) := lh (by rw [Lib.byteCells, Lib.byteCells, List.map_append, hc]; rfl);have hb2 := hby.symm;clear hby hc e10 e39 e92;go_wp2_with fail
   refine Z0 [(true, 0), (true, 1), (true, 2), (true, 3), (true, 4), (true, 5), (true, 6), (true, 7), (true, 8), (true, 9), (true, 10), (true, 11), (true, 12), (true, 13), (true, 14), (true, 15), (true, 16), (true, 17), (true, 18)] [19, 20, 21] (fun W => W.cell? ⟨sb, 0, none⟩ = some (.string text) ∧ W.cell? ⟨sb, 1, none⟩ = some (.int .i64 i)) (by kernel_rfl) (by kernel_rfl) (fun _ _ d _ _ h => by cases d <;> exact h) ⟨q0, q1⟩ (fun hS0 => ?_);simp only [Za, List.filterMap_cons, List.filterMap_nil, List.getElem?_toArray, List.getElem?_cons_zero, List.getElem?_cons_succ, Option.map_some]
   iterate 19
    first
     | (refine Z2 ?_ (by rfl) (fun w' hS' => ?_) ?_; rotate_left; (obtain ⟨s0, s1⟩ := hS'; go_simp; first | done | with_reducible rfl); simp only [Act.put, zA, zB, zC])
     | (refine Z1 (by rfl) ?_; simp only [Act.put, zA, zB, zC])
   refine Z5 ?_;go_wp2;refine Z0 [(true, 0), (true, 1), (true, 2), (true, 3), (true, 4), (true, 5), (true, 6), (true, 7)] [8, 9] (fun W => W.cell? ⟨sb, 0, none⟩ = some (.string text) ∧ W.cell? ⟨sb, 1, none⟩ = some (.int .i64 i)) (by kernel_rfl) (by kernel_rfl) (fun _ _ d _ _ h => by cases d <;> exact h) ⟨q0, q1⟩ (fun hS0 => ?_);simp only [Za, List.filterMap_cons, List.filterMap_nil, List.getElem?_toArray, List.getElem?_cons_zero, List.getElem?_cons_succ, Option.map_some]
   iterate 8
    first
     | (refine Z2 ?_ (by rfl) (fun w' hS' => ?_) ?_; rotate_left; (obtain ⟨s0, s1⟩ := hS'; go_simp; first | done | with_reducible rfl); simp only [Act.put, zA, zB, zC])
     | (refine Z1 (by rfl) ?_; simp only [Act.put, zA, zB, zC])
   refine Z5 ?_;go_wp2_with fail
   refine (Z73 _ _ _ _ _ _ c BI.out.drew.drew HLb.out).mono ?_;rintro e w3 ⟨rfl, v', hB3, hF3⟩;have S3 := SI.out.drew.drew.bfr BI.out.drew.drew hsb (Nat.le_refl _) hF3;rw [HCB.out] at hB3;have r1 := S3.c1;have rz := S3.fz 1;have B3 := lh hB3;have S3 := lh S3;clear hB3 hF3 q0 q1 z1;go_wp2;go_roundw
   case rel => exact ⟨i + 1, f, _, _, _, S3.out.set' (by omega), B3.out.set hsb _, FI.out, by omega, by omega, by simp; omega⟩
   case measure =>
    have e1 := (S3.out.set' (b := i + 1) (x := (i : Int) + 1) (by omega)).c1;have e2 := SI.out.c1;rw [e1, e2];simp [intOf];omega
  ·have hge : (text.size : Int) ≤ i := by omega
   have hge2 : text.size ≤ i := by omega
   have hR : R = ([], 3, i) := by rw [← HQ.out]; simp [Z0j, show text.size ≤ i by omega]
   have HR2 := lh hR;clear hR;go_wp2_with fail
   refine Z0 [(true, 0), (true, 1), (true, 2), (true, 3), (true, 4), (true, 5), (true, 6), (true, 7), (true, 8), (true, 9), (true, 10), (true, 11), (true, 12), (true, 13), (true, 14), (true, 15), (true, 16), (true, 17), (true, 18)] [19, 20, 21] (fun W => W.cell? ⟨sb, 0, none⟩ = some (.string text) ∧ W.cell? ⟨sb, 1, none⟩ = some (.int .i64 i)) (by kernel_rfl) (by kernel_rfl) (fun _ _ d _ _ h => by cases d <;> exact h) ⟨q0, q1⟩ (fun hS0 => ?_);simp only [Za, List.filterMap_cons, List.filterMap_nil, List.getElem?_toArray, List.getElem?_cons_zero, List.getElem?_cons_succ, Option.map_some]
   iterate 19
    first
     | (refine Z2 ?_ (by rfl) (fun w' hS' => ?_) ?_; rotate_left; (obtain ⟨s0, s1⟩ := hS'; go_simp; first | done | with_reducible rfl); simp only [Act.put, zA, zB, zC])
     | (refine Z1 (by rfl) ?_; simp only [Act.put, zA, zB, zC])
   refine Z5 ?_;go_wp2;refine Z0 [(true, 0), (true, 1), (true, 2), (true, 3), (true, 4), (true, 5)] [6] (fun W => W.cell? ⟨sb, 1, none⟩ = some (.int .i64 i)) (by kernel_rfl) (by kernel_rfl) (fun _ _ d _ _ h => by cases d <;> exact h) q1 (fun hS0 => ?_);simp only [Za, List.filterMap_cons, List.filterMap_nil, List.getElem?_toArray, List.getElem?_cons_zero, List.getElem?_cons_succ, Option.map_some]
   iterate 6
    first
     | (refine Z2 ?_ (by rfl) (fun w' hS' => ?_) ?_; rotate_left; (have s0 := hS'; go_simp; first | done | with_reducible rfl); simp only [Act.put, zA, zB, zC])
     | (refine Z1 (by rfl) ?_; simp only [Act.put, zA, zB, zC])
   refine Z5 ?_;go_wp2;go_ret3
   rw [HR2.out];exact ⟨rfl, SI.out.drew.drew⟩
end Go.Proofs.YtgmnfgljkocnpaaGreatDoor
