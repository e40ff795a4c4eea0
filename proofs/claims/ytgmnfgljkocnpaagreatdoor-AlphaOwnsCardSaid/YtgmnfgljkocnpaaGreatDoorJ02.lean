/- Package lex: the scanner's run. strings.Builder at this dump: copyCheck (after the shelf's own text for it). -/
import Derived.Test.YtgmnfgljkocnpaaGreatDoorJ01
import Derived.Test.YtgmnfgljkocnpaaGreatDoorProg
import Derived.Deep.AppendLies
import Derived.Lib.Builder
import Derived.Deep.RegionHeld3
import Derived.Deep.RegionLaw
import Derived.Deep.DeepMust
import Derived.WalkSpells
import Derived.WalkLawsBesides
namespace Go.Proofs.YtgmnfgljkocnpaaGreatDoor
open Go Go.RowKit
set_option maxRecDepth 100000
set_option maxHeartbeats 20000000
structure ScanAt (w0 w : World) (sb : Nat) (text : ByteArray) (at' : Nat) : Prop where
 blk : w.heap[sb]? = some (.cells #[.string text, .int .i64 at'] 91 (0, 0))
 os : w.os = w0.os
 tape : w.tape = w0.tape
 output : w.output = w0.output
 size : w0.heap.size ≤ w.heap.size
 block : ∀ k, k < w0.heap.size → k ≠ sb → w.heap[k]? = w0.heap[k]?
variable {w0 w w' : World} {sb : Nat} {text : ByteArray} {a b : Nat}
theorem ScanAt.refl (h : w.heap[sb]? = some (.cells #[.string text, .int .i64 a] 91 (0, 0))) : ScanAt w w sb text a := ⟨h, rfl, rfl, rfl, Nat.le_refl _, fun _ _ _ => rfl⟩
theorem ScanAt.trans (h : ScanAt w0 w sb text a) (g : ScanAt w w' sb text b) : ScanAt w0 w' sb text b :=
 ⟨g.blk, g.os.trans h.os, g.tape.trans h.tape, g.output.trans h.output, Nat.le_trans h.size g.size, fun k hk hn => (g.block k (Nat.lt_of_lt_of_le hk h.size) hn).trans (h.block k hk hn)⟩
theorem ScanAt.drew (h : ScanAt w0 w sb text a) : ScanAt w0 w.drew sb text a := ⟨h.blk, h.os, h.tape, h.output, h.size, h.block⟩
theorem ScanAt.lt (h : ScanAt w0 w sb text a) : sb < w.heap.size := (Array.getElem?_eq_some_iff.1 h.blk).1
theorem ScanAt.below (h : ScanAt w0 w sb text a) (hB : Below w.heap.size w w') : ScanAt w0 w' sb text a :=
 ⟨(hB.block sb h.lt).trans h.blk, hB.os.trans h.os, hB.tape.trans h.tape, hB.output.trans h.output, Nat.le_trans h.size hB.size, fun k hk hn => (hB.block k (Nat.lt_of_lt_of_le hk h.size)).trans (h.block k hk hn)⟩
theorem ScanAt.c0 (h : ScanAt w0 w sb text a) : w.cell? ⟨sb, 0, none⟩ = some (.string text) := by simp [World.cell?, h.blk]
theorem ScanAt.c1 (h : ScanAt w0 w sb text a) : w.cell? ⟨sb, 1, none⟩ = some (.int .i64 a) := by simp [World.cell?, h.blk]
theorem ScanAt.fz (h : ScanAt w0 w sb text a) (o : Nat) : w.frozen? ⟨sb, o, none⟩ = false := by simp [World.frozen?, h.blk]
theorem ScanAt.set (h : ScanAt w0 w sb text a) (b : Nat) : ScanAt w0 (w.setCell ⟨sb, 1, none⟩ (.int .i64 b)) sb text b :=
 ⟨Zn _ h.blk, h.os, h.tape, h.output, by simpa using h.size, fun k hk hn => (Below.heap_setCell _ _ _ _ hn).trans (h.block k hk hn)⟩
def Z9 (text : ByteArray) (i : Nat) : Int := ((text.data.getD i 0).toNat : Int)
def Zw (p : Int → Bool) (text : ByteArray) : Nat → Nat → Nat
 | 0, i => i
 | f + 1, i => if i < text.size && p (Z9 text i) then Zw p text f (i + 1) else i
theorem Z1s {i : Nat} (h : i < text.size) : Z9 text i = ((text[i]'h).toNat : Int) := by
 unfold Z9;have : i < text.data.size := h;simp only [Array.getD, dif_pos this];rfl
theorem Z4q {p : Int → Bool} {j : Nat} (h : j < text.size) (hp : p (Z9 text j) = true) : Zw p text (text.size - j) j = Zw p text (text.size - (j + 1)) (j + 1) := by
 obtain ⟨f, hf⟩ : ∃ f, text.size - j = f + 1 := ⟨text.size - j - 1, by omega⟩
 rw [hf, show text.size - (j + 1) = f by omega];simp [Zw, h, hp]
theorem Z31 {p : Int → Bool} {j : Nat} (hp : ¬ j < text.size ∨ p (Z9 text j) = false) : Zw p text (text.size - j) j = j := by
 cases hf : text.size - j with
 | zero => rfl
 | succ f =>
   rcases hp with h | h;·omega
   ·simp [Zw, h]
theorem Zga (h : w.heap[sb]? = some (.cells #[.string text, .int .i64 a] 91 (0, 0))) (ha : a ≤ text.size) (hm : text.size ≤ 1000000) :
 Calls Tryz.prog 58 #[.pointer (some ⟨sb, 0, none⟩), .func (.func 59) #[] #[]] w fun e w' => ∃ b, b = Zw Z1a text (text.size - a) a ∧ a ≤ b ∧ b ≤ text.size ∧ e = .returned (.string (text.extract a b)) ∧ ScanAt w w' sb text b := by
 have S0 := lh (ScanAt.refl h);have c0 := S0.out.c0;have c1 := S0.out.c1;clear h;go_enter Tryz.func58, Tryz.ntmps58
 go_wp2;go_loopw [] (fun wr => ∃ j : Nat, a ≤ j ∧ j ≤ text.size ∧ Zw Z1a text (text.size - j) j = Zw Z1a text (text.size - a) a ∧ ScanAt w wr sb text j) (fun wr => text.size - (intOf ((wr.cell? ⟨sb, 1, none⟩).getD .nilIface)).toNat)
 case atStart => exact ⟨a, Nat.le_refl _, ha, rfl, S0.out⟩
 case round =>
  obtain ⟨j, hj1, hj2, hsp, hS⟩ := hrel;have q0 := hS.c0;have q1 := hS.c1;have SJ := lh hS;have HSP := lh hsp;clear hS hsp c0 c1;by_cases hlt : j < text.size
  ·obtain ⟨B, hB⟩ : ∃ B, B = Z1a (Z9 text j) := ⟨_, rfl⟩
   have HB := lh hB;have HC := Zeu wr.drew (Z9 text j);rw [← hB, Z1s hlt] at HC;have HC := lh HC;clear hB;cases B
   ·go_wp2_with fail
    refine Z0 [(true, 0), (true, 1), (true, 2), (true, 3), (true, 4), (true, 5), (true, 6), (true, 7), (true, 8), (true, 9), (true, 10), (true, 11), (true, 12), (true, 13), (true, 14), (true, 15), (true, 16), (true, 17), (true, 18), (true, 19), (true, 20)] [21, 22] (fun W => W.cell? ⟨sb, 0, none⟩ = some (.string text) ∧ W.cell? ⟨sb, 1, none⟩ = some (.int .i64 j)) (by kernel_rfl) (by kernel_rfl) (fun _ _ d _ _ h => by cases d <;> exact h) ⟨q0, q1⟩ (fun hS0 => ?_)
    simp only [Za, List.filterMap_cons, List.filterMap_nil, List.getElem?_toArray, List.getElem?_cons_zero, List.getElem?_cons_succ, Option.map_some]
    iterate 21
     first
      | (refine Z2 ?_ (by rfl) (fun w' hS' => ?_) ?_; rotate_left; (obtain ⟨s0, s1⟩ := hS'; go_simp; first | done | with_reducible rfl); simp only [Act.put, zA, zB, zC])
      | (refine Z1 (by rfl) ?_; simp only [Act.put, zA, zB, zC])
    refine Z5 ?_;go_wp2_with fail
    refine HC.out.mono ?_;rintro e w1 ⟨rfl, rfl⟩;go_wp2_with fail
    refine Z0 [(true, 0), (true, 1), (true, 2), (true, 3), (true, 4), (true, 5), (true, 6), (true, 7), (true, 8)] [9, 10] (fun W => W.cell? ⟨sb, 0, none⟩ = some (.string text) ∧ W.cell? ⟨sb, 1, none⟩ = some (.int .i64 j)) (by kernel_rfl) (by kernel_rfl) (fun _ _ d _ _ h => by cases d <;> exact h) ⟨q0, q1⟩ (fun hS0 => ?_);simp only [Za, List.filterMap_cons, List.filterMap_nil, List.getElem?_toArray, List.getElem?_cons_zero, List.getElem?_cons_succ, Option.map_some]
    iterate 9
     first
      | (refine Z2 ?_ (by rfl) (fun w' hS' => ?_) ?_; rotate_left; (obtain ⟨s0, s1⟩ := hS'; go_simp; first | done | with_reducible rfl); simp only [Act.put, zA, zB, zC])
      | (refine Z1 (by rfl) ?_; simp only [Act.put, zA, zB, zC])
    refine Z5 ?_;go_wp2;go_ret;exact ⟨j, by rw [← HSP.out]; exact (Z31 (.inr HB.out.symm)).symm, hj1, hj2, rfl, SJ.out.drew.drew⟩
   ·go_wp2_with fail
    refine Z0 [(true, 0), (true, 1), (true, 2), (true, 3), (true, 4), (true, 5), (true, 6), (true, 7), (true, 8), (true, 9), (true, 10), (true, 11), (true, 12), (true, 13), (true, 14), (true, 15), (true, 16), (true, 17), (true, 18), (true, 19), (true, 20)] [21, 22] (fun W => W.cell? ⟨sb, 0, none⟩ = some (.string text) ∧ W.cell? ⟨sb, 1, none⟩ = some (.int .i64 j)) (by kernel_rfl) (by kernel_rfl) (fun _ _ d _ _ h => by cases d <;> exact h) ⟨q0, q1⟩ (fun hS0 => ?_)
    simp only [Za, List.filterMap_cons, List.filterMap_nil, List.getElem?_toArray, List.getElem?_cons_zero, List.getElem?_cons_succ, Option.map_some]
    iterate 21
     first
      | (refine Z2 ?_ (by rfl) (fun w' hS' => ?_) ?_; rotate_left; (obtain ⟨s0, s1⟩ := hS'; go_simp; first | done | with_reducible rfl); simp only [Act.put, zA, zB, zC])
      | (refine Z1 (by rfl) ?_; simp only [Act.put, zA, zB, zC])
    refine Z5 ?_;go_wp2_with fail
    refine HC.out.mono ?_;rintro e w1 ⟨rfl, rfl⟩;have z1 := SJ.out.fz 1;go_wp2;go_roundw
    case rel => exact ⟨j + 1, by omega, by omega, by rw [← Z4q hlt HB.out.symm]; exact HSP.out, SJ.out.drew.set (j + 1)⟩
    case measure =>
     have e1 : (wr.setCell ⟨sb, 1, none⟩ (.int .i64 ((j : Int) + 1))).cell? ⟨sb, 1, none⟩ = some (.int .i64 ((j : Int) + 1)) := (SJ.out.set (j + 1)).c1;have e2 := SJ.out.c1;rw [World.cell?_drew, e1, e2];simp [intOf];omega
  ·go_wp2_with fail
   refine Z0 [(true, 0), (true, 1), (true, 2), (true, 3), (true, 4), (true, 5), (true, 6), (true, 7), (true, 8), (true, 9), (true, 10), (true, 11), (true, 12), (true, 13), (true, 14), (true, 15), (true, 16), (true, 17), (true, 18), (true, 19), (true, 20)] [21, 22] (fun W => W.cell? ⟨sb, 0, none⟩ = some (.string text) ∧ W.cell? ⟨sb, 1, none⟩ = some (.int .i64 j)) (by kernel_rfl) (by kernel_rfl) (fun _ _ d _ _ h => by cases d <;> exact h) ⟨q0, q1⟩ (fun hS0 => ?_)
   simp only [Za, List.filterMap_cons, List.filterMap_nil, List.getElem?_toArray, List.getElem?_cons_zero, List.getElem?_cons_succ, Option.map_some]
   iterate 21
    first
     | (refine Z2 ?_ (by rfl) (fun w' hS' => ?_) ?_; rotate_left; (obtain ⟨s0, s1⟩ := hS'; go_simp; first | done | with_reducible rfl); simp only [Act.put, zA, zB, zC])
     | (refine Z1 (by rfl) ?_; simp only [Act.put, zA, zB, zC])
   refine Z5 ?_;go_wp2_with fail
   refine Z0 [(true, 0), (true, 1), (true, 2), (true, 3), (true, 4), (true, 5), (true, 6), (true, 7), (true, 8)] [9, 10] (fun W => W.cell? ⟨sb, 0, none⟩ = some (.string text) ∧ W.cell? ⟨sb, 1, none⟩ = some (.int .i64 j)) (by kernel_rfl) (by kernel_rfl) (fun _ _ d _ _ h => by cases d <;> exact h) ⟨q0, q1⟩ (fun hS0 => ?_);simp only [Za, List.filterMap_cons, List.filterMap_nil, List.getElem?_toArray, List.getElem?_cons_zero, List.getElem?_cons_succ, Option.map_some]
   iterate 9
    first
     | (refine Z2 ?_ (by rfl) (fun w' hS' => ?_) ?_; rotate_left; (obtain ⟨s0, s1⟩ := hS'; go_simp; first | done | with_reducible rfl); simp only [Act.put, zA, zB, zC])
     | (refine Z1 (by rfl) ?_; simp only [Act.put, zA, zB, zC])
   refine Z5 ?_;go_wp2;go_ret;exact ⟨j, by rw [← HSP.out]; exact (Z31 (.inl hlt)).symm, hj1, hj2, rfl, SJ.out.drew.drew⟩
theorem Zhk (h : w.heap[sb]? = some (.cells #[.string text, .int .i64 a] 91 (0, 0))) (ha : a ≤ text.size) (hm : text.size ≤ 1000000) :
 Calls Tryz.prog 58 #[.pointer (some ⟨sb, 0, none⟩), .func (.func 61) #[] #[]] w fun e w' => ∃ b, b = Zw Z46 text (text.size - a) a ∧ a ≤ b ∧ b ≤ text.size ∧ e = .returned (.string (text.extract a b)) ∧ ScanAt w w' sb text b := by
 have S0 := lh (ScanAt.refl h);have c0 := S0.out.c0;have c1 := S0.out.c1;clear h;go_enter Tryz.func58, Tryz.ntmps58
 go_wp2;go_loopw [] (fun wr => ∃ j : Nat, a ≤ j ∧ j ≤ text.size ∧ Zw Z46 text (text.size - j) j = Zw Z46 text (text.size - a) a ∧ ScanAt w wr sb text j) (fun wr => text.size - (intOf ((wr.cell? ⟨sb, 1, none⟩).getD .nilIface)).toNat)
 case atStart => exact ⟨a, Nat.le_refl _, ha, rfl, S0.out⟩
 case round =>
  obtain ⟨j, hj1, hj2, hsp, hS⟩ := hrel;have q0 := hS.c0;have q1 := hS.c1;have SJ := lh hS;have HSP := lh hsp;clear hS hsp c0 c1;by_cases hlt : j < text.size
  ·obtain ⟨B, hB⟩ : ∃ B, B = Z46 (Z9 text j) := ⟨_, rfl⟩
   have HB := lh hB;have HC := Zh3 wr.drew (Z9 text j);rw [← hB, Z1s hlt] at HC;have HC := lh HC;clear hB;cases B
   ·go_wp2_with fail
    refine Z0 [(true, 0), (true, 1), (true, 2), (true, 3), (true, 4), (true, 5), (true, 6), (true, 7), (true, 8), (true, 9), (true, 10), (true, 11), (true, 12), (true, 13), (true, 14), (true, 15), (true, 16), (true, 17), (true, 18), (true, 19), (true, 20)] [21, 22] (fun W => W.cell? ⟨sb, 0, none⟩ = some (.string text) ∧ W.cell? ⟨sb, 1, none⟩ = some (.int .i64 j)) (by kernel_rfl) (by kernel_rfl) (fun _ _ d _ _ h => by cases d <;> exact h) ⟨q0, q1⟩ (fun hS0 => ?_)
    simp only [Za, List.filterMap_cons, List.filterMap_nil, List.getElem?_toArray, List.getElem?_cons_zero, List.getElem?_cons_succ, Option.map_some]
    iterate 21
     first
      | (refine Z2 ?_ (by rfl) (fun w' hS' => ?_) ?_; rotate_left; (obtain ⟨s0, s1⟩ := hS'; go_simp; first | done | with_reducible rfl); simp only [Act.put, zA, zB, zC])
      | (refine Z1 (by rfl) ?_; simp only [Act.put, zA, zB, zC])
    refine Z5 ?_;go_wp2_with fail
    refine HC.out.mono ?_;rintro e w1 ⟨rfl, rfl⟩;go_wp2_with fail
    refine Z0 [(true, 0), (true, 1), (true, 2), (true, 3), (true, 4), (true, 5), (true, 6), (true, 7), (true, 8)] [9, 10] (fun W => W.cell? ⟨sb, 0, none⟩ = some (.string text) ∧ W.cell? ⟨sb, 1, none⟩ = some (.int .i64 j)) (by kernel_rfl) (by kernel_rfl) (fun _ _ d _ _ h => by cases d <;> exact h) ⟨q0, q1⟩ (fun hS0 => ?_);simp only [Za, List.filterMap_cons, List.filterMap_nil, List.getElem?_toArray, List.getElem?_cons_zero, List.getElem?_cons_succ, Option.map_some]
    iterate 9
     first
      | (refine Z2 ?_ (by rfl) (fun w' hS' => ?_) ?_; rotate_left; (obtain ⟨s0, s1⟩ := hS'; go_simp; first | done | with_reducible rfl); simp only [Act.put, zA, zB, zC])
      | (refine Z1 (by rfl) ?_; simp only [Act.put, zA, zB, zC])
    refine Z5 ?_;go_wp2;go_ret;exact ⟨j, by rw [← HSP.out]; exact (Z31 (.inr HB.out.symm)).symm, hj1, hj2, rfl, SJ.out.drew.drew⟩
   ·go_wp2_with fail
    refine Z0 [(true, 0), (true, 1), (true, 2), (true, 3), (true, 4), (true, 5), (true, 6), (true, 7), (true, 8), (true, 9), (true, 10), (true, 11), (true, 12), (true, 13), (true, 14), (true, 15), (true, 16), (true, 17), (true, 18), (true, 19), (true, 20)] [21, 22] (fun W => W.cell? ⟨sb, 0, none⟩ = some (.string text) ∧ W.cell? ⟨sb, 1, none⟩ = some (.int .i64 j)) (by kernel_rfl) (by kernel_rfl) (fun _ _ d _ _ h => by cases d <;> exact h) ⟨q0, q1⟩ (fun hS0 => ?_)
    simp only [Za, List.filterMap_cons, List.filterMap_nil, List.getElem?_toArray, List.getElem?_cons_zero, List.getElem?_cons_succ, Option.map_some]
    iterate 21
     first
      | (refine Z2 ?_ (by rfl) (fun w' hS' => ?_) ?_; rotate_left; (obtain ⟨s0, s1⟩ := hS'; go_simp; first | done | with_reducible rfl); simp only [Act.put, zA, zB, zC])
      | (refine Z1 (by rfl) ?_; simp only [Act.put, zA, zB, zC])
    refine Z5 ?_;go_wp2_with fail
    refine HC.out.mono ?_;rintro e w1 ⟨rfl, rfl⟩;have z1 := SJ.out.fz 1;go_wp2;go_roundw
    case rel => exact ⟨j + 1, by omega, by omega, by rw [← Z4q hlt HB.out.symm]; exact HSP.out, SJ.out.drew.set (j + 1)⟩
    case measure =>
     have e1 : (wr.setCell ⟨sb, 1, none⟩ (.int .i64 ((j : Int) + 1))).cell? ⟨sb, 1, none⟩ = some (.int .i64 ((j : Int) + 1)) := (SJ.out.set (j + 1)).c1;have e2 := SJ.out.c1;rw [World.cell?_drew, e1, e2];simp [intOf];omega
  ·go_wp2_with fail
   refine Z0 [(true, 0), (true, 1), (true, 2), (true, 3), (true, 4), (true, 5), (true, 6), (true, 7), (true, 8), (true, 9), (true, 10), (true, 11), (true, 12), (true, 13), (true, 14), (true, 15), (true, 16), (true, 17), (true, 18), (true, 19), (true, 20)] [21, 22] (fun W => W.cell? ⟨sb, 0, none⟩ = some (.string text) ∧ W.cell? ⟨sb, 1, none⟩ = some (.int .i64 j)) (by kernel_rfl) (by kernel_rfl) (fun _ _ d _ _ h => by cases d <;> exact h) ⟨q0, q1⟩ (fun hS0 => ?_)
   simp only [Za, List.filterMap_cons, List.filterMap_nil, List.getElem?_toArray, List.getElem?_cons_zero, List.getElem?_cons_succ, Option.map_some]
   iterate 21
    first
     | (refine Z2 ?_ (by rfl) (fun w' hS' => ?_) ?_; rotate_left; (obtain ⟨s0, s1⟩ := hS'; go_simp; first | done | with_reducible rfl); simp only [Act.put, zA, zB, zC])
     | (refine Z1 (by rfl) ?_; simp only [Act.put, zA, zB, zC])
   refine Z5 ?_;go_wp2_with fail
   refine Z0 [(true, 0), (true, 1), (true, 2), (true, 3), (true, 4), (true, 5), (true, 6), (true, 7), (true, 8)] [9, 10] (fun W => W.cell? ⟨sb, 0, none⟩ = some (.string text) ∧ W.cell? ⟨sb, 1, none⟩ = some (.int .i64 j)) (by kernel_rfl) (by kernel_rfl) (fun _ _ d _ _ h => by cases d <;> exact h) ⟨q0, q1⟩ (fun hS0 => ?_);simp only [Za, List.filterMap_cons, List.filterMap_nil, List.getElem?_toArray, List.getElem?_cons_zero, List.getElem?_cons_succ, Option.map_some]
   iterate 9
    first
     | (refine Z2 ?_ (by rfl) (fun w' hS' => ?_) ?_; rotate_left; (obtain ⟨s0, s1⟩ := hS'; go_simp; first | done | with_reducible rfl); simp only [Act.put, zA, zB, zC])
     | (refine Z1 (by rfl) ?_; simp only [Act.put, zA, zB, zC])
   refine Z5 ?_;go_wp2;go_ret;exact ⟨j, by rw [← HSP.out]; exact (Z31 (.inl hlt)).symm, hj1, hj2, rfl, SJ.out.drew.drew⟩
theorem Zex (h : w.heap[sb]? = some (.cells #[.string text, .int .i64 a] 91 (0, 0))) (ha : a ≤ text.size) (hm : text.size ≤ 1000000) :
 Calls Tryz.prog 58 #[.pointer (some ⟨sb, 0, none⟩), .func (.func 62) #[] #[]] w fun e w' => ∃ b, b = Zw Z0h text (text.size - a) a ∧ a ≤ b ∧ b ≤ text.size ∧ e = .returned (.string (text.extract a b)) ∧ ScanAt w w' sb text b := by
 have S0 := lh (ScanAt.refl h);have c0 := S0.out.c0;have c1 := S0.out.c1;clear h;go_enter Tryz.func58, Tryz.ntmps58
 go_wp2;go_loopw [] (fun wr => ∃ j : Nat, a ≤ j ∧ j ≤ text.size ∧ Zw Z0h text (text.size - j) j = Zw Z0h text (text.size - a) a ∧ ScanAt w wr sb text j) (fun wr => text.size - (intOf ((wr.cell? ⟨sb, 1, none⟩).getD .nilIface)).toNat)
 case atStart => exact ⟨a, Nat.le_refl _, ha, rfl, S0.out⟩
 case round =>
  obtain ⟨j, hj1, hj2, hsp, hS⟩ := hrel;have q0 := hS.c0;have q1 := hS.c1;have SJ := lh hS;have HSP := lh hsp;clear hS hsp c0 c1;by_cases hlt : j < text.size
  ·obtain ⟨B, hB⟩ : ∃ B, B = Z0h (Z9 text j) := ⟨_, rfl⟩
   have HB := lh hB;have HC := Z87 wr.drew (Z9 text j);rw [← hB, Z1s hlt] at HC;have HC := lh HC;clear hB;cases B
   ·go_wp2_with fail
    refine Z0 [(true, 0), (true, 1), (true, 2), (true, 3), (true, 4), (true, 5), (true, 6), (true, 7), (true, 8), (true, 9), (true, 10), (true, 11), (true, 12), (true, 13), (true, 14), (true, 15), (true, 16), (true, 17), (true, 18), (true, 19), (true, 20)] [21, 22] (fun W => W.cell? ⟨sb, 0, none⟩ = some (.string text) ∧ W.cell? ⟨sb, 1, none⟩ = some (.int .i64 j)) (by kernel_rfl) (by kernel_rfl) (fun _ _ d _ _ h => by cases d <;> exact h) ⟨q0, q1⟩ (fun hS0 => ?_)
    simp only [Za, List.filterMap_cons, List.filterMap_nil, List.getElem?_toArray, List.getElem?_cons_zero, List.getElem?_cons_succ, Option.map_some]
    iterate 21
     first
      | (refine Z2 ?_ (by rfl) (fun w' hS' => ?_) ?_; rotate_left; (obtain ⟨s0, s1⟩ := hS'; go_simp; first | done | with_reducible rfl); simp only [Act.put, zA, zB, zC])
      | (refine Z1 (by rfl) ?_; simp only [Act.put, zA, zB, zC])
    refine Z5 ?_;go_wp2_with fail
    refine HC.out.mono ?_;rintro e w1 ⟨rfl, rfl⟩;go_wp2_with fail
    refine Z0 [(true, 0), (true, 1), (true, 2), (true, 3), (true, 4), (true, 5), (true, 6), (true, 7), (true, 8)] [9, 10] (fun W => W.cell? ⟨sb, 0, none⟩ = some (.string text) ∧ W.cell? ⟨sb, 1, none⟩ = some (.int .i64 j)) (by kernel_rfl) (by kernel_rfl) (fun _ _ d _ _ h => by cases d <;> exact h) ⟨q0, q1⟩ (fun hS0 => ?_);simp only [Za, List.filterMap_cons, List.filterMap_nil, List.getElem?_toArray, List.getElem?_cons_zero, List.getElem?_cons_succ, Option.map_some]
    iterate 9
     first
      | (refine Z2 ?_ (by rfl) (fun w' hS' => ?_) ?_; rotate_left; (obtain ⟨s0, s1⟩ := hS'; go_simp; first | done | with_reducible rfl); simp only [Act.put, zA, zB, zC])
      | (refine Z1 (by rfl) ?_; simp only [Act.put, zA, zB, zC])
    refine Z5 ?_;go_wp2;go_ret;exact ⟨j, by rw [← HSP.out]; exact (Z31 (.inr HB.out.symm)).symm, hj1, hj2, rfl, SJ.out.drew.drew⟩
   ·go_wp2_with fail
    refine Z0 [(true, 0), (true, 1), (true, 2), (true, 3), (true, 4), (true, 5), (true, 6), (true, 7), (true, 8), (true, 9), (true, 10), (true, 11), (true, 12), (true, 13), (true, 14), (true, 15), (true, 16), (true, 17), (true, 18), (true, 19), (true, 20)] [21, 22] (fun W => W.cell? ⟨sb, 0, none⟩ = some (.string text) ∧ W.cell? ⟨sb, 1, none⟩ = some (.int .i64 j)) (by kernel_rfl) (by kernel_rfl) (fun _ _ d _ _ h => by cases d <;> exact h) ⟨q0, q1⟩ (fun hS0 => ?_)
    simp only [Za, List.filterMap_cons, List.filterMap_nil, List.getElem?_toArray, List.getElem?_cons_zero, List.getElem?_cons_succ, Option.map_some]
    iterate 21
     first
      | (refine Z2 ?_ (by rfl) (fun w' hS' => ?_) ?_; rotate_left; (obtain ⟨s0, s1⟩ := hS'; go_simp; first | done | with_reducible rfl); simp only [Act.put, zA, zB, zC])
      | (refine Z1 (by rfl) ?_; simp only [Act.put, zA, zB, zC])
    refine Z5 ?_;go_wp2_with fail
    refine HC.out.mono ?_;rintro e w1 ⟨rfl, rfl⟩;have z1 := SJ.out.fz 1;go_wp2;go_roundw
    case rel => exact ⟨j + 1, by omega, by omega, by rw [← Z4q hlt HB.out.symm]; exact HSP.out, SJ.out.drew.set (j + 1)⟩
    case measure =>
     have e1 : (wr.setCell ⟨sb, 1, none⟩ (.int .i64 ((j : Int) + 1))).cell? ⟨sb, 1, none⟩ = some (.int .i64 ((j : Int) + 1)) := (SJ.out.set (j + 1)).c1;have e2 := SJ.out.c1;rw [World.cell?_drew, e1, e2];simp [intOf];omega
  ·go_wp2_with fail
   refine Z0 [(true, 0), (true, 1), (true, 2), (true, 3), (true, 4), (true, 5), (true, 6), (true, 7), (true, 8), (true, 9), (true, 10), (true, 11), (true, 12), (true, 13), (true, 14), (true, 15), (true, 16), (true, 17), (true, 18), (true, 19), (true, 20)] [21, 22] (fun W => W.cell? ⟨sb, 0, none⟩ = some (.string text) ∧ W.cell? ⟨sb, 1, none⟩ = some (.int .i64 j)) (by kernel_rfl) (by kernel_rfl) (fun _ _ d _ _ h => by cases d <;> exact h) ⟨q0, q1⟩ (fun hS0 => ?_)
   simp only [Za, List.filterMap_cons, List.filterMap_nil, List.getElem?_toArray, List.getElem?_cons_zero, List.getElem?_cons_succ, Option.map_some]
   iterate 21
    first
     | (refine Z2 ?_ (by rfl) (fun w' hS' => ?_) ?_; rotate_left; (obtain ⟨s0, s1⟩ := hS'; go_simp; first | done | with_reducible rfl); simp only [Act.put, zA, zB, zC])
     | (refine Z1 (by rfl) ?_; simp only [Act.put, zA, zB, zC])
   refine Z5 ?_;go_wp2_with fail
   refine Z0 [(true, 0), (true, 1), (true, 2), (true, 3), (true, 4), (true, 5), (true, 6), (true, 7), (true, 8)] [9, 10] (fun W => W.cell? ⟨sb, 0, none⟩ = some (.string text) ∧ W.cell? ⟨sb, 1, none⟩ = some (.int .i64 j)) (by kernel_rfl) (by kernel_rfl) (fun _ _ d _ _ h => by cases d <;> exact h) ⟨q0, q1⟩ (fun hS0 => ?_);simp only [Za, List.filterMap_cons, List.filterMap_nil, List.getElem?_toArray, List.getElem?_cons_zero, List.getElem?_cons_succ, Option.map_some]
   iterate 9
    first
     | (refine Z2 ?_ (by rfl) (fun w' hS' => ?_) ?_; rotate_left; (obtain ⟨s0, s1⟩ := hS'; go_simp; first | done | with_reducible rfl); simp only [Act.put, zA, zB, zC])
     | (refine Z1 (by rfl) ?_; simp only [Act.put, zA, zB, zC])
   refine Z5 ?_;go_wp2;go_ret;exact ⟨j, by rw [← HSP.out]; exact (Z31 (.inl hlt)).symm, hj1, hj2, rfl, SJ.out.drew.drew⟩
theorem Tryz.sizeBuilder : (Tryz.prog.info? 110).map (·.size) = some 2 := by kernel_rfl
theorem Tryz.liesBuilder : liesAt Tryz.prog Tryz.prog.depth 110 (2 / Tryz.prog.cellsOf 110) 0 110 1 = true := by kernel_rfl
theorem Z86 (w : World) (b : Nat) (h0 : w.cell? ⟨b, 0, none⟩ = some (.pointer none)) (hsh : w.shape? b = some (110, 2)) (hfz : w.frozen? ⟨b, 0, none⟩ = false) :
 Calls Tryz.prog 99 #[.pointer (some ⟨b, 0, none⟩)] w fun e w' => e = .returned (.tuple #[]) ∧ w' = w.setCell ⟨b, 0, none⟩ (.pointer (some ⟨b, 0, none⟩)) := by
 obtain ⟨j, hj, hjs⟩ := Option.map_eq_some_iff.1 Tryz.sizeBuilder;go_enter Tryz.func99, Tryz.ntmps99
 go_wp2;rw [Lib.run_to_unsafe w ⟨b, 0, none⟩ Tryz.underlying107 Tryz.underlying131 hj (by rw [hjs]; decide) hsh (Nat.zero_lt_succ 1)];simp only [Result.andThen];rw [Oper.upon_value];go_wp2;rw [run_callFunc_extern Tryz.func109 (by kernel_rfl) (by kernel_rfl) (by kernel_rfl) (e := Extern.AbiNoEscape.same) (by kernel_rfl)];rw [Lib.run_noEscape];simp only [Result.andThen];rw [Oper.upon_value];go_wp2;rw [Lib.run_from_unsafe w ⟨b, 0, none⟩ Tryz.underlying131 Tryz.underlying107 hj hsh Tryz.liesBuilder];simp only [Result.andThen];rw [Oper.upon_value];go_wp2;go_end0
 exact ⟨rfl, rfl⟩
theorem Z9a (w : World) (b : Nat) (h0 : w.cell? ⟨b, 0, none⟩ = some (.pointer (some ⟨b, 0, none⟩))) :
 Calls Tryz.prog 99 #[.pointer (some ⟨b, 0, none⟩)] w fun e w' => e = .returned (.tuple #[]) ∧ w' = w := by
 obtain ⟨j, hj, _⟩ := Option.map_eq_some_iff.1 Tryz.sizeBuilder;go_enter Tryz.func99, Tryz.ntmps99
 go_wp2;rw [Lib.run_neq_ptr_same w _ Tryz.underlying107 hj];go_wp2;go_end0
 exact ⟨rfl, rfl⟩
structure BAt (B : Nat) (w : World) (b : Nat) (p v : Value) (bs : List Value) : Prop where
 blk : w.heap[b]? = some (.cells #[p, v] 110 (0, 0))
 ptr : p = .pointer none ∨ p = .pointer (some ⟨b, 0, none⟩)
 own : w.ownsRow B 5 1 v bs.length bs
 ne : v.ownBlock ≠ some b
 le : B ≤ b
theorem Tryz.infoU8 : (Tryz.prog.info? 5).map (fun i => (i.zero, i.size, i.bytes)) = some (some (.int .u8 0), 1, 1) := by kernel_rfl
structure BFr (w w' : World) (b : Nat) (v v' : Value) : Prop where
 os : w'.os = w.os
 tape : w'.tape = w.tape
 output : w'.output = w.output
 size : w.heap.size ≤ w'.heap.size
 block : ∀ k, k < w.heap.size → k ≠ b → v.ownBlock ≠ some k → w'.heap[k]? = w.heap[k]?
 row : v'.ownBlock = v.ownBlock ∨ ∃ g, v'.ownBlock = some g ∧ w.heap.size ≤ g
theorem Z95 (B : Nat) (w : World) (b : Nat) (v : Value) (bs : List Value) (c : Int) (h : BAt B w b (.pointer (some ⟨b, 0, none⟩)) v bs) (hn : bs.length < 1099511627776) :
 Calls Tryz.prog 81 #[.pointer (some ⟨b, 0, none⟩), .int .u8 c] w fun e w' => e = .returned .nilIface ∧ ∃ v', BAt B w' b (.pointer (some ⟨b, 0, none⟩)) v' (bs ++ [.int .u8 c]) ∧ BFr w w' b v v' := by
 obtain ⟨i0, hi, hz0, hz1, hz2⟩ := info_parts Tryz.infoU8;have hbl : b < w.heap.size := (Array.getElem?_eq_some_iff.1 h.blk).1;have h0 : w.cell? ⟨b, 0, none⟩ = some (.pointer (some ⟨b, 0, none⟩)) := by simp [World.cell?, h.blk]
 have h1 : w.cell? ⟨b, 1, none⟩ = some v := by simp [World.cell?, h.blk]
 have hz : w.frozen? ⟨b, 1, none⟩ = false := by simp [World.frozen?, h.blk]
 have HC := lh (Z9a w b h0);have HO := lh h.own;have HB := lh h;have hne := h.ne;have hBb := h.le;have HNE := lh hne;obtain ⟨n, hnn⟩ : ∃ n, n = bs.length := ⟨_, rfl⟩
 rw [← hnn] at HO hn;have HNN := lh hnn;clear h hne hnn h0;have haft : ∀ o (w1 : World), (w.alloc o).grownBy w1 v.ownBlock → w1.cell? ⟨b, 1, none⟩ = some v ∧ w1.frozen? ⟨b, 1, none⟩ = false := fun o w1 hg =>
  ⟨(hg.cell_far ⟨b, 1, none⟩ (by simp; omega) (fun e => HNE.out e.symm)).trans ((Z7 hbl).trans h1), (hg.frozen_far ⟨b, 1, none⟩ (by simp; omega) (fun e => HNE.out e.symm)).trans ((Zu hbl).trans hz)⟩
 have HA := lh haft;clear haft;go_enter Tryz.func81, Tryz.ntmps81
 go_wp2_with fail
 refine HC.out.mono ?_;rintro e w1 ⟨rfl, rfl⟩
 go_wp2_with (at_builtin; go_must (refine wpList_append_lies _ rfl (.tmp 11) (.tmp 13) 108 rfl B 5 i0 (.int .u8 0) 1 1 Tryz.underlying108 hi hz0 hz1 hz2 rfl (by decide) v n bs rfl (HO.out.alloc _) ⟨w1.heap.size, 0, none⟩ 1 1 [.int .u8 c] rfl rfl (fun j u hu => cell_one_new w1 _ _ j u hu) (by intro u hu; simp at hu; subst hu; rfl) (by first | omega | (simp; omega)) (by unfold maxLen; omega) (by first | omega | (simp; omega)) (by first | omega | (simp; omega)) (w1.heap.size + 1) (by simp) ?_); intro g cap w2 hown2 hgrow2 hat2 hgl2; obtain ⟨hc1, hf1⟩ := HA.out _ _ hgrow2; have HG := lh hgrow2; have HW := lh hown2; have HT := lh hat2; clear hgrow2 hown2 hat2 hgl2)
 go_ret;refine ⟨rfl, .slice (some ⟨g, 0, none⟩) (n + 1) cap, ?_, ?_⟩
 ·have hgb : g ≠ b := by
   rcases HT.out with h | h;·exact fun e => HNE.out (by rw [h, e])
   ·omega
  have hblk : w2.heap[b]? = some (.cells #[.pointer (some ⟨b, 0, none⟩), v] 110 (0, 0)) := (HG.out.block b (by simp; omega) (fun e => HNE.out e.symm)).trans ((Below.heap_alloc _ _ _ hbl).trans HB.out.blk);refine ⟨Zn _ hblk, .inr rfl, ?_, by simp only [Value.ownBlock, ne_eq, Option.some.injEq]; exact hgb, hBb⟩;rw [List.length_append, ← HNN.out];exact Zl HW.out fun g' hg' => Below.heap_setCell _ _ _ _ (fun e => hgb (by simp only [Value.ownBlock, Option.some.injEq] at hg'; rw [hg', e]))
 ·refine ⟨HG.out.os, HG.out.tape, HG.out.output, by rw [World.size_setCell]; have := HG.out.size; rw [World.size_alloc] at this; omega, fun k hk hkb hkv => ?_, ?_⟩;·exact (Below.heap_setCell _ _ _ _ hkb).trans ((HG.out.block k (by simp; omega) (fun e => hkv e.symm)).trans (Below.heap_alloc _ _ _ hk))
  ·rcases HT.out with h | h;·exact .inl h.symm
   ·exact .inr ⟨g, rfl, by omega⟩
theorem Z8h (B : Nat) (w : World) (b : Nat) (v : Value) (bs : List Value) (c : Int) (h' : BAt B w b (.pointer none) v bs) (hn : bs.length < 1099511627776) :
 Calls Tryz.prog 81 #[.pointer (some ⟨b, 0, none⟩), .int .u8 c] w fun e w' => e = .returned .nilIface ∧ ∃ v', BAt B w' b (.pointer (some ⟨b, 0, none⟩)) v' (bs ++ [.int .u8 c]) ∧ BFr w w' b v v' := by
 obtain ⟨i0, hi, hz0, hz1, hz2⟩ := info_parts Tryz.infoU8;have h0 : w.cell? ⟨b, 0, none⟩ = some (.pointer none) := by simp [World.cell?, h'.blk]
 have hz0' : w.frozen? ⟨b, 0, none⟩ = false := by simp [World.frozen?, h'.blk]
 have HC := lh (Z86 w b h0 (by simp [World.shape?, h'.blk]) hz0');have h : BAt B (w.setCell ⟨b, 0, none⟩ (.pointer (some ⟨b, 0, none⟩))) b (.pointer (some ⟨b, 0, none⟩)) v bs :=
  ⟨Zn _ h'.blk, .inr rfl, Zl h'.own fun g hg => Below.heap_setCell _ _ _ _ (fun e => h'.ne (by rw [hg]; exact congrArg some e)), h'.ne, h'.le⟩
 have HS : ∀ k, k ≠ b → (w.setCell ⟨b, 0, none⟩ (.pointer (some ⟨b, 0, none⟩))).heap[k]? = w.heap[k]? := fun k hk => Below.heap_setCell _ _ _ _ hk;have HS := lh HS;have hsz : (w.setCell ⟨b, 0, none⟩ (.pointer (some ⟨b, 0, none⟩))).heap.size = w.heap.size := World.size_setCell ..;have HZ := lh hsz;have hos : (w.setCell ⟨b, 0, none⟩ (.pointer (some ⟨b, 0, none⟩))).os = w.os ∧ (w.setCell ⟨b, 0, none⟩ (.pointer (some ⟨b, 0, none⟩))).tape = w.tape ∧ (w.setCell ⟨b, 0, none⟩ (.pointer (some ⟨b, 0, none⟩))).output = w.output := ⟨rfl, rfl, rfl⟩
 have HOS := lh hos;clear h' h0 hz0' hsz hos;obtain ⟨w1, hw1⟩ : ∃ W, W = w.setCell ⟨b, 0, none⟩ (.pointer (some ⟨b, 0, none⟩)) := ⟨_, rfl⟩
 rw [← hw1] at HC h HS HZ HOS;have hbl : b < w1.heap.size := (Array.getElem?_eq_some_iff.1 h.blk).1;have h1 : w1.cell? ⟨b, 1, none⟩ = some v := by simp [World.cell?, h.blk]
 have hz : w1.frozen? ⟨b, 1, none⟩ = false := by simp [World.frozen?, h.blk]
 have HO := lh h.own;have HB := lh h;have hne := h.ne;have hBb := h.le;have HNE := lh hne;obtain ⟨n, hnn⟩ : ∃ n, n = bs.length := ⟨_, rfl⟩
 rw [← hnn] at HO hn;have HNN := lh hnn;clear h hne hnn hw1;have haft : ∀ o (w2 : World), (w1.alloc o).grownBy w2 v.ownBlock → w2.cell? ⟨b, 1, none⟩ = some v ∧ w2.frozen? ⟨b, 1, none⟩ = false := fun o w2 hg =>
  ⟨(hg.cell_far ⟨b, 1, none⟩ (by simp; omega) (fun e => HNE.out e.symm)).trans ((Z7 hbl).trans h1), (hg.frozen_far ⟨b, 1, none⟩ (by simp; omega) (fun e => HNE.out e.symm)).trans ((Zu hbl).trans hz)⟩
 have HA := lh haft;clear haft;go_enter Tryz.func81, Tryz.ntmps81
 go_wp2_with fail
 refine HC.out.mono ?_;rintro e w1' ⟨rfl, hw⟩;rw [hw];clear hw w1'
 go_wp2_with (at_builtin; go_must (refine wpList_append_lies _ rfl (.tmp 11) (.tmp 13) 108 rfl B 5 i0 (.int .u8 0) 1 1 Tryz.underlying108 hi hz0 hz1 hz2 rfl (by decide) v n bs rfl (HO.out.alloc _) ⟨w1.heap.size, 0, none⟩ 1 1 [.int .u8 c] rfl rfl (fun j u hu => cell_one_new w1 _ _ j u hu) (by intro u hu; simp at hu; subst hu; rfl) (by first | omega | (simp; omega)) (by unfold maxLen; omega) (by first | omega | (simp; omega)) (by first | omega | (simp; omega)) (w1.heap.size + 1) (by simp) ?_); intro g cap w2 hown2 hgrow2 hat2 hgl2; obtain ⟨hc1, hf1⟩ := HA.out _ _ hgrow2; have HG := lh hgrow2; have HW := lh hown2; have HT := lh hat2; clear hgrow2 hown2 hat2 hgl2)
 go_ret;refine ⟨rfl, .slice (some ⟨g, 0, none⟩) (n + 1) cap, ?_, ?_⟩
 ·have hgb : g ≠ b := by
   rcases HT.out with h | h;·exact fun e => HNE.out (by rw [h, e])
   ·omega
  have hblk : w2.heap[b]? = some (.cells #[.pointer (some ⟨b, 0, none⟩), v] 110 (0, 0)) := (HG.out.block b (by simp; omega) (fun e => HNE.out e.symm)).trans ((Below.heap_alloc _ _ _ hbl).trans HB.out.blk);refine ⟨Zn _ hblk, .inr rfl, ?_, by simp only [Value.ownBlock, ne_eq, Option.some.injEq]; exact hgb, hBb⟩;rw [List.length_append, ← HNN.out];exact Zl HW.out fun g' hg' => Below.heap_setCell _ _ _ _ (fun e => hgb (by simp only [Value.ownBlock, Option.some.injEq] at hg'; rw [hg', e]))
 ·refine ⟨HG.out.os.trans HOS.out.1, HG.out.tape.trans HOS.out.2.1, HG.out.output.trans HOS.out.2.2, by rw [World.size_setCell]; have := HG.out.size; rw [World.size_alloc, HZ.out] at this; omega, fun k hk hkb hkv => ?_, ?_⟩;·exact (Below.heap_setCell _ _ _ _ hkb).trans ((HG.out.block k (by simp; have := HZ.out; omega) (fun e => hkv e.symm)).trans ((Below.heap_alloc _ _ _ (by have := HZ.out; omega)).trans (HS.out k hkb)))
  ·rcases HT.out with h | h;·exact .inl h.symm
   ·exact .inr ⟨g, rfl, by have := HZ.out; omega⟩
end Go.Proofs.YtgmnfgljkocnpaaGreatDoor
