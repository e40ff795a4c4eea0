/- The library's contracts that are cited, laid by the shelf's own tools: Tryz.Builder_Len, Tryz.Builder_String_any. strings.Builder: Len and String by the shelf. Package lex: what 'quoted' computes (the walk is still to be written). The library's contracts that are cited, laid by the shelf's own tools: Tryz.slices_Contains_string. Package lex: words of the language. Package lex: what Tokens computes, and the plain law of LexCovers: a token's bytes alone are that token again. -/
import Derived.Test.YtgmnfgljkocnpaaGreatDoorJ01
import Derived.Shelf.Strings.Builder1
import Derived.Shelf.LaysM
import Derived.Test.YtgmnfgljkocnpaaGreatDoorProg
import Derived.Test.YtgmnfgljkocnpaaGreatDoorJ02
import Derived.Shelf.Slices.Turned
import Derived.Test.YtgmnfgljkocnpaaGreatDoorRows
import Derived.WalkKit
import Derived.Lib.Hide
namespace Go.Proofs
open Go.Shelf
def Tryz.lays170_ren : Go.Shelf.Ren := ⟨fun | 170 => 79 | n => n, fun | 70 => 107 | 3 => 3 | 0 => 0 | 72 => 110 | 37 => 108 | 5 => 5 | n => n, fun | n => n⟩
theorem Tryz.lays170 : Go.Proofs.Lays.n170 Tryz.prog Tryz.lays170_ren := {
 mixed := by kernel_rfl
 f170 := Tryz.func79.trans (congrArg some (by kernel_rfl))
 t0 := Tryz.underlying0
 a0 := Tryz.isAgg0
 z0 := Tryz.sizeOf0
 v0 := Tryz.zeroValue0
 t3 := Tryz.underlying3
 a3 := Tryz.isAgg3
 z3 := Tryz.sizeOf3
 v3 := Tryz.zeroValue3
 t37 := Tryz.underlying108
 a37 := Tryz.isAgg108
 z37 := Tryz.sizeOf108
 v37 := Tryz.zeroValue108
 t70 := Tryz.underlying107
 a70 := Tryz.isAgg107
 z70 := Tryz.sizeOf107
 v70 := Tryz.zeroValue107
 t72 := Tryz.underlying110
 a72 := Tryz.isAgg110
 z72 := Tryz.sizeOf110
 v72 := Tryz.zeroValue110 }
open Go.RowKit in
theorem Tryz.Builder_Len (B b : Nat) (bs : List Value) (w : World) (h : Lib.IsBuilder 110 5 B b bs w) :
 Calls Tryz.prog 79 #[.pointer (some ⟨b, 0, none⟩)] w fun e w' => e = .returned (.int .i64 bs.length) ∧ w' = w := Any.Builder_Len Tryz.lays170 B b bs w h
def Tryz.lays169_ren : Go.Shelf.Ren := ⟨fun | 169 => 80 | n => n, fun | 70 => 107 | 9 => 9 | 0 => 0 | 72 => 110 | 37 => 108 | 127 => 121 | 3 => 3 | 5 => 5 | n => n, fun | n => n⟩
theorem Tryz.lays169 : Go.Proofs.Lays.n169 Tryz.prog Tryz.lays169_ren := {
 mixed := by kernel_rfl
 f169 := Tryz.func80.trans (congrArg some (by kernel_rfl))
 t0 := Tryz.underlying0
 a0 := Tryz.isAgg0
 z0 := Tryz.sizeOf0
 v0 := Tryz.zeroValue0
 t3 := Tryz.underlying3
 a3 := Tryz.isAgg3
 z3 := Tryz.sizeOf3
 v3 := Tryz.zeroValue3
 t9 := Tryz.underlying9
 a9 := Tryz.isAgg9
 z9 := Tryz.sizeOf9
 v9 := Tryz.zeroValue9
 t37 := Tryz.underlying108
 a37 := Tryz.isAgg108
 z37 := Tryz.sizeOf108
 v37 := Tryz.zeroValue108
 t70 := Tryz.underlying107
 a70 := Tryz.isAgg107
 z70 := Tryz.sizeOf107
 v70 := Tryz.zeroValue107
 t72 := Tryz.underlying110
 a72 := Tryz.isAgg110
 z72 := Tryz.sizeOf110
 v72 := Tryz.zeroValue110
 t127 := Tryz.underlying121
 a127 := Tryz.isAgg121
 z127 := Tryz.sizeOf121
 v127 := Tryz.zeroValue121 }
theorem Tryz.Builder_Extra_169 : Builder.Extra Tryz.prog Tryz.lays169_ren := {
 sizeBuilder := by kernel_rfl
 liesBuilder := by kernel_rfl
 t5 := Tryz.underlying5
 a5 := Tryz.isAgg5
 z5 := Tryz.sizeOf5
 v5 := Tryz.zeroValue5
 infoByte := by kernel_rfl
 cellsByte := by kernel_rfl
 sizeByte := by kernel_rfl
 neB5 := by decide }
open Go.RowKit in
theorem Tryz.Builder_String_any (B b : Nat) (l : List UInt8) (w : World) (h : Lib.IsBuilder 110 5 B b (Lib.byteCells l) w) (hBw : B ≤ w.heap.size) :
 Calls Tryz.prog 80 #[.pointer (some ⟨b, 0, none⟩)] w fun e w' => e = .returned (.string ⟨l.toArray⟩) ∧ Below B w w' := Any.Builder_String_any Tryz.lays169 Tryz.Builder_Extra_169 B b l w h hBw
end Go.Proofs
namespace Go.Proofs.YtgmnfgljkocnpaaGreatDoor
open Go Go.RowKit
set_option maxRecDepth 100000
theorem BAt.is {B : Nat} {w : World} {b : Nat} {p v : Value} {bs : List Value} (h : BAt B w b p v bs) : Lib.IsBuilder 110 5 B b bs w := by
 obtain ⟨hb, hp, ho, hn, hl⟩ := h;rcases hp with rfl | rfl;·exact .inl ⟨hl, v, hb, ho, hn⟩
 ·exact .inr ⟨hl, v, hb, ho, hn⟩
theorem Zio {B : Nat} {w : World} {b : Nat} {p v : Value} {bs : List Value} (h : BAt B w b p v bs) :
 Calls Tryz.prog 79 #[.pointer (some ⟨b, 0, none⟩)] w fun e w' => e = .returned (.int .i64 bs.length) ∧ w' = w := Tryz.Builder_Len B b bs w h.is
theorem Zdu {B : Nat} {w : World} {b : Nat} {p v : Value} (l : List UInt8) (h : BAt B w b p v (Lib.byteCells l)) (hB : B ≤ w.heap.size) :
 Calls Tryz.prog 80 #[.pointer (some ⟨b, 0, none⟩)] w fun e w' => e = .returned (.string ⟨l.toArray⟩) ∧ Below B w w' := Tryz.Builder_String_any B b l w h.is hB
end Go.Proofs.YtgmnfgljkocnpaaGreatDoor
namespace Go.Proofs.YtgmnfgljkocnpaaGreatDoor
open Go Go.RowKit
set_option maxRecDepth 100000
def Z6o (c : Int) : Option UInt8 := if c = 110 then some 10 else if c = 39 then some 39 else if c = 92 then some 92 else none
def Z0j (text : ByteArray) : Nat → Nat → List UInt8 → List UInt8 × Int × Nat
 | 0, i, _ => ([], 3, i)
 | f + 1, i, acc =>
   if text.size ≤ i ∨ Z9 text i = 10 then ([], 3, i)
   else if Z9 text i = 39 then (if 500 < acc.length then ([], 4, i + 1) else (acc, 0, i + 1))
   else if Z9 text i = 92 then
    (if i + 1 < text.size then
     match Z6o (Z9 text (i + 1)) with
     | some e => Z0j text f (i + 2) (acc ++ [e])
     | none => ([], 3, i + 1)
    else ([], 3, i + 1))
   else Z0j text f (i + 1) (acc ++ [text.data.getD i 0])
def Z0f (text : ByteArray) (i : Nat) : List UInt8 × Int × Nat := Z0j text (text.size + 1 - i) i []
end Go.Proofs.YtgmnfgljkocnpaaGreatDoor
namespace Go.Proofs
def Tryz.lays110_ren : Go.Shelf.Ren := ⟨fun | 110 => 14 | 109 => 34 | n => n, fun | 31 => 25 | 9 => 9 | 4 => 4 | 3 => 3 | 0 => 0 | n => n, fun | n => n⟩
theorem Tryz.lays110 : Go.Proofs.Lays.n110 Tryz.prog Tryz.lays110_ren := {
 mixed := by kernel_rfl
 f109 := Tryz.func34.trans (congrArg some (by kernel_rfl))
 f110 := Tryz.func14.trans (congrArg some (by kernel_rfl))
 t0 := Tryz.underlying0
 a0 := Tryz.isAgg0
 z0 := Tryz.sizeOf0
 v0 := Tryz.zeroValue0
 t3 := Tryz.underlying3
 a3 := Tryz.isAgg3
 z3 := Tryz.sizeOf3
 v3 := Tryz.zeroValue3
 t4 := Tryz.underlying4
 a4 := Tryz.isAgg4
 z4 := Tryz.sizeOf4
 v4 := Tryz.zeroValue4
 t9 := Tryz.underlying9
 a9 := Tryz.isAgg9
 z9 := Tryz.sizeOf9
 v9 := Tryz.zeroValue9
 t31 := Tryz.underlying25
 a31 := Tryz.isAgg25
 z31 := Tryz.sizeOf25
 v31 := Tryz.zeroValue25 }
open Go.Lib in
theorem Tryz.slices_Contains_string (b off n c : Nat) (zs : List ByteArray) (x : ByteArray) (w : World) (hz : n ≤ zs.length) (hbig : n ≤ 9223372036854775807) (hc : ∀ j, j < zs.length → w.cell? ⟨b, off + j, none⟩ = some (.string (zs.getD j ByteArray.empty))) :
 Calls Tryz.prog 14 #[.slice (some ⟨b, off, none⟩) n c, .string x] w fun e w' => e = .returned (.bool (Lib.containsS (zs.take n) x)) ∧ w' = w := Any.slices_Contains_string Tryz.lays110 b off n c zs x w hz hbig hc
end Go.Proofs
namespace Go.Proofs.YtgmnfgljkocnpaaGreatDoor
open Go Go.RowKit
set_option maxRecDepth 100000
def Z4t : List ByteArray := match (Rows.laid_sloppyscope_lex_wordList : DataW Unit) with
 | .agg l => l.map fun
   | .lit (.string bs) => ⟨bs.toArray⟩
   | _ => ⟨#[]⟩
 | _ => []
theorem Z63 : Z4t.length = 19 := by kernel_rfl
def Z2x (s : ByteArray) : Bool := Lib.containsS Z4t s
def Words (w : World) : Prop := ∀ j, j < 19 → w.cell? ⟨2, j, none⟩ = some (.string (Z4t.getD j ByteArray.empty))
theorem Zdz (w : World) (s : ByteArray) (hW : Words w) :
 Calls Tryz.prog 63 #[.string s] w fun e w' => e = .returned (.bool (Z2x s)) ∧ w' = w := by
 have HC := Tryz.slices_Contains_string 2 0 19 19 Z4t s w (by rw [Z63]; omega) (by omega) (fun j hj => by rw [Nat.zero_add]; exact hW j (by rw [Z63] at hj; exact hj));rw [show Z4t.take 19 = Z4t by rw [← Z63]; exact List.take_length] at HC;have HC := lh HC;clear hW;unfold Z2x;generalize Lib.containsS Z4t s = B at HC ⊢;go_enter Tryz.func63, Tryz.ntmps63
 go_wp2_with fail
 refine HC.out.mono ?_;rintro e w1 ⟨rfl, rfl⟩;go_wp2;go_ret;exact ⟨rfl, rfl⟩
end Go.Proofs.YtgmnfgljkocnpaaGreatDoor
namespace Go.Proofs.YtgmnfgljkocnpaaGreatDoor
open Go Go.RowKit
set_option maxRecDepth 100000
structure Tok where
 kind : Int
 text : ByteArray
 n : Int
 at' : Nat
def numF (text : ByteArray) (k : Nat) : Nat → Nat → Int → Int
 | 0, _, n => n
 | f + 1, i, n => if i < k then numF text k f (i + 1) (10 * n + (Z9 text i - 48)) else n
def Zs (text : ByteArray) (j : Nat) : Nat :=
 if Z9 text j = 61 ∧ Z9 text (j + 1) = 61 ∧ Z9 text (j + 2) = 61 then 3
 else if Z9 text j = 38 ∧ Z9 text (j + 1) = 38 then 2
 else if Z9 text j = 124 ∧ Z9 text (j + 1) = 124 then 2
 else 1
def Z5l (c : Int) : Bool := c == 40 || c == 41 || c == 123 || c == 125 || c == 91 || c == 93 || c == 59 || c == 58 || c == 44 || c == 46 || c == 61 || c == 43 || c == 45 || c == 42 || c == 60 || c == 33
def Z13 (text : ByteArray) (j : Nat) : Except (Int × Nat) (Tok × Nat) :=
 if Z0l (Z9 text j) then
  let k := Zw Z46 text (text.size - j) j
  if Z2x (text.extract j k) then .ok (⟨2, text.extract j k, 0, j⟩, k)
  else if 20 < k - j then .error (4, j)
  else .ok (⟨1, text.extract j k, 0, j⟩, k)
 else if Z0h (Z9 text j) then
  let k := Zw Z0h text (text.size - j) j
  if 10 < k - j ∨ (1 < k - j ∧ Z9 text j = 48) then .error (3, j)
  else if 1000000000 < numF text k (k - j) j 0 then .error (2, j)
  else .ok (⟨3, ByteArray.empty, numF text k (k - j) j 0, j⟩, k)
 else if Z9 text j = 39 then
  if (Z0f text (j + 1)).2.1 = 4 then .error (4, j)
  else if (Z0f text (j + 1)).2.1 ≠ 0 then .error (3, (Z0f text (j + 1)).2.2)
  else .ok (⟨4, ⟨(Z0f text (j + 1)).1.toArray⟩, 0, j⟩, (Z0f text (j + 1)).2.2)
 else if Zs text j = 1 ∧ Z5l (Z9 text j) = false then .error (3, j)
 else .ok (⟨5, text.extract j (j + Zs text j), 0, j⟩, j + Zs text j)
def lexF (text : ByteArray) : Nat → Nat → List Tok → Except (Int × Nat) (List Tok)
 | 0, _, acc => .ok acc
 | f + 1, i, acc =>
   let j := Zw Z1a text (text.size - i) i
   if text.size ≤ j then .ok (acc ++ [⟨6, ByteArray.empty, 0, j⟩])
   else match Z13 text j with
    | .error e => .error e
    | .ok (t, k) => lexF text f k (acc ++ [t])
def Z5m (text : ByteArray) : Except (Int × Nat) (List Tok) := lexF text (text.size + 1) 0 []
theorem Z7h {text : ByteArray} {i : Nat} (h : text.size ≤ i) : Z9 text i = 0 := by
 have h' : ¬ i < text.data.size := by change ¬ i < text.size; omega
 unfold Z9 Array.getD;rw [dif_neg h'];rfl
theorem Z4j {text : ByteArray} {i : Nat} (h : Z9 text i ≠ 0) : i < text.size := by
 rcases Nat.lt_or_ge i text.size with h' | h';·exact h'
 ·exact absurd (Z7h h') h
theorem getD_extract (text : ByteArray) {j k i : Nat} (h : i < k - j) (hk : k ≤ text.size) : (text.extract j k).data.getD i 0 = text.data.getD (j + i) 0 := by
 have h2 : j + i < text.data.size := by change _ < text.size; omega
 have h1 : i < (text.extract j k).data.size := by
  change i < (text.extract j k).size;rw [ByteArray.size_extract]; omega
 simp only [Array.getD, dif_pos h1, dif_pos h2];simp [ByteArray.data_extract]
theorem Zq (text : ByteArray) {j k i : Nat} (h : i < k - j) (hk : k ≤ text.size) : Z9 (text.extract j k) i = Z9 text (j + i) := by
 unfold Z9; rw [getD_extract text h hk]
theorem Z3r (text : ByteArray) {j k : Nat} (hk : k ≤ text.size) : (text.extract j k).size = k - j := by
 rw [ByteArray.size_extract]; omega
theorem Z28 (p : Int → Bool) (text : ByteArray) : ∀ (f i : Nat), text.size - i ≤ f → i ≤ text.size →
 i ≤ Zw p text f i ∧ Zw p text f i ≤ text.size ∧ (∀ m, i ≤ m → m < Zw p text f i → p (Z9 text m) = true) ∧ (Zw p text f i < text.size → p (Z9 text (Zw p text f i)) = false) := by
 intro f;induction f with
 | zero => intro i h hi; simp only [Zw]; exact ⟨Nat.le_refl _, hi, fun m h1 h2 => by omega, fun h' => by omega⟩
 | succ f ih =>
   intro i h hi;simp only [Zw];by_cases hc : i < text.size ∧ p (Z9 text i) = true
   ·rw [if_pos (by simp [hc.1, hc.2])];obtain ⟨h1, h2, h3, h4⟩ := ih (i + 1) (by omega) (by omega);refine ⟨by omega, h2, fun m hm hm2 => ?_, h4⟩;by_cases e : m = i;·rw [e]; exact hc.2
    ·exact h3 m (by omega) hm2
   ·rw [if_neg (by simpa using hc)];refine ⟨Nat.le_refl _, hi, fun m h1 h2 => by omega, fun h' => ?_⟩;simpa [h'] using hc
theorem Zbg (p : Int → Bool) (text : ByteArray) : ∀ (f i k : Nat), text.size - i ≤ f → i ≤ k → k ≤ text.size → (∀ m, i ≤ m → m < k → p (Z9 text m) = true) → (k < text.size → p (Z9 text k) = false) → Zw p text f i = k := by
 intro f;induction f with
 | zero => intro i k h h1 h2 _ _; simp only [Zw]; omega
 | succ f ih =>
   intro i k h h1 h2 h3 h4;simp only [Zw];by_cases e : i = k
   ·subst e;rw [if_neg];simp only [Bool.and_eq_true, decide_eq_true_eq, not_and, Bool.not_eq_true];exact h4
   ·rw [if_pos (by simp [h3 i (Nat.le_refl _) (by omega)]; omega)];exact ih (i + 1) k (by omega) (by omega) h2 (fun m a b => h3 m (by omega) b) h4
theorem Z8s (p : Int → Bool) (text : ByteArray) {j k : Nat} (hj : j < text.size) (hk : Zw p text (text.size - j) j = k) :
 Zw p (text.extract j k) ((text.extract j k).size - 0) 0 = k - j := by
 obtain ⟨h1, h2, h3, h4⟩ := Z28 p text (text.size - j) j (Nat.le_refl _) (by omega);rw [hk] at h1 h2 h3 h4;have hs := Z3r text (j := j) h2;refine Zbg p _ _ _ _ (by omega) (by omega) (by omega) (fun m _ hm => ?_) (fun h => by omega);rw [Zq text hm h2];exact h3 _ (by omega) (by omega)
theorem Zhc (text : ByteArray) {j k : Nat} (hk : k ≤ text.size) : ∀ (f i : Nat) (n : Int), j ≤ i → numF (text.extract j k) (k - j) f (i - j) n = numF text k f i n := by
 intro f;induction f with
 | zero => intro i n _; rfl
 | succ f ih =>
   intro i n hi;simp only [numF];by_cases h : i < k
   ·rw [if_pos (by omega), if_pos h, Zq text (by omega) hk, show j + (i - j) = i by omega, show i - j + 1 = i + 1 - j by omega];exact ih (i + 1) _ (by omega)
   ·rw [if_neg (by omega), if_neg h]
theorem Zc0 (text : ByteArray) {j : Nat} : ∀ (f i : Nat) (acc bs : List UInt8) (k : Nat), j ≤ i → Z0j text f i acc = (bs, 0, k) →
 i < k ∧ k ≤ text.size ∧ Z9 text (k - 1) = 39 ∧ ∀ f', k - i ≤ f' → Z0j (text.extract j k) f' (i - j) acc = (bs, 0, k - j) := by
 intro f;induction f with
 | zero => intro i acc bs k _ h; simp [Z0j] at h
 | succ f ih =>
   intro i acc bs k hj h;simp only [Z0j] at h;by_cases h1 : text.size ≤ i ∨ Z9 text i = 10;·rw [if_pos h1] at h; simp at h
   rw [if_neg h1] at h;simp only [not_or, Nat.not_le] at h1;by_cases h2 : Z9 text i = 39
   ·rw [if_pos h2] at h;by_cases h3 : 500 < acc.length;·rw [if_pos h3] at h; simp at h
    rw [if_neg h3] at h;simp only [Prod.mk.injEq, true_and] at h;obtain ⟨rfl, rfl⟩ := h;refine ⟨by omega, by omega, by simpa using h2, fun f' hf => ?_⟩;obtain ⟨g, rfl⟩ : ∃ g, f' = g + 1 := ⟨f' - 1, by omega⟩
    have hb : Z9 (text.extract j (i + 1)) (i - j) = Z9 text i := by
     rw [Zq text (by omega) (by omega), show j + (i - j) = i by omega]
    have hs := Z3r text (j := j) (k := i + 1) (by omega);simp only [Z0j, hb, hs];rw [if_neg (by omega), if_pos h2, if_neg h3, show i - j + 1 = i + 1 - j by omega]
   rw [if_neg h2] at h;by_cases h3 : Z9 text i = 92
   ·rw [if_pos h3] at h;by_cases h4 : i + 1 < text.size
    ·rw [if_pos h4] at h;cases he : Z6o (Z9 text (i + 1)) with
     | none => rw [he] at h; simp at h
     | some e =>
       rw [he] at h;simp only at h;obtain ⟨g1, g2, g3, g4⟩ := ih (i + 2) _ bs k (by omega) h;refine ⟨by omega, g2, g3, fun f' hf => ?_⟩;obtain ⟨g, rfl⟩ : ∃ g, f' = g + 1 := ⟨f' - 1, by omega⟩
       have hb : Z9 (text.extract j k) (i - j) = Z9 text i := by
        rw [Zq text (by omega) (by omega), show j + (i - j) = i by omega]
       have hb1 : Z9 (text.extract j k) (i - j + 1) = Z9 text (i + 1) := by
        rw [Zq text (by omega) (by omega), show j + (i - j + 1) = i + 1 by omega]
       have hs := Z3r text (j := j) (k := k) g2;simp only [Z0j, hb, hs, hb1];rw [if_neg (by omega), if_neg h2, if_pos h3, if_pos (by omega), he];simp only;rw [show i - j + 2 = i + 2 - j by omega];exact g4 g (by omega)
    ·rw [if_neg h4] at h; simp at h
   ·rw [if_neg h3] at h;obtain ⟨g1, g2, g3, g4⟩ := ih (i + 1) _ bs k (by omega) h;refine ⟨by omega, g2, g3, fun f' hf => ?_⟩;obtain ⟨g, rfl⟩ : ∃ g, f' = g + 1 := ⟨f' - 1, by omega⟩
    have hb : Z9 (text.extract j k) (i - j) = Z9 text i := by
     rw [Zq text (by omega) (by omega), show j + (i - j) = i by omega]
    have hd : (text.extract j k).data.getD (i - j) 0 = text.data.getD i 0 := by
     rw [getD_extract text (by omega) (by omega), show j + (i - j) = i by omega]
    have hs := Z3r text (j := j) (k := k) g2;simp only [Z0j, hb, hs, hd];rw [if_neg (by omega), if_neg h2, if_neg h3, show i - j + 1 = i + 1 - j by omega];exact g4 g (by omega)
theorem Z2s {c : Int} (h : Z46 c = true) : Z1a c = false := by
 unfold Z46 Z0l Z0h at h;unfold Z1a;simp only [Bool.or_eq_true, Bool.and_eq_true, decide_eq_true_eq] at h;simp only [Bool.or_eq_false_iff, decide_eq_false_iff_not];omega
theorem Z2w {c : Int} (h : Z0l c = true) : Z46 c = true := by simp [Z46, h]
theorem Z9h {c : Int} (h : Z0h c = true) : Z46 c = true := by simp [Z46, h]
theorem Zgp {c : Int} (h : Z5l c = true) : c ≠ 0 ∧ Z1a c = false := by
 simp only [Z5l, Bool.or_eq_true, beq_iff_eq] at h;simp only [Z1a, Bool.or_eq_false_iff, decide_eq_false_iff_not];omega
theorem extract_all (b : ByteArray) (n : Nat) (h : n = b.size) : b.extract 0 n = b := by subst h; simp
theorem Zcd (text : ByteArray) (j : Nat) (h : Zs text j = 1 → Z5l (Z9 text j) = true) :
 1 ≤ Zs text j ∧ j + Zs text j ≤ text.size ∧ (∀ m, j ≤ m → m < j + Zs text j → Z1a (Z9 text m) = false) ∧ Zs (text.extract j (j + Zs text j)) 0 = Zs text j ∧
   (Zs text j = 1 → Z9 (text.extract j (j + Zs text j)) 0 = Z9 text j) ∧ Z9 (text.extract j (j + Zs text j)) 0 = Z9 text j := by
 by_cases h3 : Z9 text j = 61 ∧ Z9 text (j + 1) = 61 ∧ Z9 text (j + 2) = 61
 ·have e : Zs text j = 3 := by simp [Zs, h3]
  rw [e];have hl := Z4j (text := text) (i := j + 2) (by omega);have b0 := Zq text (j := j) (k := j + 3) (i := 0) (by omega) (by omega);have b1 := Zq text (j := j) (k := j + 3) (i := 1) (by omega) (by omega);have b2 := Zq text (j := j) (k := j + 3) (i := 2) (by omega) (by omega);refine ⟨by omega, by omega, fun m h1 h2 => ?_, ?_, fun _ => by rw [b0, Nat.add_zero], by rw [b0, Nat.add_zero]⟩
  ·have : m = j ∨ m = j + 1 ∨ m = j + 2 := by omega
   rcases this with rfl | rfl | rfl <;> simp [Z1a, h3]
  ·unfold Zs; rw [show 0 + 1 = 1 by rfl, show 0 + 2 = 2 by rfl, b0, b1, b2, Nat.add_zero, if_pos h3]
 ·by_cases h2 : Z9 text j = 38 ∧ Z9 text (j + 1) = 38
  ·have e : Zs text j = 2 := by simp [Zs, h2]
   rw [e];have hl := Z4j (text := text) (i := j + 1) (by omega);have b0 := Zq text (j := j) (k := j + 2) (i := 0) (by omega) (by omega);have b1 := Zq text (j := j) (k := j + 2) (i := 1) (by omega) (by omega);refine ⟨by omega, by omega, fun m h1 h2' => ?_, ?_, fun _ => by rw [b0, Nat.add_zero], by rw [b0, Nat.add_zero]⟩
   ·have : m = j ∨ m = j + 1 := by omega
    rcases this with rfl | rfl <;> simp [Z1a, h2]
   ·unfold Zs; rw [show 0 + 1 = 1 by rfl, show 0 + 2 = 2 by rfl, b0, b1, Nat.add_zero, if_neg (by omega), if_pos h2]
  ·by_cases h1 : Z9 text j = 124 ∧ Z9 text (j + 1) = 124
   ·have e : Zs text j = 2 := by simp [Zs, h1]
    rw [e];have hl := Z4j (text := text) (i := j + 1) (by omega);have b0 := Zq text (j := j) (k := j + 2) (i := 0) (by omega) (by omega);have b1 := Zq text (j := j) (k := j + 2) (i := 1) (by omega) (by omega);refine ⟨by omega, by omega, fun m h1' h2' => ?_, ?_, fun _ => by rw [b0, Nat.add_zero], by rw [b0, Nat.add_zero]⟩
    ·have : m = j ∨ m = j + 1 := by omega
     rcases this with rfl | rfl <;> simp [Z1a, h1]
    ·unfold Zs; rw [show 0 + 1 = 1 by rfl, show 0 + 2 = 2 by rfl, b0, b1, Nat.add_zero, if_neg (by omega), if_neg (by omega), if_pos h1]
   ·have e : Zs text j = 1 := by simp [Zs, h3, h2, h1]
    have hs := h e;rw [e];have hp := Zgp hs;have hl := Z4j hp.1;have b0 := Zq text (j := j) (k := j + 1) (i := 0) (by omega) (by omega);have b1 := Z7h (text := text.extract j (j + 1)) (i := 1) (by rw [Z3r text (by omega)]; omega);refine ⟨by omega, by omega, fun m h1' h2' => ?_, ?_, fun _ => by rw [b0, Nat.add_zero], by rw [b0, Nat.add_zero]⟩
    ·obtain rfl : m = j := by omega
     exact hp.2
    ·unfold Zs; rw [show 0 + 1 = 1 by rfl, show 0 + 2 = 2 by rfl, b1, if_neg (by omega), if_neg (by omega), if_neg (by omega)]
theorem Z39 (text : ByteArray) {j k : Nat} {t : Tok} (hj : j < text.size) (h : Z13 text j = .ok (t, k)) :
 j < k ∧ k ≤ text.size ∧ t.at' = j ∧ t.kind ≠ 6 ∧ Z1a (Z9 text j) = false ∧ Z1a (Z9 text (k - 1)) = false ∧
   Z13 (text.extract j k) 0 = .ok ({ t with at' := 0 }, k - j) := by
 unfold Z13 at h;by_cases hl : Z0l (Z9 text j) = true
 ·rw [if_pos hl] at h;simp only at h;obtain ⟨K, hK⟩ : ∃ K, Zw Z46 text (text.size - j) j = K := ⟨_, rfl⟩
  rw [hK] at h;obtain ⟨s1, s2, s3, s4⟩ := Z28 Z46 text (text.size - j) j (Nat.le_refl _) (by omega);have hcut := Z8s Z46 text hj hK;rw [hK] at s1 s2 s3 s4;have hjK : j < K := by
   rcases Nat.lt_or_ge j K with h' | h';·exact h'
   ·have := s4 (by omega);rw [show K = j by omega, Z2w hl] at this;cases this
  have hb0 : Z9 (text.extract j K) 0 = Z9 text j := by rw [Zq text (by omega) s2, Nat.add_zero]
  have hbl := Z2s (s3 (K - 1) (by omega) (by omega));have hall : (text.extract j K).extract 0 (K - j) = text.extract j K := extract_all _ _ (Z3r text s2).symm;by_cases hw : Z2x (text.extract j K) = true
  ·rw [if_pos hw] at h;simp only [Except.ok.injEq, Prod.mk.injEq] at h;obtain ⟨rfl, rfl⟩ := h;refine ⟨hjK, s2, rfl, by simp, Z2s (Z2w hl), hbl, ?_⟩;unfold Z13;rw [hb0, if_pos hl];simp only [hcut, hall];rw [if_pos hw]
  ·rw [if_neg hw] at h;by_cases h20 : 20 < K - j;·rw [if_pos h20] at h; cases h
   ·rw [if_neg h20] at h;simp only [Except.ok.injEq, Prod.mk.injEq] at h;obtain ⟨rfl, rfl⟩ := h;refine ⟨hjK, s2, rfl, by simp, Z2s (Z2w hl), hbl, ?_⟩;unfold Z13;rw [hb0, if_pos hl];simp only [hcut, hall];rw [if_neg hw, if_neg (by omega)]
 rw [if_neg hl] at h;by_cases hd : Z0h (Z9 text j) = true
 ·rw [if_pos hd] at h;simp only at h;obtain ⟨K, hK⟩ : ∃ K, Zw Z0h text (text.size - j) j = K := ⟨_, rfl⟩
  rw [hK] at h;obtain ⟨s1, s2, s3, s4⟩ := Z28 Z0h text (text.size - j) j (Nat.le_refl _) (by omega);have hcut := Z8s Z0h text hj hK;rw [hK] at s1 s2 s3 s4;have hjK : j < K := by
   rcases Nat.lt_or_ge j K with h' | h';·exact h'
   ·have := s4 (by omega);rw [show K = j by omega, hd] at this;cases this
  have hb0 : Z9 (text.extract j K) 0 = Z9 text j := by rw [Zq text (by omega) s2, Nat.add_zero]
  have hbl := Z2s (Z9h (s3 (K - 1) (by omega) (by omega)));have hnum := Zhc text (j := j) s2 (K - j) j 0 (Nat.le_refl _);rw [Nat.sub_self] at hnum;by_cases h1 : 10 < K - j ∨ (1 < K - j ∧ Z9 text j = 48);·rw [if_pos h1] at h; cases h
  rw [if_neg h1] at h;by_cases h2 : 1000000000 < numF text K (K - j) j 0;·rw [if_pos h2] at h; cases h
  rw [if_neg h2] at h;simp only [Except.ok.injEq, Prod.mk.injEq] at h;obtain ⟨rfl, rfl⟩ := h;refine ⟨hjK, s2, rfl, by simp, Z2s (Z9h hd), hbl, ?_⟩;unfold Z13;rw [hb0, if_neg hl, if_pos hd];simp only [hcut];simp only [Nat.sub_zero, hnum];rw [if_neg h1, if_neg h2]
 rw [if_neg hd] at h;by_cases hq : Z9 text j = 39
 ·rw [if_pos hq] at h;obtain ⟨⟨bs, e, K⟩, hR⟩ : ∃ R, R = Z0f text (j + 1) := ⟨_, rfl⟩
  rw [← hR] at h;simp only at h;by_cases h4 : e = 4;·rw [if_pos h4] at h; cases h
  rw [if_neg h4] at h;by_cases h0 : e ≠ 0;·rw [if_pos h0] at h; cases h
  rw [if_neg h0] at h;simp only [ne_eq, Decidable.not_not] at h0;subst h0;simp only [Except.ok.injEq, Prod.mk.injEq] at h;obtain ⟨rfl, rfl⟩ := h;obtain ⟨g1, g2, g3, g4⟩ := Zc0 text (j := j) _ _ _ _ _ (by omega) hR.symm;refine ⟨by omega, g2, rfl, by simp, by rw [hq]; rfl, by rw [g3]; rfl, ?_⟩;have hb0 : Z9 (text.extract j K) 0 = Z9 text j := by rw [Zq text (by omega) g2, Nat.add_zero]
  have hqa : Z0f (text.extract j K) (0 + 1) = (bs, 0, K - j) := by
   have := g4 ((text.extract j K).size + 1 - (0 + 1)) (by rw [Z3r text g2]; omega);rw [show j + 1 - j = 0 + 1 by omega] at this;exact this
  unfold Z13;rw [hb0, if_neg hl, if_neg hd, if_pos hq, hqa];simp
 rw [if_neg hq] at h;by_cases hs : Zs text j = 1 ∧ Z5l (Z9 text j) = false;·rw [if_pos hs] at h; cases h
 rw [if_neg hs] at h;simp only [Except.ok.injEq, Prod.mk.injEq] at h;obtain ⟨rfl, rfl⟩ := h;obtain ⟨g1, g2, g3, g4, g5, g6⟩ := Zcd text j (fun e => by
  cases hb : Z5l (Z9 text j) with
  | true => rfl
  | false => exact absurd ⟨e, hb⟩ hs)
 refine ⟨by omega, g2, rfl, by simp, g3 j (Nat.le_refl _) (by omega), g3 _ (by omega) (by omega), ?_⟩;have hall : (text.extract j (j + Zs text j)).extract 0 (0 + Zs text j) = text.extract j (j + Zs text j) := extract_all _ _ (by rw [Z3r text g2]; omega);unfold Z13;rw [g6, if_neg hl, if_neg hd, if_neg hq, g4, if_neg hs, hall];simp
def Zev (text : ByteArray) : Nat → List Tok → Prop
 | _, [] => False
 | i, [t] => text.size ≤ Zw Z1a text (text.size - i) i ∧ t = ⟨6, ByteArray.empty, 0, Zw Z1a text (text.size - i) i⟩
 | i, t :: u :: l => ∃ k, Zw Z1a text (text.size - i) i < text.size ∧ Z13 text (Zw Z1a text (text.size - i) i) = .ok (t, k) ∧ Zev text k (u :: l)
theorem Zdk (text : ByteArray) : ∀ (f i : Nat) (acc l : List Tok), i ≤ text.size → text.size - i < f → lexF text f i acc = .ok l → ∃ r, l = acc ++ r ∧ Zev text i r := by
 intro f;induction f with
 | zero => intro i acc l _ h2; omega
 | succ f ih =>
   intro i acc l hi hf h;simp only [lexF] at h;obtain ⟨s1, s2, _, _⟩ := Z28 Z1a text (text.size - i) i (Nat.le_refl _) hi;by_cases hj : text.size ≤ Zw Z1a text (text.size - i) i
   ·rw [if_pos hj] at h;simp only [Except.ok.injEq] at h;exact ⟨_, h.symm, hj, rfl⟩
   ·rw [if_neg hj] at h;cases ht : Z13 text (Zw Z1a text (text.size - i) i) with
    | error e => rw [ht] at h; cases h
    | ok x =>
      obtain ⟨t, k⟩ := x;rw [ht] at h;simp only at h;obtain ⟨c1, c2, _, _, _, _, _⟩ := Z39 text (by omega) ht;obtain ⟨r, hr, hS⟩ := ih k _ l c2 (by omega) h;refine ⟨t :: r, by simp [hr], ?_⟩;cases r with
      | nil => exact hS.elim
      | cons u r => exact ⟨k, by omega, ht, hS⟩
theorem Z6y {text : ByteArray} {l : List Tok} (h : Z5m text = .ok l) : Zev text 0 l := by
 obtain ⟨r, hr, hS⟩ := Zdk text _ 0 [] l (Nat.zero_le _) (by omega) h;rw [hr]; exact hS
end Go.Proofs.YtgmnfgljkocnpaaGreatDoor
