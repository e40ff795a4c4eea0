/- The document's parser: its state; ok, next, fail, skip, must, ident. -/
import Derived.Test.YtgmnfgljkocnpaaGreatDoorJ09
import Derived.Test.YtgmnfgljkocnpaaGreatDoorJ13
import Derived.Test.YtgmnfgljkocnpaaGreatDoorJ01
namespace Go.Proofs.YtgmnfgljkocnpaaGreatDoor
open Go Go.RowKit
set_option maxRecDepth 100000
set_option maxHeartbeats 20000000
set_option linter.unusedVariables false
structure QC where
 rb : Nat
 tb : Nat
 off : Nat
 cap : Nat
 L : List Tok
def fE : Option (Int × Nat) → Int
 | none => 0
 | some x => x.1
def fP : Option (Int × Nat) → Int
 | none => -1
 | some x => x.2
structure QAt (w : World) (C : QC) (i : Nat) (f : Option (Int × Nat)) : Prop where
 blk : w.heap[C.rb]? = some (.cells #[.slice (some ⟨C.tb, C.off, none⟩) C.L.length C.cap, .int .i64 i, .int .i64 (fE f), .int .i64 (fP f)] 56 (0, 0))
 le : C.L.length ≤ C.cap
 most : C.cap ≤ 9223372036854775807
 ord : C.tb < C.rb
 cells : ∀ k t j x, C.L[k]? = some t → t.cells[j]? = some x → w.cell? ⟨C.tb, C.off + k * 4 + j, none⟩ = some x
 last : ∃ l e, C.L = l ++ [e] ∧ e.kind = 6 ∧ ∀ t ∈ l, t.kind ≠ 6
 lt : i < C.L.length
 few : C.L.length ≤ 4000
 code : ∀ c p, f = some (c, p) → c ≠ 0
 pm : ∀ t ∈ C.L, t.kind = 5 → t.text ≠ ⟨#[43, 45]⟩
 sm : ∀ t ∈ C.L, t.text.size ≤ maxLen
def QS (w : World) (C : QC) (σ : RS) : Prop := ∃ i, σ.ts = C.L.drop i ∧ QAt w C i σ.f
section
variable {w w' : World} {C : QC} {i : Nat} {f : Option (Int × Nat)} {σ : RS}
theorem QAt.rlt (h : QAt w C i f) : C.rb < w.heap.size := (Array.getElem?_eq_some_iff.1 h.blk).1
theorem QAt.keep (h : QAt w C i f) (hk : ∀ k, k ≤ C.rb → w'.heap[k]? = w.heap[k]?) : QAt w' C i f :=
 ⟨(hk _ (Nat.le_refl _)).trans h.blk, h.le, h.most, h.ord, fun k t j x h1 h2 => (World.cell?_of_block (hk _ (Nat.le_of_lt h.ord))).trans (h.cells k t j x h1 h2), h.last, h.lt, h.few, h.code, h.pm, h.sm⟩
theorem QAt.below (h : QAt w C i f) (hB : Below w.heap.size w w') : QAt w' C i f := h.keep fun k hk => hB.block k (Nat.lt_of_le_of_lt hk h.rlt)
theorem QAt.drew (h : QAt w C i f) : QAt w.drew C i f := h.keep fun _ _ => rfl
theorem QS.below (h : QS w C σ) (hB : Below w.heap.size w w') : QS w' C σ := by
 obtain ⟨i, e, h⟩ := h;exact ⟨i, e, h.below hB⟩
theorem QS.drew (h : QS w C σ) : QS w.drew C σ := h.below (Below.refl _ _).drew
theorem QS.rlt (h : QS w C σ) : C.rb < w.heap.size := by obtain ⟨i, e, h⟩ := h; exact h.rlt
theorem QAt.c0 (h : QAt w C i f) : w.cell? ⟨C.rb, 0, none⟩ = some (.slice (some ⟨C.tb, C.off, none⟩) C.L.length C.cap) := by simp [World.cell?, h.blk]
theorem QAt.c1 (h : QAt w C i f) : w.cell? ⟨C.rb, 1, none⟩ = some (.int .i64 i) := by simp [World.cell?, h.blk]
theorem QAt.c2 (h : QAt w C i f) : w.cell? ⟨C.rb, 2, none⟩ = some (.int .i64 (fE f)) := by simp [World.cell?, h.blk]
theorem QAt.c3 (h : QAt w C i f) : w.cell? ⟨C.rb, 3, none⟩ = some (.int .i64 (fP f)) := by simp [World.cell?, h.blk]
theorem QAt.fz (h : QAt w C i f) (j : Nat) : w.frozen? ⟨C.rb, j, none⟩ = false := by simp [World.frozen?, h.blk]
theorem QAt.hdEq (h : QAt w C i f) : C.L[i]? = some (hdT (C.L.drop i)) := by
 have := h.lt;rw [List.drop_eq_getElem_cons this, List.getElem?_eq_getElem this];rfl
theorem QAt.hd (h : QAt w C i f) {j : Nat} {x : Value} (hj : (hdT (C.L.drop i)).cells[j]? = some x) : w.cell? ⟨C.tb, C.off + i * 4 + j, none⟩ = some x := h.cells i _ j x h.hdEq hj
theorem QAt.more (h : QAt w C i f) (hk : (hdT (C.L.drop i)).kind ≠ 6) : i + 1 < C.L.length := by
 obtain ⟨l, e, h1, h2, _⟩ := h.last;have hi := h.lt;have hh := h.hdEq;rw [h1] at hh hi ⊢;rw [List.length_append, List.length_singleton] at hi ⊢;by_cases hl : i < l.length;·omega
 ·exfalso;have e1 : i = l.length := by omega
  subst e1;rw [List.getElem?_append_right (Nat.le_refl _)] at hh;simp only [Nat.sub_self, List.getElem?_cons_zero, Option.some.injEq] at hh;rw [h1, ← hh] at hk;exact hk h2
theorem QAt.at (h : QAt w C i f) {j : Nat} (hj : j < C.L.length) {x : Int} (hx : x = j) : QAt (w.setCell ⟨C.rb, 1, none⟩ (.int .i64 x)) C j f := by
 subst hx;have hb := Below.heap_setCell w ⟨C.rb, 1, none⟩ (.int .i64 (j : Int)) C.tb (by have := h.ord; simp only; omega);exact ⟨Zn (o := 1) (.int .i64 (j : Int)) h.blk, h.le, h.most, h.ord, fun k t j' x h3 h4 => (World.cell?_of_block hb).trans (h.cells k t j' x h3 h4), h.last, hj, h.few, h.code, h.pm, h.sm⟩
theorem QAt.fault (h : QAt w C i f) {c : Int} {p : Nat} (hc : c ≠ 0) {x : Int} (hx : x = p) : QAt ((w.setCell ⟨C.rb, 2, none⟩ (.int .i64 c)).setCell ⟨C.rb, 3, none⟩ (.int .i64 x)) C i (some (c, p)) := by
 subst hx;have hb : ((w.setCell ⟨C.rb, 2, none⟩ (.int .i64 c)).setCell ⟨C.rb, 3, none⟩ (.int .i64 (p : Int))).heap[C.tb]? = w.heap[C.tb]? := by
  have := h.ord;rw [Below.heap_setCell _ _ _ _ (by simp only; omega), Below.heap_setCell _ _ _ _ (by simp only; omega)]
 exact ⟨Zn (o := 3) _ (Zn (o := 2) _ h.blk), h.le, h.most, h.ord, fun k t j' x h3 h4 => (World.cell?_of_block hb).trans (h.cells k t j' x h3 h4), h.last, h.lt, h.few, fun c' p' e => by
  simp only [Option.some.injEq, Prod.mk.injEq] at e;rw [← e.1]; exact hc, h.pm, h.sm⟩
theorem Zbd {α : Type} (l : List α) (i : Nat) : (l.drop i).tail = l.drop (i + 1) := by rw [List.tail_drop]
theorem QS.adv {w : World} (h : QAt w C i f) (hk : (hdT (C.L.drop i)).kind ≠ 6) {x : Int} (hx : x = (i : Int) + 1) : QS (w.setCell ⟨C.rb, 1, none⟩ (.int .i64 x)) C (advR ⟨C.L.drop i, f⟩) :=
 ⟨i + 1, Zbd _ _, h.at (h.more hk) (by rw [hx]; rfl)⟩
theorem Zf2 (h : QAt w C i f) : Calls Tryz.prog 24 #[.pointer (some ⟨C.rb, 0, none⟩)] w fun e w' => e = .returned (.bool f.isNone) ∧ w = w' := by
 have hc := h.c2;have hcode := h.code;rcases f with _ | ⟨c, p⟩
 ·simp only [fE] at hc;clear h hcode;go_enter Tryz.func24, Tryz.ntmps24
  go_wp2;go_ret;exact ⟨rfl, rfl⟩
 ·have h0 : (c == 0) = false := by simpa using hcode c p rfl
  simp only [fE] at hc;clear h hcode;go_enter Tryz.func24, Tryz.ntmps24
  go_wp2;go_ret;exact ⟨rfl, rfl⟩
theorem Z1y (h : QS w C σ) : Calls Tryz.prog 24 #[.pointer (some ⟨C.rb, 0, none⟩)] w fun e w' => e = .returned (.bool σ.f.isNone) ∧ w = w' := by
 obtain ⟨i, _, h⟩ := h;exact Zf2 h
theorem Zi9 (s : ByteArray) (t : Tok) : ((decide (t.kind = 5) || decide (t.kind = 2)) && Z0o t.text s) = ((t.kind == 2 || t.kind == 5) && (t.text.toList == s.toList)) := by
 rw [Z4c, Bool.or_comm]; rfl
theorem Zd (h : QS w C σ) (s : ByteArray) : Calls Tryz.prog 49 #[.pointer (some ⟨C.rb, 0, none⟩), .string s] w fun e w' => e = .returned (.bool (Zg s σ)) ∧ Below w.heap.size w w' := by
 obtain ⟨i, e, h⟩ := h;obtain ⟨ts, f⟩ := σ;simp only at e h;subst e;have HOK := lh (fun w1 (hB : Below w.heap.size w w1) => Zf2 (h.below hB));have c0 := h.c0;have c1 := h.c1;have t0 := h.hd (j := 0) rfl;have t1 := h.hd (j := 1) rfl;have t2 := h.hd (j := 2) rfl;have t3 := h.hd (j := 3) rfl;have hi := h.lt;have hle := h.le;have hm := h.most;have hr := h.rlt;have ht : C.tb < w.heap.size := Nat.lt_trans h.ord hr;obtain ⟨n, hn⟩ : ∃ n, n = C.L.length := ⟨_, rfl⟩
 rw [← hn] at c0 hi hle;obtain ⟨X, hX⟩ : ∃ X, X = Zg s ⟨C.L.drop i, f⟩ := ⟨_, rfl⟩
 rw [← hX];unfold Zg isT at hX;rw [Zi9] at hX;obtain ⟨⟨k, tx, tn, ta⟩, htok⟩ : ∃ t, t = hdT (C.L.drop i) := ⟨_, rfl⟩
 simp only [← htok] at t0 t1 t2 t3 hX;rw [Nat.add_zero] at t0;generalize C.tb = tb at *;generalize C.off = off at *;generalize C.cap = cap at *;generalize f.isNone = b at *;have HX := lh hX;generalize C.rb = rb at *;clear h hn htok hX;cases b with
 | false =>
   go_enter Tryz.func49, Tryz.ntmps49
   go_wp2_with fail
   refine Z0 [(true, 0), (true, 1), (true, 2), (true, 3), (true, 4), (true, 5), (true, 6), (true, 7), (true, 8), (true, 9), (false, 10)] [11] (fun W => W.cell? ⟨rb, 0, none⟩ = some (.slice (some ⟨tb, off, none⟩) n cap) ∧ W.cell? ⟨rb, 1, none⟩ = some (.int .i64 i) ∧ W.cell? ⟨tb, off + i * 4, none⟩ = some (.int .i64 k) ∧ W.cell? ⟨tb, off + i * 4 + 1, none⟩ = some (.string tx) ∧ W.cell? ⟨tb, off + i * 4 + 2, none⟩ = some (.int .i64 tn) ∧ W.cell? ⟨tb, off + i * 4 + 3, none⟩ = some (.int .i64 ta)) (by kernel_rfl) (by kernel_rfl) (fun _ _ d _ _ h => by cases d <;> exact h) ⟨c0, c1, t0, t1, t2, t3⟩ (fun hS0 => ?_)
   simp only [Za, List.filterMap_cons, List.filterMap_nil, List.getElem?_toArray, List.getElem?_cons_zero, List.getElem?_cons_succ, Option.map_some]
   iterate 10
    first
     | (refine Z2 ?_ (by rfl) (fun w' hS' => ?_) ?_; rotate_left; (obtain ⟨s0, s1, s2, s3, s4, s5⟩ := hS'; go_simp; first | done | with_reducible rfl); simp only [Act.put, zA, zB, zC])
     | (refine Z1 (by rfl) ?_; simp only [Act.put, zA, zB, zC])
   refine Z6 (fun K hK => ?_);go_simp
   refine hK _ _ ⟨(Z7 hr).trans c0, (Z7 hr).trans c1, (Z7 ht).trans t0, (Z7 ht).trans t1, (Z7 ht).trans t2, (Z7 ht).trans t3⟩ ?_;clear hK K;refine Z5 ?_;go_wp2_with fail
   refine (HOK.out _ ?_).mono ?_;·repeat (first | exact Below.refl _ _ | (refine Below.setCell ?_ (by simp) _) | (refine Below.alloc ?_ (by simp) _) | (refine Below.drew ?_))
   rintro e w1 ⟨rfl, rfl⟩;go_wp2;go_ret;refine ⟨Z82 (by rw [HX.out]; rfl), ?_⟩;repeat (first | exact Below.refl _ _ | (refine Below.setCell ?_ (by simp) _) | (refine Below.alloc ?_ (by simp) _) | (refine Below.drew ?_))
 | true =>
   by_cases k2 : (k == 2) = true
   ·go_enter Tryz.func49, Tryz.ntmps49
    go_wp2_with fail
    refine Z0 [(true, 0), (true, 1), (true, 2), (true, 3), (true, 4), (true, 5), (true, 6), (true, 7), (true, 8), (true, 9), (false, 10)] [11] (fun W => W.cell? ⟨rb, 0, none⟩ = some (.slice (some ⟨tb, off, none⟩) n cap) ∧ W.cell? ⟨rb, 1, none⟩ = some (.int .i64 i) ∧ W.cell? ⟨tb, off + i * 4, none⟩ = some (.int .i64 k) ∧ W.cell? ⟨tb, off + i * 4 + 1, none⟩ = some (.string tx) ∧ W.cell? ⟨tb, off + i * 4 + 2, none⟩ = some (.int .i64 tn) ∧ W.cell? ⟨tb, off + i * 4 + 3, none⟩ = some (.int .i64 ta)) (by kernel_rfl) (by kernel_rfl) (fun _ _ d _ _ h => by cases d <;> exact h) ⟨c0, c1, t0, t1, t2, t3⟩ (fun hS0 => ?_)
    simp only [Za, List.filterMap_cons, List.filterMap_nil, List.getElem?_toArray, List.getElem?_cons_zero, List.getElem?_cons_succ, Option.map_some]
    iterate 10
     first
      | (refine Z2 ?_ (by rfl) (fun w' hS' => ?_) ?_; rotate_left; (obtain ⟨s0, s1, s2, s3, s4, s5⟩ := hS'; go_simp; first | done | with_reducible rfl); simp only [Act.put, zA, zB, zC])
      | (refine Z1 (by rfl) ?_; simp only [Act.put, zA, zB, zC])
    refine Z6 (fun K hK => ?_);go_simp
    refine hK _ _ ⟨(Z7 hr).trans c0, (Z7 hr).trans c1, (Z7 ht).trans t0, (Z7 ht).trans t1, (Z7 ht).trans t2, (Z7 ht).trans t3⟩ ?_;clear hK K;refine Z5 ?_;go_wp2_with fail
    refine (HOK.out _ ?_).mono ?_;·repeat (first | exact Below.refl _ _ | (refine Below.setCell ?_ (by simp) _) | (refine Below.alloc ?_ (by simp) _) | (refine Below.drew ?_))
    rintro e w1 ⟨rfl, rfl⟩;go_wp2;go_ret;refine ⟨Z82 (by rw [HX.out, k2]; rfl), ?_⟩;repeat (first | exact Below.refl _ _ | (refine Below.setCell ?_ (by simp) _) | (refine Below.alloc ?_ (by simp) _) | (refine Below.drew ?_))
   ·have k2' : (k == 2) = false := by simpa using k2
    by_cases k5 : (k == 5) = true
    ·go_enter Tryz.func49, Tryz.ntmps49
     go_wp2_with fail
     refine Z0 [(true, 0), (true, 1), (true, 2), (true, 3), (true, 4), (true, 5), (true, 6), (true, 7), (true, 8), (true, 9), (false, 10)] [11] (fun W => W.cell? ⟨rb, 0, none⟩ = some (.slice (some ⟨tb, off, none⟩) n cap) ∧ W.cell? ⟨rb, 1, none⟩ = some (.int .i64 i) ∧ W.cell? ⟨tb, off + i * 4, none⟩ = some (.int .i64 k) ∧ W.cell? ⟨tb, off + i * 4 + 1, none⟩ = some (.string tx) ∧ W.cell? ⟨tb, off + i * 4 + 2, none⟩ = some (.int .i64 tn) ∧ W.cell? ⟨tb, off + i * 4 + 3, none⟩ = some (.int .i64 ta)) (by kernel_rfl) (by kernel_rfl) (fun _ _ d _ _ h => by cases d <;> exact h) ⟨c0, c1, t0, t1, t2, t3⟩ (fun hS0 => ?_)
     simp only [Za, List.filterMap_cons, List.filterMap_nil, List.getElem?_toArray, List.getElem?_cons_zero, List.getElem?_cons_succ, Option.map_some]
     iterate 10
      first
       | (refine Z2 ?_ (by rfl) (fun w' hS' => ?_) ?_; rotate_left; (obtain ⟨s0, s1, s2, s3, s4, s5⟩ := hS'; go_simp; first | done | with_reducible rfl); simp only [Act.put, zA, zB, zC])
       | (refine Z1 (by rfl) ?_; simp only [Act.put, zA, zB, zC])
     refine Z6 (fun K hK => ?_);go_simp
     refine hK _ _ ⟨(Z7 hr).trans c0, (Z7 hr).trans c1, (Z7 ht).trans t0, (Z7 ht).trans t1, (Z7 ht).trans t2, (Z7 ht).trans t3⟩ ?_;clear hK K;refine Z5 ?_;go_wp2_with fail
     refine (HOK.out _ ?_).mono ?_;·repeat (first | exact Below.refl _ _ | (refine Below.setCell ?_ (by simp) _) | (refine Below.alloc ?_ (by simp) _) | (refine Below.drew ?_))
     rintro e w1 ⟨rfl, rfl⟩;go_wp2;go_ret;refine ⟨Z82 (by rw [HX.out, k5, Bool.or_true]; rfl), ?_⟩;repeat (first | exact Below.refl _ _ | (refine Below.setCell ?_ (by simp) _) | (refine Below.alloc ?_ (by simp) _) | (refine Below.drew ?_))
    ·have k5' : (k == 5) = false := by simpa using k5
     go_enter Tryz.func49, Tryz.ntmps49
     go_wp2_with fail
     refine Z0 [(true, 0), (true, 1), (true, 2), (true, 3), (true, 4), (true, 5), (true, 6), (true, 7), (true, 8), (true, 9), (false, 10)] [11] (fun W => W.cell? ⟨rb, 0, none⟩ = some (.slice (some ⟨tb, off, none⟩) n cap) ∧ W.cell? ⟨rb, 1, none⟩ = some (.int .i64 i) ∧ W.cell? ⟨tb, off + i * 4, none⟩ = some (.int .i64 k) ∧ W.cell? ⟨tb, off + i * 4 + 1, none⟩ = some (.string tx) ∧ W.cell? ⟨tb, off + i * 4 + 2, none⟩ = some (.int .i64 tn) ∧ W.cell? ⟨tb, off + i * 4 + 3, none⟩ = some (.int .i64 ta)) (by kernel_rfl) (by kernel_rfl) (fun _ _ d _ _ h => by cases d <;> exact h) ⟨c0, c1, t0, t1, t2, t3⟩ (fun hS0 => ?_)
     simp only [Za, List.filterMap_cons, List.filterMap_nil, List.getElem?_toArray, List.getElem?_cons_zero, List.getElem?_cons_succ, Option.map_some]
     iterate 10
      first
       | (refine Z2 ?_ (by rfl) (fun w' hS' => ?_) ?_; rotate_left; (obtain ⟨s0, s1, s2, s3, s4, s5⟩ := hS'; go_simp; first | done | with_reducible rfl); simp only [Act.put, zA, zB, zC])
       | (refine Z1 (by rfl) ?_; simp only [Act.put, zA, zB, zC])
     refine Z6 (fun K hK => ?_);go_simp
     refine hK _ _ ⟨(Z7 hr).trans c0, (Z7 hr).trans c1, (Z7 ht).trans t0, (Z7 ht).trans t1, (Z7 ht).trans t2, (Z7 ht).trans t3⟩ ?_;clear hK K;refine Z5 ?_;go_wp2_with fail
     refine (HOK.out _ ?_).mono ?_;·repeat (first | exact Below.refl _ _ | (refine Below.setCell ?_ (by simp) _) | (refine Below.alloc ?_ (by simp) _) | (refine Below.drew ?_))
     rintro e w1 ⟨rfl, rfl⟩;go_wp2;go_ret;refine ⟨Z82 (by rw [HX.out, k2', k5']; rfl), ?_⟩;repeat (first | exact Below.refl _ _ | (refine Below.setCell ?_ (by simp) _) | (refine Below.alloc ?_ (by simp) _) | (refine Below.drew ?_))
theorem RFr.of_set {w : World} {rb : Nat} (o : Nat) (x : Value) : RFr w (w.setCell ⟨rb, o, none⟩ x) rb := (RFr.refl w rb).set o x
def Z1h (w : World) (C : QC) (B : Nat) (t : Tree) (σ' : RS) (e : Ending) (w' : World) : Prop :=
 ∃ a, e = .returned (.pointer (some ⟨a.b, 0, none⟩)) ∧ Got w B w' a t ∧ QS w' C σ' ∧ RFr w w' C.rb
theorem Z2h (h : QS w C σ) (c : Int) (hc : c ≠ 0) (B : Nat) (hB : C.rb < B) (hBw : B ≤ w.heap.size) :
 Calls Tryz.prog 48 #[.pointer (some ⟨C.rb, 0, none⟩), .int .i64 c] w (Z1h w C B gT (Z2q c σ)) := by
 obtain ⟨i, e, h⟩ := h;obtain ⟨ts, f⟩ := σ;simp only at e h;subst e;have HOK := lh (Zf2 h);have HH := lh h;cases hf : f.isNone with
 | false =>
   rw [hf] at HOK;have hR : Z2q c ⟨C.L.drop i, f⟩ = ⟨C.L.drop i, f⟩ := by simp [Z2q, hf]
   rw [hR];clear h hf hR;go_enter Tryz.func48, Tryz.ntmps48
   go_wp2_with fail
   refine HOK.out.mono ?_;rintro e w1 ⟨rfl, rfl⟩;go_wp2;go_ret;exact ⟨_, rfl, Got.leaf hBw (RFr.refl w C.rb), ⟨i, rfl, HH.out.below ((Below.refl _ _).alloc (Nat.le_refl _) _)⟩, RFr.below ((Below.refl _ _).alloc (Nat.le_refl _) _)⟩
 | true =>
   rw [hf] at HOK;obtain rfl : f = none := by cases f <;> simp_all
   have hR : Z2q c ⟨C.L.drop i, none⟩ = ⟨C.L.drop i, some (c, (hdT (C.L.drop i)).at')⟩ := by simp [Z2q]
   rw [hR];have c0 := h.c0;have c1 := h.c1;have c2 := h.c2;have c3 := h.c3;have t3 := h.hd (j := 3) rfl;have z2 := h.fz 2;have z3 := h.fz 3;have hi := h.lt;have hle := h.le;have hm := h.most;obtain ⟨p, hp⟩ : ∃ p, p = (hdT (C.L.drop i)).at' := ⟨_, rfl⟩
   rw [← hp] at t3 ⊢;obtain ⟨n, hn⟩ : ∃ n, n = C.L.length := ⟨_, rfl⟩
   rw [← hn] at c0 hi hle;clear h hf hR hp hn;obtain ⟨rb, tb, off, cap, L⟩ := C;simp only at *;go_enter Tryz.func48, Tryz.ntmps48
   go_wp2_with fail
   refine HOK.out.mono ?_;rintro e w1 ⟨rfl, rfl⟩;go_wp2_with fail
   refine Z0 [(true, 0), (true, 1), (true, 2), (true, 3), (true, 4), (true, 5), (true, 6), (true, 7), (true, 8), (true, 9), (true, 10), (true, 11), (true, 12), (true, 13)] [14, 15, 16] (fun W => W.cell? ⟨rb, 0, none⟩ = some (.slice (some ⟨tb, off, none⟩) n cap) ∧ W.cell? ⟨rb, 1, none⟩ = some (.int .i64 i) ∧ W.cell? ⟨tb, off + i * 4 + 3, none⟩ = some (.int .i64 p)) (by kernel_rfl) (by kernel_rfl) (fun _ _ d _ _ h => by cases d <;> exact h) ⟨c0, c1, t3⟩ (fun hS0 => ?_)
   simp only [Za, List.filterMap_cons, List.filterMap_nil, List.getElem?_toArray, List.getElem?_cons_zero, List.getElem?_cons_succ, Option.map_some]
   iterate 14
    first
     | (refine Z2 ?_ (by rfl) (fun w' hS' => ?_) ?_; rotate_left; (obtain ⟨s0, s1, s2⟩ := hS'; go_simp; first | done | with_reducible rfl); simp only [Act.put, zA, zB, zC])
     | (refine Z1 (by rfl) ?_; simp only [Act.put, zA, zB, zC])
   refine Z5 ?_;go_wp2;go_ret;have h2 : QAt ((w.setCell ⟨rb, 2, none⟩ (.int .i64 c)).setCell ⟨rb, 3, none⟩ (.int .i64 p)) ⟨rb, tb, off, cap, L⟩ i (some (c, p)) := HH.out.fault hc rfl;have h3 : RFr w ((w.setCell ⟨rb, 2, none⟩ (.int .i64 c)).setCell ⟨rb, 3, none⟩ (.int .i64 p)) rb := ((RFr.refl w rb).set 2 _).set 3 _;have h4 := Got.leaf (w0 := w) (rb := rb) (B := B) (k := 0) (t := ⟨#[]⟩) (n := 0) hBw h3;refine ⟨_, ?pt, h4.rfr hB (RFr.refl _ rb).drew, ⟨i, rfl, (h2.below ((Below.refl _ _).alloc (Nat.le_refl _) _)).drew⟩, (h3.trans (RFr.below ((Below.refl _ _).alloc (Nat.le_refl _) _))).drew⟩
   case pt => simp [ATree.b]
theorem Z2l {s : ByteArray} {σ : RS} (h : Zg s σ = true) : isT s σ.ts = true := by
 unfold Zg at h;simp only [Bool.and_eq_true] at h;exact h.2
theorem Z0e (h : QS w C σ) (s : ByteArray) : Calls Tryz.prog 51 #[.pointer (some ⟨C.rb, 0, none⟩), .string s] w fun e w' =>
 e = .returned (.bool (Zg s σ)) ∧ QS w' C (if Zg s σ then advR σ else σ) ∧ RFr w w' C.rb := by
 have HN := Zd h s;have HH := lh h;obtain ⟨rb, tb, off, cap, L⟩ := C;by_cases hs : Zg s σ = true
 ·rw [hs] at HN;have HN := lh HN;have HS := lh hs;rw [if_pos hs];clear h hs;go_enter Tryz.func51, Tryz.ntmps51
  go_wp2_with fail
  refine HN.out.mono ?_;rintro e w1 ⟨rfl, hB1⟩;have h1 := HH.out.below hB1;have HB := lh hB1;obtain ⟨i, e, h⟩ := h1;have c1 := h.c1;have z1 := h.fz 1;have hi := h.lt;have hf := h.few;simp only at c1 z1;have H1 := lh h;have E1 := lh e;clear hB1 h e;go_wp2;go_ret;have hk := Z4v (Z2l HS.out);rw [E1.out] at hk;have h2 := QS.adv H1.out (x := (i : Int) + 1) hk rfl;have h3 : (⟨List.drop i L, σ.f⟩ : RS) = σ := by rw [← E1.out]
  simp only at h2;rw [h3] at h2;refine ⟨by rw [HS.out]; rfl, h2, (RFr.below HB.out).set 1 _⟩
 ·have hs : Zg s σ = false := by simpa using hs
  rw [hs] at HN;have HN := lh HN;simp only [hs, if_false, Bool.false_eq_true];clear h hs;go_enter Tryz.func51, Tryz.ntmps51
  go_wp2_with fail
  refine HN.out.mono ?_;rintro e w1 ⟨rfl, hB1⟩;have HB := lh hB1;clear hB1;go_wp2;go_ret;exact ⟨rfl, HH.out.below HB.out, RFr.below HB.out⟩
theorem Z04 (h : QS w C σ) (s : ByteArray) (B : Nat) (hB : C.rb < B) (hBw : B ≤ w.heap.size) : Calls Tryz.prog 56 #[.pointer (some ⟨C.rb, 0, none⟩), .string s] w fun e w' =>
 e = .returned (.tuple #[]) ∧ QS w' C (Z08 s σ) ∧ RFr w w' C.rb := by
 have HO := Z1y h;have HH := lh h;have HBB := lh hB;have HBW := lh hBw;obtain ⟨X, hX⟩ : ∃ X, X = Z08 s σ := ⟨_, rfl⟩
 rw [← hX];unfold Z08 at hX;by_cases hf : σ.f.isNone = true
 ·rw [hf] at HO;rw [if_pos hf] at hX;have HS := Z0e h s;have hns : Zg s σ = isT s σ.ts := by simp [Zg, hf]
  rw [hns] at HS;have HO := lh HO;by_cases hs : isT s σ.ts = true
  ·rw [if_pos hs] at hX;rw [hs] at HS;rw [if_pos rfl, ← hX] at HS;have HS := lh HS;clear h hX hf hns hs hB hBw;go_enter Tryz.func56, Tryz.ntmps56
   go_wp2_with fail
   refine HO.out.mono ?_;rintro e w1 ⟨rfl, rfl⟩;go_wp2_with fail
   refine HS.out.mono ?_;rintro e w1 ⟨rfl, h1⟩;have H1 := lh h1;clear h1;go_wp2;go_end0
   exact ⟨rfl, H1.out⟩
  ·rw [if_neg hs] at hX;have hs : isT s σ.ts = false := by simpa using hs
   rw [hs] at HS;simp only [Bool.false_eq_true, if_false] at HS;have HS := lh HS;have HX := lh hX;clear h hX hf hns hs hB hBw;go_enter Tryz.func56, Tryz.ntmps56
   go_wp2_with fail
   refine HO.out.mono ?_;rintro e w1 ⟨rfl, rfl⟩;go_wp2_with fail
   refine HS.out.mono ?_;rintro e w2 ⟨rfl, h2⟩;have H2 := lh h2;clear h2;go_wp2_with fail
   refine (Z2h H2.out.1 3 (by decide) B HBB.out (Nat.le_trans HBW.out H2.out.2.size)).mono ?_;rintro e w3 ⟨a, rfl, _, h3, h4⟩;have H3 := lh h3;have H4 := lh h4;clear h3 h4;go_wp2;go_end0
   refine ⟨rfl, ?_, H2.out.2.trans H4.out⟩;rw [HX.out];exact H3.out
 ·have hf : σ.f.isNone = false := Bool.eq_false_iff.2 hf;rw [hf] at HO;rw [if_neg (by rw [hf]; decide)] at hX;have HO := lh HO;have HX := lh hX;clear h hX hf hB hBw;go_enter Tryz.func56, Tryz.ntmps56
  go_wp2_with fail
  refine HO.out.mono ?_;rintro e w1 ⟨rfl, rfl⟩;go_wp2;go_end0
  exact ⟨rfl, by rw [HX.out]; exact HH.out, RFr.refl _ _⟩
theorem Z2e (h : QS w C σ) (B : Nat) (hB : C.rb < B) (hBw : B ≤ w.heap.size) : Calls Tryz.prog 52 #[.pointer (some ⟨C.rb, 0, none⟩)] w fun e w' =>
 e = .returned (.string (Zj σ).1) ∧ QS w' C (Zj σ).2 ∧ RFr w w' C.rb := by
 have HO := Z1y h;have HH := lh h;have HBB := lh hB;have HBW := lh hBw;obtain ⟨X, hX⟩ : ∃ X, X = Zj σ := ⟨_, rfl⟩
 rw [← hX];unfold Zj at hX;by_cases hf : σ.f.isNone = true
 ·rw [hf] at HO;rw [if_pos hf] at hX;have HO := lh HO;obtain ⟨i, e, h⟩ := h;obtain ⟨ts, f⟩ := σ;simp only at e hf hX;subst e;have c0 := h.c0;have c1 := h.c1;have t0 := h.hd (j := 0) (x := .int .i64 (hdT (C.L.drop i)).kind) rfl;have t1 := h.hd (j := 1) (x := .string (hdT (C.L.drop i)).text) rfl;have z1 := h.fz 1;have hi := h.lt;have hle := h.le;have hm := h.most;have hr := h.rlt;have ho := h.ord;have hfew := h.few;have HA := lh h;rw [Nat.add_zero] at t0;obtain ⟨rb, tb, off, cap, L⟩ := C;simp only at *;obtain ⟨n, hn⟩ : ∃ n, n = L.length := ⟨_, rfl⟩
  rw [← hn] at c0 hi hle hfew;by_cases hk : (hdT (L.drop i)).kind = 1
  ·rw [if_pos hk] at hX;rw [hk] at t0;have hk6 : (hdT (L.drop i)).kind ≠ 6 := by rw [hk]; decide
   have HK6 := lh hk6;have HX := lh hX;have hrt : ¬ rb = tb := by omega
   obtain ⟨tx, htx⟩ : ∃ tx, tx = (hdT (L.drop i)).text := ⟨_, rfl⟩
   rw [← htx] at t1;have HTX := lh htx;clear h hX hf hk hB hBw hk6 hn htx;go_enter Tryz.func52, Tryz.ntmps52
   go_wp2_with fail
   refine HO.out.mono ?_;rintro e w1 ⟨rfl, rfl⟩;go_wp2_with fail
   refine Z0 [(true, 0), (true, 1), (true, 2), (true, 3), (true, 4), (true, 5), (true, 6), (true, 7)] [8, 9, 10, 11] (fun W => W.cell? ⟨rb, 0, none⟩ = some (.slice (some ⟨tb, off, none⟩) n cap) ∧ W.cell? ⟨rb, 1, none⟩ = some (.int .i64 i) ∧ W.cell? ⟨tb, off + i * 4, none⟩ = some (.int .i64 1)) (by kernel_rfl) (by kernel_rfl) (fun _ _ d _ _ h => by cases d <;> exact h) ⟨c0, c1, t0⟩ (fun hS0 => ?_);simp only [Za, List.filterMap_cons, List.filterMap_nil, List.getElem?_toArray, List.getElem?_cons_zero, List.getElem?_cons_succ, Option.map_some]
   iterate 8
    first
     | (refine Z2 ?_ (by rfl) (fun w' hS' => ?_) ?_; rotate_left; (obtain ⟨s0, s1, s2⟩ := hS'; go_simp; first | done | with_reducible rfl); simp only [Act.put, zA, zB, zC])
     | (refine Z1 (by rfl) ?_; simp only [Act.put, zA, zB, zC])
   refine Z5 ?_;have h2 := HA.out.drew.at (j := i + 1) (x := (i : Int) + 1) (HA.out.more HK6.out) rfl;have d0 := h2.c0;have d1 := h2.c1;have e1 := h2.cells i _ 1 (.string (hdT (L.drop i)).text) HA.out.hdEq rfl;simp only [← HTX.out] at d0 d1 e1;obtain ⟨m, hm'⟩ : ∃ m, m = L.length := ⟨_, rfl⟩
   rw [← hm'] at d0;have hm2 := HA.out.more HK6.out;simp only [← hm'] at hm2;have H2 := lh h2;clear h2 hm';go_wp2_with fail
   refine Z0 [(true, 0), (true, 1), (true, 2), (true, 3), (true, 4), (true, 5), (true, 6), (true, 7), (true, 8)] [9, 10, 11, 12] (fun W => W.cell? ⟨rb, 0, none⟩ = some (.slice (some ⟨tb, off, none⟩) m cap) ∧ W.cell? ⟨rb, 1, none⟩ = some (.int .i64 ((i : Int) + 1)) ∧ W.cell? ⟨tb, off + i * 4 + 1, none⟩ = some (.string tx)) (by kernel_rfl) (by kernel_rfl) (fun _ _ d _ _ h => by cases d <;> exact h) ⟨d0, d1, e1⟩ (fun hS0 => ?_);simp only [Za, List.filterMap_cons, List.filterMap_nil, List.getElem?_toArray, List.getElem?_cons_zero, List.getElem?_cons_succ, Option.map_some]
   iterate 9
    first
     | (refine Z2 ?_ (by rfl) (fun w' hS' => ?_) ?_; rotate_left; (obtain ⟨s0, s1, s2⟩ := hS'; go_simp; first | done | with_reducible rfl); simp only [Act.put, zA, zB, zC])
     | (refine Z1 (by rfl) ?_; simp only [Act.put, zA, zB, zC])
   refine Z5 ?_;go_wp2;go_ret;refine ⟨by rw [HX.out, HTX.out]; rfl, ?_, ((RFr.refl _ _).drew.set 1 _).drew⟩;rw [HX.out];exact QS.drew ⟨i + 1, Zbd _ _, H2.out⟩
  ·rw [if_neg hk] at hX;have hk1 : ((hdT (L.drop i)).kind != 1) = true := by simpa using hk
   obtain ⟨k, hkk⟩ : ∃ k, k = (hdT (L.drop i)).kind := ⟨_, rfl⟩
   rw [← hkk] at t0 hk1;have HX := lh hX;clear h hX hf hk hB hBw hn hkk t1;go_enter Tryz.func52, Tryz.ntmps52
   go_wp2_with fail
   refine HO.out.mono ?_;rintro e w1 ⟨rfl, rfl⟩;go_wp2_with fail
   refine Z0 [(true, 0), (true, 1), (true, 2), (true, 3), (true, 4), (true, 5), (true, 6), (true, 7)] [8, 9, 10, 11] (fun W => W.cell? ⟨rb, 0, none⟩ = some (.slice (some ⟨tb, off, none⟩) n cap) ∧ W.cell? ⟨rb, 1, none⟩ = some (.int .i64 i) ∧ W.cell? ⟨tb, off + i * 4, none⟩ = some (.int .i64 k)) (by kernel_rfl) (by kernel_rfl) (fun _ _ d _ _ h => by cases d <;> exact h) ⟨c0, c1, t0⟩ (fun hS0 => ?_);simp only [Za, List.filterMap_cons, List.filterMap_nil, List.getElem?_toArray, List.getElem?_cons_zero, List.getElem?_cons_succ, Option.map_some]
   iterate 8
    first
     | (refine Z2 ?_ (by rfl) (fun w' hS' => ?_) ?_; rotate_left; (obtain ⟨s0, s1, s2⟩ := hS'; go_simp; first | done | with_reducible rfl); simp only [Act.put, zA, zB, zC])
     | (refine Z1 (by rfl) ?_; simp only [Act.put, zA, zB, zC])
   refine Z5 ?_;go_wp2_with fail
   refine (Z2h HH.out.drew 3 (by decide) B HBB.out (by simpa using HBW.out)).mono ?_;rintro e w3 ⟨a, rfl, _, h3, h4⟩;have H3 := lh h3;have H4 := lh h4;clear h3 h4;go_wp2;go_ret;refine ⟨by rw [HX.out]; rfl, ?_, (RFr.refl _ _).drew.trans H4.out⟩;rw [HX.out];exact H3.out
 ·have hf : σ.f.isNone = false := Bool.eq_false_iff.2 hf;rw [hf] at HO;rw [if_neg (by rw [hf]; decide)] at hX;have HO := lh HO;have HX := lh hX;clear h hX hf hB hBw;go_enter Tryz.func52, Tryz.ntmps52
  go_wp2_with fail
  refine HO.out.mono ?_;rintro e w1 ⟨rfl, rfl⟩;go_wp2;go_ret;exact ⟨by rw [HX.out]; rfl, by rw [HX.out]; exact HH.out, RFr.refl _ _⟩
end
end Go.Proofs.YtgmnfgljkocnpaaGreatDoor
