/- General: rows, blocks, texts. General: a block that is changed. General: errors' values. slices.ContainsFunc with the closures of package early. Package lex: classes of bytes. -/
import Derived.WalkKit
import Derived.Laws.AppendOwn
import Derived.Lib.Hide
import Derived.Deep.AppendLies
import Derived.Test.YtgifgiipojedbaaGreatDoorProg
import Derived.WalkSpells
import Derived.WalkLawsBesides
namespace Go.Proofs.YtgifgiipojedbaaGreatDoor
open Go Go.RowKit
set_option maxRecDepth 100000

/-- two texts are the same -/
def sameS (a b : ByteArray) : Bool := decide (a = b)
theorem sameS_iff {a b : ByteArray} : sameS a b = true ↔ a = b := by simp [sameS]
theorem sameS_refl (a : ByteArray) : sameS a a = true := by simp [sameS]
theorem toList_inj {a b : ByteArray} (h : a.toList = b.toList) : a = b := by
  obtain ⟨⟨a⟩⟩ := a; obtain ⟨⟨b⟩⟩ := b
  simpa [ByteArray.toList_eq] using h
theorem toList_beq (a b : ByteArray) : (a.toList == b.toList) = sameS a b := by
  unfold sameS
  by_cases h : a = b
  · simp [h]
  · simp only [h, decide_false, beq_eq_false_iff_ne, ne_eq]
    exact fun e => h (toList_inj e)
theorem getElem?_flatMap {α β : Type} (f : α → List β) (m : Nat) (hf : ∀ a, (f a).length = m) (l : List α) (i j : Nat) (hj : j < m) :
    (l.flatMap f)[i * m + j]? = (l[i]?).bind fun a => (f a)[j]? := by
  induction l generalizing i with
  | nil => simp
  | cons a l ih =>
    rw [List.flatMap_cons]
    cases i with
    | zero => rw [List.getElem?_append_left (by rw [hf]; omega)]; simp
    | succ i =>
      rw [List.getElem?_append_right (by rw [hf, Nat.succ_mul]; omega), hf, show (i + 1) * m + j - m = i * m + j by rw [Nat.succ_mul]; omega, ih]
      simp
/-- a cell of a row of structs -/
theorem row_cell {w : World} {base : Nat} {e : TypeId} {m : Nat} {v : Value} {n : Nat} {α : Type} {f : α → List Value} {l : List α} (hf : ∀ a, (f a).length = m)
    (h : w.ownsRow base e m v n (l.flatMap f)) {g : Nat} (hg : v.ownBlock = some g) {i j : Nat} {a : α} {x : Value} (hi : l[i]? = some a) (hj : (f a)[j]? = some x) :
    w.cell? ⟨g, i * m + j, none⟩ = some x := by
  have hjm : j < m := by rw [← hf a]; exact (List.getElem?_eq_some_iff.1 hj).1
  have := h.cells hg (i * m + j) x (by rw [getElem?_flatMap f m hf l i j hjm, hi]; exact hj)
  rwa [show ((⟨g, 0, none⟩ : Addr).add (i * m + j)) = ⟨g, i * m + j, none⟩ by unfold Addr.add; split <;> simp_all] at this
theorem ownsRow_block {w w' : World} {base : Nat} {e : TypeId} {m : Nat} {v : Value} {n : Nat} {xs : List Value} (h : w.ownsRow base e m v n xs)
    (hb : ∀ g, v.ownBlock = some g → w'.heap[g]? = w.heap[g]?) : w'.ownsRow base e m v n xs := by
  refine ⟨h.1, ?_⟩
  rcases h.2 with hn | ⟨g, cap, cur, rfl, hbg, hgg, rest⟩
  · exact .inl hn
  · exact .inr ⟨g, cap, cur, rfl, hbg, by rw [hb g rfl]; exact hgg, rest⟩
/-- the two forms of an owned row -/
theorem ownsRow_cases {w : World} {base : Nat} {e : TypeId} {m : Nat} {v : Value} {n : Nat} {xs : List Value} (h : w.ownsRow base e m v n xs) :
    (v = .slice none 0 0 ∧ n = 0) ∨ ∃ g cap, v = .slice (some ⟨g, 0, none⟩) n cap ∧ n ≤ cap ∧ cap ≤ maxLen ∧ g < w.heap.size := by
  rcases h.2 with hn | ⟨g, cap, cur, rfl, _, hgg, h1, h2, _⟩
  · exact .inl hn
  · exact .inr ⟨g, cap, rfl, h1, h2, (Array.getElem?_eq_some_iff.1 hgg).1⟩
theorem ownsRow_frozen {w : World} {base : Nat} {e : TypeId} {m : Nat} {v : Value} {n : Nat} {xs : List Value} (h : w.ownsRow base e m v n xs) {g : Nat} (hg : v.ownBlock = some g) (o : Nat) :
    w.frozen? ⟨g, o, none⟩ = false := by
  rcases h.2 with ⟨rfl, _⟩ | ⟨g', cap, cur, rfl, _, hgg, _⟩
  · cases hg
  · simp only [Value.ownBlock, Option.some.injEq] at hg
    subst hg
    simp [World.frozen?, hgg]
theorem getElem?_lt {α : Type} {l : List α} {i : Nat} {a : α} (h : l[i]? = some a) : i < l.length := (List.getElem?_eq_some_iff.1 h).1
theorem below_newcell {w w1 : World} {c : Array Value} {T : TypeId} (hB : Below (w.alloc (.cells c T)).heap.size (w.alloc (.cells c T)) w1) (i : Nat) (x : Value) (h : c[i]? = some x) : w1.cell? ⟨w.heap.size, i, none⟩ = some x :=
  (hB.cell (p := ⟨w.heap.size, i, none⟩) (by simp)).trans ((World.cell?_alloc_new _ _ _ i).trans h)
theorem below_newfrozen {w w1 : World} {c : Array Value} {T : TypeId} (hB : Below (w.alloc (.cells c T)).heap.size (w.alloc (.cells c T)) w1) (i : Nat) : w1.frozen? ⟨w.heap.size, i, none⟩ = false :=
  (hB.frozen (p := ⟨w.heap.size, i, none⟩) (by simp)).trans (World.frozen?_alloc_new _ _ _ _)
theorem below_newsize {w w1 : World} {o : Obj} (hB : Below (w.alloc o).heap.size (w.alloc o) w1) : w.heap.size < w1.heap.size := by have := hB.size; simp at this; omega
theorem below_old {w w1 : World} {o : Obj} (hB : Below (w.alloc o).heap.size (w.alloc o) w1) : Below w.heap.size w w1 := ((Below.refl _ _).alloc (Nat.le_refl _) _).trans (hB.mono (by simp))
theorem ret_int {k : IntKind} {a b : Int} (h : a = b) : Ending.returned (.int k a) = .returned (.int k b) := by rw [h]
theorem ret_bool {a b : Bool} (h : a = b) : Ending.returned (.bool a) = .returned (.bool b) := by rw [h]
theorem ret_str {a b : ByteArray} (h : a = b) : Ending.returned (.string a) = .returned (.string b) := by rw [h]
theorem cell_old {w : World} {o : Obj} {p : Addr} (h : p.block < w.heap.size) : (w.alloc o).cell? p = w.cell? p := ((Below.refl w.heap.size w).alloc (Nat.le_refl _) o).cell h
theorem frozen_old {w : World} {o : Obj} {p : Addr} (h : p.block < w.heap.size) : (w.alloc o).frozen? p = w.frozen? p := ((Below.refl w.heap.size w).alloc (Nat.le_refl _) o).frozen h
end Go.Proofs.YtgifgiipojedbaaGreatDoor

namespace Go.Proofs.YtgifgiipojedbaaGreatDoor
open Go Go.RowKit
set_option maxRecDepth 100000

theorem setCell_block {w : World} {b o : Nat} {c : Array Value} {T : TypeId} {mk : Nat × Nat} (v : Value) (h : w.heap[b]? = some (.cells c T mk)) :
    (w.setCell ⟨b, o, none⟩ v).heap[b]? = some (.cells (c.setIfInBounds o v) T mk) := by
  simp [World.setCell, Array.getElem?_modify, h]
/-- 'x.f = append(x.f, ..)': what the store at the end leaves. -/
theorem push_field {w wA w1 : World} {row : Option Nat} {hb off : Nat} {x : Value} (v' : Value) (hA : Below w.heap.size w wA) (hg : wA.grownBy w1 row) (hhb : hb < w.heap.size) (hne : row ≠ some hb)
    (hc : w.cell? ⟨hb, off, none⟩ = some x) :
    (w1.setCell ⟨hb, off, none⟩ v').cell? ⟨hb, off, none⟩ = some v' ∧ (∀ o, o ≠ off → (w1.setCell ⟨hb, off, none⟩ v').cell? ⟨hb, o, none⟩ = w.cell? ⟨hb, o, none⟩) ∧
    (∀ o, (w1.setCell ⟨hb, off, none⟩ v').frozen? ⟨hb, o, none⟩ = w.frozen? ⟨hb, o, none⟩) ∧
    (∀ b, b < w.heap.size → b ≠ hb → some b ≠ row → (w1.setCell ⟨hb, off, none⟩ v').heap[b]? = w.heap[b]?) ∧
    (∀ b, b ≠ hb → (w1.setCell ⟨hb, off, none⟩ v').heap[b]? = w1.heap[b]?) ∧
    (∀ b, b < wA.heap.size → b ≠ hb → some b ≠ row → (w1.setCell ⟨hb, off, none⟩ v').heap[b]? = wA.heap[b]?) ∧
    w.heap.size ≤ (w1.setCell ⟨hb, off, none⟩ v').heap.size ∧ (w1.setCell ⟨hb, off, none⟩ v').os = w.os ∧ (w1.setCell ⟨hb, off, none⟩ v').tape = w.tape ∧ (w1.setCell ⟨hb, off, none⟩ v').output = w.output := by
  have hhA : hb < wA.heap.size := Nat.lt_of_lt_of_le hhb hA.size
  have hb1 : w1.heap[hb]? = w.heap[hb]? := (hg.block hb hhA (fun e => hne e.symm)).trans (hA.block hb hhb)
  have c1 : ∀ o, w1.cell? ⟨hb, o, none⟩ = w.cell? ⟨hb, o, none⟩ := fun o => World.cell?_of_block hb1
  have f1 : ∀ o, w1.frozen? ⟨hb, o, none⟩ = w.frozen? ⟨hb, o, none⟩ := fun o => World.frozen?_of_block hb1
  have hs : ∀ b, b ≠ hb → (w1.setCell ⟨hb, off, none⟩ v').heap[b]? = w1.heap[b]? := fun b hne => Below.heap_setCell _ _ _ _ hne
  refine ⟨World.cell?_setCell_same _ _ _ ((c1 off).trans hc), fun o ho => ?_, fun o => ?_, fun b hb' h1 h2 => ?_, hs, fun b hb' h1 h2 => ?_, ?_, hg.os.trans hA.os, hg.tape.trans hA.tape, hg.output.trans hA.output⟩
  · rw [World.cell?_setCell_other _ _ _ _ (by intro e; cases e; exact ho rfl)]; exact c1 o
  · rw [World.frozen?_setCell]; exact f1 o
  · exact (hs b h1).trans ((hg.block b (Nat.lt_of_lt_of_le hb' hA.size) h2).trans (hA.block b hb'))
  · exact (hs b h1).trans (hg.block b hb' h2)
  · exact Nat.le_trans hA.size (Nat.le_trans hg.size (by simp [World.setCell]))
theorem flatMap_len {α : Type} {f : α → List Value} {m : Nat} (hf : ∀ a, (f a).length = m) (l : List α) : (l.flatMap f).length = l.length * m := by
  induction l with
  | nil => simp
  | cons a l ih => rw [List.flatMap_cons, List.length_append, ih, hf, List.length_cons, Nat.succ_mul, Nat.add_comm]
end Go.Proofs.YtgifgiipojedbaaGreatDoor

namespace Go.Proofs.YtgifgiipojedbaaGreatDoor
open Go Go.RowKit
set_option maxRecDepth 100000

theorem ownsRow_cell1 {w : World} {base : Nat} {e : TypeId} {v : Value} {n : Nat} {xs : List Value} (h : w.ownsRow base e 1 v n xs) {g : Nat} (hg : v.ownBlock = some g) {i : Nat} {x : Value} (hi : xs[i]? = some x) :
    w.cell? ⟨g, i, none⟩ = some x := by
  have := h.cells hg i x hi
  rwa [show ((⟨g, 0, none⟩ : Addr).add i) = ⟨g, i, none⟩ by unfold Addr.add; split <;> simp_all] at this
/-- an error's value: nil for 0 -/
def errV (c : Int) : Value := if c = 0 then .nilIface else .iface 62 (.int .i64 c)
theorem box_facts {w w1 : World} {k n : Int} {s : ByteArray} {T : TypeId} (hB : Below (w.alloc (.cells #[.int .i64 k, .int .i64 n, .string s] T)).heap.size (w.alloc (.cells #[.int .i64 k, .int .i64 n, .string s] T)) w1) :
    w1.cell? ⟨w.heap.size, 0, none⟩ = some (.int .i64 k) ∧ w1.cell? ⟨w.heap.size, 1, none⟩ = some (.int .i64 n) ∧ w1.cell? ⟨w.heap.size, 2, none⟩ = some (.string s) ∧
    w1.frozen? ⟨w.heap.size, 0, none⟩ = false ∧ w1.frozen? ⟨w.heap.size, 1, none⟩ = false ∧ w1.frozen? ⟨w.heap.size, 2, none⟩ = false ∧ w.heap.size < w1.heap.size ∧ Below w.heap.size w w1 :=
  ⟨below_newcell hB 0 _ rfl, below_newcell hB 1 _ rfl, below_newcell hB 2 _ rfl, below_newfrozen hB 0, below_newfrozen hB 1, below_newfrozen hB 2, below_newsize hB, below_old hB⟩
end Go.Proofs.YtgifgiipojedbaaGreatDoor

namespace Go.Proofs.YtgifgiipojedbaaGreatDoor
open Go Go.RowKit
set_option maxRecDepth 100000
set_option linter.unusedVariables false

set_option maxHeartbeats 4000000 in
theorem index_s1 (p0 : Addr) {α : Type} (enc : α → Value) (g : α → Bool) (Inv : World → Prop) (p : Option Addr) (cap : Nat) (l : List α) (w : World) (hn : l.length ≤ 9223372036854775807) (hle : l.length ≤ cap)
    (hc : ∀ i x, l[i]? = some x → ∃ b off, p = some ⟨b, off, none⟩ ∧ ∀ w1, Inv w1 → w1.cell? ⟨b, off + i, none⟩ = some (enc x))
    (hg : ∀ x ∈ l, ∀ w1, Inv w1 → Calls Tryz.prog 85 #[enc x, .pointer (some p0)] w1 fun e w' => e = .returned (.bool (g x)) ∧ Inv w') (hI : Inv w) :
    Calls Tryz.prog 120 #[.slice p l.length cap, .func (.func 85) #[] #[.pointer (some p0)]] w fun e w' => (∃ z : Int, e = .returned (.int .i64 z) ∧ decide (z ≥ 0) = l.any g) ∧ Inv w' := by
  have HC := Lib.hid hc
  have HG := Lib.hid hg
  have HI0 := Lib.hid hI
  obtain ⟨n, hnn⟩ : ∃ n, n = l.length := ⟨_, rfl⟩
  rw [← hnn] at hn hle ⊢
  have HN := Lib.hid hnn
  clear hc hg hI hnn
  go_enter Tryz.func120, Tryz.ntmps120
  go_wp2_with fail
  go_loopw [8] (fun i wr => ∃ (k : Nat), k ≤ n ∧ i = .int .i64 k ∧ Hid (∀ x ∈ l.take k, g x = false) ∧ Hid (Inv wr)) (fun i _ => n - (intOf i).toNat)
  case atStart => exact ⟨0, Nat.zero_le _, rfl, Lib.hid (by simp), HI0⟩
  case round =>
    obtain ⟨k, hk, rfl, HF, HI⟩ := hrel
    clear HI0
    by_cases hkn : k < n
    · obtain ⟨x, hx⟩ : ∃ x, l[k]? = some x := ⟨_, List.getElem?_eq_getElem (by rw [← HN.out]; exact hkn)⟩
      obtain ⟨b, off, hp, hcell⟩ := HC.out k x hx
      subst hp
      have cx := hcell wr HI.out
      have HCALL := HG.out x (List.mem_of_getElem? hx) wr HI.out
      obtain ⟨vx, hvx⟩ : ∃ v, v = enc x := ⟨_, rfl⟩
      rw [← hvx] at cx HCALL
      obtain ⟨gx, hgx⟩ : ∃ v, v = g x := ⟨_, rfl⟩
      rw [← hgx] at HCALL
      have HCL := Lib.hid HCALL
      have HX := Lib.hid hx
      have HGX := Lib.hid hgx
      have hae : ((⟨b, off, none⟩ : Addr).add k) = ⟨b, off + k, none⟩ := by unfold Addr.add; split <;> simp_all
      have hkI : (k : Int) ≤ 9223372036854775807 := by omega
      clear hcell HCALL hvx hx hgx
      go_wp2_with fail
      refine HCL.out.mono ?_
      rintro e w1 ⟨rfl, hI1⟩
      have HI1 := Lib.hid hI1
      clear hI1 HCL
      cases gx
      · go_wp2
        go_roundw
        case rel =>
          refine ⟨k + 1, by omega, by go_num, Lib.hid ?_, HI1⟩
          intro y hy
          obtain ⟨hkl, hke⟩ := List.getElem?_eq_some_iff.1 HX.out
          rw [List.take_succ_eq_append_getElem hkl, List.mem_append] at hy
          rcases hy with hy | hy
          · exact HF.out y hy
          · simp only [List.mem_singleton] at hy
            rw [hy, hke]
            exact HGX.out.symm
        case measure => simp [intOf]; omega
      · go_wp2
        go_ret
        refine ⟨⟨_, rfl, ?_⟩, HI1.out⟩
        rw [List.any_eq_true.2 ⟨x, List.mem_of_getElem? HX.out, HGX.out.symm⟩]
        simp
    · have hk2 : k = n := by omega
      subst hk2
      go_wp2
      go_ret
      refine ⟨⟨_, rfl, ?_⟩, HI.out⟩
      have hall : l.any g = false := by
        rw [List.any_eq_false]
        intro y hy
        have := HF.out y (by rw [List.take_of_length_le (by rw [← HN.out]; exact Nat.le_refl _)]; exact hy)
        simp [this]
      rw [hall]
      rfl
set_option maxHeartbeats 4000000 in
theorem any_s1 (p0 : Addr) {α : Type} (enc : α → Value) (g : α → Bool) (Inv : World → Prop) (p : Option Addr) (cap : Nat) (l : List α) (w : World) (hn : l.length ≤ 9223372036854775807) (hle : l.length ≤ cap)
    (hc : ∀ i x, l[i]? = some x → ∃ b off, p = some ⟨b, off, none⟩ ∧ ∀ w1, Inv w1 → w1.cell? ⟨b, off + i, none⟩ = some (enc x))
    (hg : ∀ x ∈ l, ∀ w1, Inv w1 → Calls Tryz.prog 85 #[enc x, .pointer (some p0)] w1 fun e w' => e = .returned (.bool (g x)) ∧ Inv w') (hI : Inv w) :
    Calls Tryz.prog 84 #[.slice p l.length cap, .func (.func 85) #[] #[.pointer (some p0)]] w fun e w' => e = .returned (.bool (l.any g)) ∧ Inv w' := by
  have HC := Lib.hid (index_s1 p0 enc g Inv p cap l w hn hle hc hg hI)
  clear hn hle hc hg hI
  go_enter Tryz.func84, Tryz.ntmps84
  go_wp2_with fail
  refine HC.out.mono ?_
  rintro e w1 ⟨⟨z, rfl, hz⟩, hI1⟩
  have HZ := Lib.hid hz
  clear hz HC
  go_wp2
  go_ret
  refine ⟨?_, hI1⟩
  rw [← HZ.out]
  rfl

set_option maxHeartbeats 4000000 in
theorem index_s2 (p0 : Addr) {α : Type} (enc : α → Value) (g : α → Bool) (Inv : World → Prop) (p : Option Addr) (cap : Nat) (l : List α) (w : World) (hn : l.length ≤ 9223372036854775807) (hle : l.length ≤ cap)
    (hc : ∀ i x, l[i]? = some x → ∃ b off, p = some ⟨b, off, none⟩ ∧ ∀ w1, Inv w1 → w1.cell? ⟨b, off + i, none⟩ = some (enc x))
    (hg : ∀ x ∈ l, ∀ w1, Inv w1 → Calls Tryz.prog 87 #[enc x, .pointer (some p0)] w1 fun e w' => e = .returned (.bool (g x)) ∧ Inv w') (hI : Inv w) :
    Calls Tryz.prog 121 #[.slice p l.length cap, .func (.func 87) #[] #[.pointer (some p0)]] w fun e w' => (∃ z : Int, e = .returned (.int .i64 z) ∧ decide (z ≥ 0) = l.any g) ∧ Inv w' := by
  have HC := Lib.hid hc
  have HG := Lib.hid hg
  have HI0 := Lib.hid hI
  obtain ⟨n, hnn⟩ : ∃ n, n = l.length := ⟨_, rfl⟩
  rw [← hnn] at hn hle ⊢
  have HN := Lib.hid hnn
  clear hc hg hI hnn
  go_enter Tryz.func121, Tryz.ntmps121
  go_wp2_with fail
  go_loopw [8] (fun i wr => ∃ (k : Nat), k ≤ n ∧ i = .int .i64 k ∧ Hid (∀ x ∈ l.take k, g x = false) ∧ Hid (Inv wr)) (fun i _ => n - (intOf i).toNat)
  case atStart => exact ⟨0, Nat.zero_le _, rfl, Lib.hid (by simp), HI0⟩
  case round =>
    obtain ⟨k, hk, rfl, HF, HI⟩ := hrel
    clear HI0
    by_cases hkn : k < n
    · obtain ⟨x, hx⟩ : ∃ x, l[k]? = some x := ⟨_, List.getElem?_eq_getElem (by rw [← HN.out]; exact hkn)⟩
      obtain ⟨b, off, hp, hcell⟩ := HC.out k x hx
      subst hp
      have cx := hcell wr HI.out
      have HCALL := HG.out x (List.mem_of_getElem? hx) wr HI.out
      obtain ⟨vx, hvx⟩ : ∃ v, v = enc x := ⟨_, rfl⟩
      rw [← hvx] at cx HCALL
      obtain ⟨gx, hgx⟩ : ∃ v, v = g x := ⟨_, rfl⟩
      rw [← hgx] at HCALL
      have HCL := Lib.hid HCALL
      have HX := Lib.hid hx
      have HGX := Lib.hid hgx
      have hae : ((⟨b, off, none⟩ : Addr).add k) = ⟨b, off + k, none⟩ := by unfold Addr.add; split <;> simp_all
      have hkI : (k : Int) ≤ 9223372036854775807 := by omega
      clear hcell HCALL hvx hx hgx
      go_wp2_with fail
      refine HCL.out.mono ?_
      rintro e w1 ⟨rfl, hI1⟩
      have HI1 := Lib.hid hI1
      clear hI1 HCL
      cases gx
      · go_wp2
        go_roundw
        case rel =>
          refine ⟨k + 1, by omega, by go_num, Lib.hid ?_, HI1⟩
          intro y hy
          obtain ⟨hkl, hke⟩ := List.getElem?_eq_some_iff.1 HX.out
          rw [List.take_succ_eq_append_getElem hkl, List.mem_append] at hy
          rcases hy with hy | hy
          · exact HF.out y hy
          · simp only [List.mem_singleton] at hy
            rw [hy, hke]
            exact HGX.out.symm
        case measure => simp [intOf]; omega
      · go_wp2
        go_ret
        refine ⟨⟨_, rfl, ?_⟩, HI1.out⟩
        rw [List.any_eq_true.2 ⟨x, List.mem_of_getElem? HX.out, HGX.out.symm⟩]
        simp
    · have hk2 : k = n := by omega
      subst hk2
      go_wp2
      go_ret
      refine ⟨⟨_, rfl, ?_⟩, HI.out⟩
      have hall : l.any g = false := by
        rw [List.any_eq_false]
        intro y hy
        have := HF.out y (by rw [List.take_of_length_le (by rw [← HN.out]; exact Nat.le_refl _)]; exact hy)
        simp [this]
      rw [hall]
      rfl
set_option maxHeartbeats 4000000 in
theorem any_s2 (p0 : Addr) {α : Type} (enc : α → Value) (g : α → Bool) (Inv : World → Prop) (p : Option Addr) (cap : Nat) (l : List α) (w : World) (hn : l.length ≤ 9223372036854775807) (hle : l.length ≤ cap)
    (hc : ∀ i x, l[i]? = some x → ∃ b off, p = some ⟨b, off, none⟩ ∧ ∀ w1, Inv w1 → w1.cell? ⟨b, off + i, none⟩ = some (enc x))
    (hg : ∀ x ∈ l, ∀ w1, Inv w1 → Calls Tryz.prog 87 #[enc x, .pointer (some p0)] w1 fun e w' => e = .returned (.bool (g x)) ∧ Inv w') (hI : Inv w) :
    Calls Tryz.prog 86 #[.slice p l.length cap, .func (.func 87) #[] #[.pointer (some p0)]] w fun e w' => e = .returned (.bool (l.any g)) ∧ Inv w' := by
  have HC := Lib.hid (index_s2 p0 enc g Inv p cap l w hn hle hc hg hI)
  clear hn hle hc hg hI
  go_enter Tryz.func86, Tryz.ntmps86
  go_wp2_with fail
  refine HC.out.mono ?_
  rintro e w1 ⟨⟨z, rfl, hz⟩, hI1⟩
  have HZ := Lib.hid hz
  clear hz HC
  go_wp2
  go_ret
  refine ⟨?_, hI1⟩
  rw [← HZ.out]
  rfl

set_option maxHeartbeats 4000000 in
theorem index_n1 (p0 : Addr) {α : Type} (enc : α → Value) (g : α → Bool) (Inv : World → Prop) (p : Option Addr) (cap : Nat) (l : List α) (w : World) (hn : l.length ≤ 9223372036854775807) (hle : l.length ≤ cap)
    (hc : ∀ i x, l[i]? = some x → ∃ b off, p = some ⟨b, off, none⟩ ∧ ∀ w1, Inv w1 → w1.cell? ⟨b, off + i, none⟩ = some (enc x))
    (hg : ∀ x ∈ l, ∀ w1, Inv w1 → Calls Tryz.prog 123 #[enc x, .pointer (some p0)] w1 fun e w' => e = .returned (.bool (g x)) ∧ Inv w') (hI : Inv w) :
    Calls Tryz.prog 121 #[.slice p l.length cap, .func (.func 123) #[] #[.pointer (some p0)]] w fun e w' => (∃ z : Int, e = .returned (.int .i64 z) ∧ decide (z ≥ 0) = l.any g) ∧ Inv w' := by
  have HC := Lib.hid hc
  have HG := Lib.hid hg
  have HI0 := Lib.hid hI
  obtain ⟨n, hnn⟩ : ∃ n, n = l.length := ⟨_, rfl⟩
  rw [← hnn] at hn hle ⊢
  have HN := Lib.hid hnn
  clear hc hg hI hnn
  go_enter Tryz.func121, Tryz.ntmps121
  go_wp2_with fail
  go_loopw [8] (fun i wr => ∃ (k : Nat), k ≤ n ∧ i = .int .i64 k ∧ Hid (∀ x ∈ l.take k, g x = false) ∧ Hid (Inv wr)) (fun i _ => n - (intOf i).toNat)
  case atStart => exact ⟨0, Nat.zero_le _, rfl, Lib.hid (by simp), HI0⟩
  case round =>
    obtain ⟨k, hk, rfl, HF, HI⟩ := hrel
    clear HI0
    by_cases hkn : k < n
    · obtain ⟨x, hx⟩ : ∃ x, l[k]? = some x := ⟨_, List.getElem?_eq_getElem (by rw [← HN.out]; exact hkn)⟩
      obtain ⟨b, off, hp, hcell⟩ := HC.out k x hx
      subst hp
      have cx := hcell wr HI.out
      have HCALL := HG.out x (List.mem_of_getElem? hx) wr HI.out
      obtain ⟨vx, hvx⟩ : ∃ v, v = enc x := ⟨_, rfl⟩
      rw [← hvx] at cx HCALL
      obtain ⟨gx, hgx⟩ : ∃ v, v = g x := ⟨_, rfl⟩
      rw [← hgx] at HCALL
      have HCL := Lib.hid HCALL
      have HX := Lib.hid hx
      have HGX := Lib.hid hgx
      have hae : ((⟨b, off, none⟩ : Addr).add k) = ⟨b, off + k, none⟩ := by unfold Addr.add; split <;> simp_all
      have hkI : (k : Int) ≤ 9223372036854775807 := by omega
      clear hcell HCALL hvx hx hgx
      go_wp2_with fail
      refine HCL.out.mono ?_
      rintro e w1 ⟨rfl, hI1⟩
      have HI1 := Lib.hid hI1
      clear hI1 HCL
      cases gx
      · go_wp2
        go_roundw
        case rel =>
          refine ⟨k + 1, by omega, by go_num, Lib.hid ?_, HI1⟩
          intro y hy
          obtain ⟨hkl, hke⟩ := List.getElem?_eq_some_iff.1 HX.out
          rw [List.take_succ_eq_append_getElem hkl, List.mem_append] at hy
          rcases hy with hy | hy
          · exact HF.out y hy
          · simp only [List.mem_singleton] at hy
            rw [hy, hke]
            exact HGX.out.symm
        case measure => simp [intOf]; omega
      · go_wp2
        go_ret
        refine ⟨⟨_, rfl, ?_⟩, HI1.out⟩
        rw [List.any_eq_true.2 ⟨x, List.mem_of_getElem? HX.out, HGX.out.symm⟩]
        simp
    · have hk2 : k = n := by omega
      subst hk2
      go_wp2
      go_ret
      refine ⟨⟨_, rfl, ?_⟩, HI.out⟩
      have hall : l.any g = false := by
        rw [List.any_eq_false]
        intro y hy
        have := HF.out y (by rw [List.take_of_length_le (by rw [← HN.out]; exact Nat.le_refl _)]; exact hy)
        simp [this]
      rw [hall]
      rfl
set_option maxHeartbeats 4000000 in
theorem any_n1 (p0 : Addr) {α : Type} (enc : α → Value) (g : α → Bool) (Inv : World → Prop) (p : Option Addr) (cap : Nat) (l : List α) (w : World) (hn : l.length ≤ 9223372036854775807) (hle : l.length ≤ cap)
    (hc : ∀ i x, l[i]? = some x → ∃ b off, p = some ⟨b, off, none⟩ ∧ ∀ w1, Inv w1 → w1.cell? ⟨b, off + i, none⟩ = some (enc x))
    (hg : ∀ x ∈ l, ∀ w1, Inv w1 → Calls Tryz.prog 123 #[enc x, .pointer (some p0)] w1 fun e w' => e = .returned (.bool (g x)) ∧ Inv w') (hI : Inv w) :
    Calls Tryz.prog 86 #[.slice p l.length cap, .func (.func 123) #[] #[.pointer (some p0)]] w fun e w' => e = .returned (.bool (l.any g)) ∧ Inv w' := by
  have HC := Lib.hid (index_n1 p0 enc g Inv p cap l w hn hle hc hg hI)
  clear hn hle hc hg hI
  go_enter Tryz.func86, Tryz.ntmps86
  go_wp2_with fail
  refine HC.out.mono ?_
  rintro e w1 ⟨⟨z, rfl, hz⟩, hI1⟩
  have HZ := Lib.hid hz
  clear hz HC
  go_wp2
  go_ret
  refine ⟨?_, hI1⟩
  rw [← HZ.out]
  rfl

set_option maxHeartbeats 4000000 in
theorem index_n2 {α : Type} (enc : α → Value) (g : α → Bool) (Inv : World → Prop) (p : Option Addr) (cap : Nat) (l : List α) (w : World) (hn : l.length ≤ 9223372036854775807) (hle : l.length ≤ cap)
    (hc : ∀ i x, l[i]? = some x → ∃ b off, p = some ⟨b, off, none⟩ ∧ ∀ w1, Inv w1 → w1.cell? ⟨b, off + i, none⟩ = some (enc x))
    (hg : ∀ x ∈ l, ∀ w1, Inv w1 → Calls Tryz.prog 125 #[enc x] w1 fun e w' => e = .returned (.bool (g x)) ∧ Inv w') (hI : Inv w) :
    Calls Tryz.prog 120 #[.slice p l.length cap, .func (.func 125) #[] #[]] w fun e w' => (∃ z : Int, e = .returned (.int .i64 z) ∧ decide (z ≥ 0) = l.any g) ∧ Inv w' := by
  have HC := Lib.hid hc
  have HG := Lib.hid hg
  have HI0 := Lib.hid hI
  obtain ⟨n, hnn⟩ : ∃ n, n = l.length := ⟨_, rfl⟩
  rw [← hnn] at hn hle ⊢
  have HN := Lib.hid hnn
  clear hc hg hI hnn
  go_enter Tryz.func120, Tryz.ntmps120
  go_wp2_with fail
  go_loopw [8] (fun i wr => ∃ (k : Nat), k ≤ n ∧ i = .int .i64 k ∧ Hid (∀ x ∈ l.take k, g x = false) ∧ Hid (Inv wr)) (fun i _ => n - (intOf i).toNat)
  case atStart => exact ⟨0, Nat.zero_le _, rfl, Lib.hid (by simp), HI0⟩
  case round =>
    obtain ⟨k, hk, rfl, HF, HI⟩ := hrel
    clear HI0
    by_cases hkn : k < n
    · obtain ⟨x, hx⟩ : ∃ x, l[k]? = some x := ⟨_, List.getElem?_eq_getElem (by rw [← HN.out]; exact hkn)⟩
      obtain ⟨b, off, hp, hcell⟩ := HC.out k x hx
      subst hp
      have cx := hcell wr HI.out
      have HCALL := HG.out x (List.mem_of_getElem? hx) wr HI.out
      obtain ⟨vx, hvx⟩ : ∃ v, v = enc x := ⟨_, rfl⟩
      rw [← hvx] at cx HCALL
      obtain ⟨gx, hgx⟩ : ∃ v, v = g x := ⟨_, rfl⟩
      rw [← hgx] at HCALL
      have HCL := Lib.hid HCALL
      have HX := Lib.hid hx
      have HGX := Lib.hid hgx
      have hae : ((⟨b, off, none⟩ : Addr).add k) = ⟨b, off + k, none⟩ := by unfold Addr.add; split <;> simp_all
      have hkI : (k : Int) ≤ 9223372036854775807 := by omega
      clear hcell HCALL hvx hx hgx
      go_wp2_with fail
      refine HCL.out.mono ?_
      rintro e w1 ⟨rfl, hI1⟩
      have HI1 := Lib.hid hI1
      clear hI1 HCL
      cases gx
      · go_wp2
        go_roundw
        case rel =>
          refine ⟨k + 1, by omega, by go_num, Lib.hid ?_, HI1⟩
          intro y hy
          obtain ⟨hkl, hke⟩ := List.getElem?_eq_some_iff.1 HX.out
          rw [List.take_succ_eq_append_getElem hkl, List.mem_append] at hy
          rcases hy with hy | hy
          · exact HF.out y hy
          · simp only [List.mem_singleton] at hy
            rw [hy, hke]
            exact HGX.out.symm
        case measure => simp [intOf]; omega
      · go_wp2
        go_ret
        refine ⟨⟨_, rfl, ?_⟩, HI1.out⟩
        rw [List.any_eq_true.2 ⟨x, List.mem_of_getElem? HX.out, HGX.out.symm⟩]
        simp
    · have hk2 : k = n := by omega
      subst hk2
      go_wp2
      go_ret
      refine ⟨⟨_, rfl, ?_⟩, HI.out⟩
      have hall : l.any g = false := by
        rw [List.any_eq_false]
        intro y hy
        have := HF.out y (by rw [List.take_of_length_le (by rw [← HN.out]; exact Nat.le_refl _)]; exact hy)
        simp [this]
      rw [hall]
      rfl
set_option maxHeartbeats 4000000 in
theorem any_n2 {α : Type} (enc : α → Value) (g : α → Bool) (Inv : World → Prop) (p : Option Addr) (cap : Nat) (l : List α) (w : World) (hn : l.length ≤ 9223372036854775807) (hle : l.length ≤ cap)
    (hc : ∀ i x, l[i]? = some x → ∃ b off, p = some ⟨b, off, none⟩ ∧ ∀ w1, Inv w1 → w1.cell? ⟨b, off + i, none⟩ = some (enc x))
    (hg : ∀ x ∈ l, ∀ w1, Inv w1 → Calls Tryz.prog 125 #[enc x] w1 fun e w' => e = .returned (.bool (g x)) ∧ Inv w') (hI : Inv w) :
    Calls Tryz.prog 84 #[.slice p l.length cap, .func (.func 125) #[] #[]] w fun e w' => e = .returned (.bool (l.any g)) ∧ Inv w' := by
  have HC := Lib.hid (index_n2  enc g Inv p cap l w hn hle hc hg hI)
  clear hn hle hc hg hI
  go_enter Tryz.func84, Tryz.ntmps84
  go_wp2_with fail
  refine HC.out.mono ?_
  rintro e w1 ⟨⟨z, rfl, hz⟩, hI1⟩
  have HZ := Lib.hid hz
  clear hz HC
  go_wp2
  go_ret
  refine ⟨?_, hI1⟩
  rw [← HZ.out]
  rfl
end Go.Proofs.YtgifgiipojedbaaGreatDoor

namespace Go.Proofs.YtgifgiipojedbaaGreatDoor
open Go Go.RowKit
set_option maxRecDepth 100000

def letterB (c : Int) : Bool := (decide (97 ≤ c) && decide (c ≤ 122)) || decide (c = 95)
def digitB (c : Int) : Bool := decide (48 ≤ c) && decide (c ≤ 57)
def blankB (c : Int) : Bool := decide (c = 32) || decide (c = 10)
def wordB (c : Int) : Bool := letterB c || digitB c

theorem letter_any (w : World) (c : Int) : Calls Tryz.prog 105 #[.int .u8 c] w fun e w' => e = .returned (.bool (letterB c)) ∧ w' = w := by
  by_cases h1 : 97 ≤ c
  · by_cases h2 : c ≤ 122
    · have e : letterB c = true := by simp [letterB, h1, h2]
      rw [e]
      go_enter Tryz.func105, Tryz.ntmps105
      go_wp2
      go_ret
      exact ⟨rfl, rfl⟩
    · have e : letterB c = false := by simp [letterB, h1, h2]; omega
      have h3 : (c == 95) = false := by simp; omega
      rw [e]
      go_enter Tryz.func105, Tryz.ntmps105
      go_wp2
      go_ret
      exact ⟨rfl, rfl⟩
  · by_cases h3 : c = 95
    · subst h3
      go_enter Tryz.func105, Tryz.ntmps105
      go_wp2
      go_ret
      exact ⟨rfl, rfl⟩
    · have e : letterB c = false := by simp [letterB, h1, h3]
      have h3' : (c == 95) = false := by simp [h3]
      rw [e]
      go_enter Tryz.func105, Tryz.ntmps105
      go_wp2
      go_ret
      exact ⟨rfl, rfl⟩
theorem digit_any (w : World) (c : Int) : Calls Tryz.prog 107 #[.int .u8 c] w fun e w' => e = .returned (.bool (digitB c)) ∧ w' = w := by
  by_cases h1 : 48 ≤ c
  · by_cases h2 : c ≤ 57
    · have e : digitB c = true := by simp [digitB, h1, h2]
      rw [e]
      go_enter Tryz.func107, Tryz.ntmps107
      go_wp2
      go_ret
      exact ⟨rfl, rfl⟩
    · have e : digitB c = false := by simp [digitB, h2]
      rw [e]
      go_enter Tryz.func107, Tryz.ntmps107
      go_wp2
      go_ret
      exact ⟨rfl, rfl⟩
  · have e : digitB c = false := by simp [digitB, h1]
    rw [e]
    go_enter Tryz.func107, Tryz.ntmps107
    go_wp2
    go_ret
    exact ⟨rfl, rfl⟩
theorem blank_any (w : World) (c : Int) : Calls Tryz.prog 104 #[.int .u8 c] w fun e w' => e = .returned (.bool (blankB c)) ∧ w' = w := by
  by_cases h1 : c = 32
  · subst h1
    go_enter Tryz.func104, Tryz.ntmps104
    go_wp2
    go_ret
    exact ⟨rfl, rfl⟩
  · have q1 : (c == 32) = false := by simp [h1]
    have e : blankB c = (c == 10) := by simp [blankB, h1]; rfl
    rw [e]
    go_enter Tryz.func104, Tryz.ntmps104
    go_wp2
    go_ret
    exact ⟨rfl, rfl⟩
theorem word_any (w : World) (c : Int) : Calls Tryz.prog 106 #[.int .u8 c] w fun e w' => e = .returned (.bool (wordB c)) ∧ w' = w := by
  have HL := Lib.hid (letter_any w c)
  have HD := Lib.hid (digit_any w c)
  unfold wordB
  cases hl : letterB c
  · rw [hl] at HL
    go_enter Tryz.func106, Tryz.ntmps106
    go_wp2_with fail
    refine HL.out.mono ?_
    rintro e w1 ⟨rfl, rfl⟩
    go_wp2_with fail
    refine HD.out.mono ?_
    rintro e w1 ⟨rfl, rfl⟩
    go_wp2
    go_ret
    exact ⟨rfl, rfl⟩
  · rw [hl] at HL
    go_enter Tryz.func106, Tryz.ntmps106
    go_wp2_with fail
    refine HL.out.mono ?_
    rintro e w1 ⟨rfl, rfl⟩
    go_wp2
    go_ret
    exact ⟨rfl, rfl⟩
end Go.Proofs.YtgifgiipojedbaaGreatDoor
