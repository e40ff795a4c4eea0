/- Package tree: the reader, and the small ones of its functions. Package tree: a program in memory. Package tree: a node that is changed while it is made. Package tree: a node with its kids at once. Package tree: Walk, as it is told. -/
import Derived.Test.YtgmnfgljkocnpaaGreatDoorJ01
import Derived.Test.YtgmnfgljkocnpaaGreatDoorJ04
import Derived.Test.YtgmnfgljkocnpaaGreatDoorJ08
import Derived.Defers
namespace Go.Proofs.YtgmnfgljkocnpaaGreatDoor
open Go Go.RowKit
set_option maxRecDepth 100000
set_option maxHeartbeats 20000000
structure RFr (w w' : World) (rb : Nat) : Prop where
 os : w'.os = w.os
 tape : w'.tape = w.tape
 output : w'.output = w.output
 size : w.heap.size ≤ w'.heap.size
 block : ∀ k, k < w.heap.size → k ≠ rb → w'.heap[k]? = w.heap[k]?
theorem RFr.refl (w : World) (rb : Nat) : RFr w w rb := ⟨rfl, rfl, rfl, Nat.le_refl _, fun _ _ _ => rfl⟩
theorem RFr.trans {w w' w'' : World} {rb : Nat} (h : RFr w w' rb) (g : RFr w' w'' rb) : RFr w w'' rb :=
 ⟨g.os.trans h.os, g.tape.trans h.tape, g.output.trans h.output, Nat.le_trans h.size g.size, fun k hk hn => (g.block k (Nat.lt_of_lt_of_le hk h.size) hn).trans (h.block k hk hn)⟩
theorem RFr.below {w w' : World} {rb : Nat} (h : Below w.heap.size w w') : RFr w w' rb := ⟨h.os, h.tape, h.output, h.size, fun k hk _ => h.block k hk⟩
theorem RFr.drew {w w' : World} {rb : Nat} (h : RFr w w' rb) : RFr w w'.drew rb := ⟨h.os, h.tape, h.output, h.size, h.block⟩
theorem RFr.cell {w w' : World} {rb : Nat} (h : RFr w w' rb) {p : Addr} (hp : p.block < w.heap.size) (hn : p.block ≠ rb) : w'.cell? p = w.cell? p := World.cell?_of_block (h.block p.block hp hn)
def levL : Nat → List ByteArray
 | 0 => [s_or]
 | 1 => [Z66]
 | 2 => [Z41]
 | 3 => [Z43]
 | 4 => [Z4o, Z56]
 | 5 => [Z67]
 | _ => []
def Z3e (w : World) (rb : Nat) : Prop := ∀ lv, lv < 6 → ∃ b off cap, 6 < rb ∧ b < rb ∧ w.cell? ⟨6, lv, none⟩ = some (.slice (some ⟨b, off, none⟩) (levL lv).length cap) ∧
 (levL lv).length ≤ cap ∧ ∀ i x, (levL lv)[i]? = some x → w.cell? ⟨b, off + i, none⟩ = some (.string x)
theorem Z3e.keep {w w' : World} {rb : Nat} (h : Z3e w rb) (hk : ∀ k, k < rb → w'.heap[k]? = w.heap[k]?) : Z3e w' rb := by
 intro lv hl;obtain ⟨b, off, cap, h1, h2, h3, h4, h5⟩ := h lv hl;exact ⟨b, off, cap, h1, h2, (World.cell?_of_block (hk _ h1)).trans h3, h4, fun i x hx => (World.cell?_of_block (hk b h2)).trans (h5 i x hx)⟩
structure RAt (w : World) (rb tb off cap : Nat) (ts : List Tok) (d : Nat) : Prop where
 blk : w.heap[rb]? = some (.cells #[.slice (some ⟨tb, off, none⟩) ts.length cap, .int .i64 d] 71 (0, 0))
 le : ts.length ≤ cap
 most : cap ≤ maxLen
 ord : tb < rb
 lt : tb < w.heap.size
 cells : ∀ k t j x, ts[k]? = some t → t.cells[j]? = some x → w.cell? ⟨tb, off + (k * 4 + j), none⟩ = some x
 last : ∃ l e, ts = l ++ [e] ∧ e.kind = 6 ∧ ∀ t ∈ l, t.kind ≠ 6
 lev : Z3e w rb
def Rd (w : World) (rb : Nat) (ts : List Tok) (d : Nat) : Prop := ∃ tb off cap, RAt w rb tb off cap ts d
section
variable {w w' : World} {rb tb off cap d : Nat} {ts : List Tok}
theorem RAt.ne (h : RAt w rb tb off cap ts d) : tb ≠ rb := by have := h.ord; omega
theorem RAt.keep (h : RAt w rb tb off cap ts d) (hs : w.heap.size ≤ w'.heap.size) (hr : w'.heap[rb]? = w.heap[rb]?) (ht : w'.heap[tb]? = w.heap[tb]?) (hl : ∀ k, k < rb → w'.heap[k]? = w.heap[k]?) : RAt w' rb tb off cap ts d :=
 ⟨hr.trans h.blk, h.le, h.most, h.ord, Nat.lt_of_lt_of_le h.lt hs, fun k t j x h1 h2 => (World.cell?_of_block ht).trans (h.cells k t j x h1 h2), h.last, h.lev.keep hl⟩
theorem RAt.rlt (h : RAt w rb tb off cap ts d) : rb < w.heap.size := (Array.getElem?_eq_some_iff.1 h.blk).1
theorem RAt.below (h : RAt w rb tb off cap ts d) (hB : Below w.heap.size w w') : RAt w' rb tb off cap ts d := h.keep hB.size (hB.block rb h.rlt) (hB.block tb h.lt) fun k hk => hB.block k (Nat.lt_trans hk h.rlt)
theorem Rd.keep (h : Rd w rb ts d) (hs : w.heap.size ≤ w'.heap.size) (hk : ∀ k, k ≤ rb → w'.heap[k]? = w.heap[k]?) : Rd w' rb ts d := by
 obtain ⟨tb, off, cap, h⟩ := h;exact ⟨tb, off, cap, h.keep hs (hk rb (Nat.le_refl _)) (hk tb (Nat.le_of_lt h.ord)) fun k h => hk k (Nat.le_of_lt h)⟩
theorem Rd.below (h : Rd w rb ts d) (hB : Below w.heap.size w w') : Rd w' rb ts d := by obtain ⟨tb, off, cap, h⟩ := h; exact ⟨tb, off, cap, h.below hB⟩
theorem Rd.rlt (h : Rd w rb ts d) : rb < w.heap.size := by obtain ⟨tb, off, cap, h⟩ := h; exact h.rlt
theorem RAt.drew (h : RAt w rb tb off cap ts d) : RAt w.drew rb tb off cap ts d := h.keep (Nat.le_refl _) rfl rfl fun _ _ => rfl
theorem Rd.drew (h : Rd w rb ts d) : Rd w.drew rb ts d := by obtain ⟨tb, off, cap, h⟩ := h; exact ⟨tb, off, cap, h.drew⟩
theorem RAt.c0 (h : RAt w rb tb off cap ts d) : w.cell? ⟨rb, 0, none⟩ = some (.slice (some ⟨tb, off, none⟩) ts.length cap) := by simp [World.cell?, h.blk]
theorem RAt.c1 (h : RAt w rb tb off cap ts d) : w.cell? ⟨rb, 1, none⟩ = some (.int .i64 d) := by simp [World.cell?, h.blk]
theorem RAt.fz (h : RAt w rb tb off cap ts d) (i : Nat) : w.frozen? ⟨rb, i, none⟩ = false := by simp [World.frozen?, h.blk]
theorem RAt.head (h : RAt w rb tb off cap ts d) : ∃ l, ts = hdT ts :: l := by
 obtain ⟨l, e, h1, _, _⟩ := h.last;cases ts with
 | nil => simp at h1
 | cons t l' => exact ⟨l', rfl⟩
theorem RAt.hd (h : RAt w rb tb off cap ts d) {j : Nat} {x : Value} (hj : (hdT ts).cells[j]? = some x) : w.cell? ⟨tb, off + j, none⟩ = some x := by
 obtain ⟨l, hl⟩ := h.head;have := h.cells 0 (hdT ts) j x (by rw [hl]; rfl) hj;simpa using this
theorem RAt.pos (h : RAt w rb tb off cap ts d) : 0 < ts.length := by obtain ⟨l, hl⟩ := h.head; rw [hl]; simp
theorem RAt.two (h : RAt w rb tb off cap ts d) (hk : (hdT ts).kind ≠ 6) : 2 ≤ ts.length := by
 obtain ⟨l, e, h1, h2, _⟩ := h.last;cases l with
 | nil => rw [h1] at hk; exact absurd h2 hk
 | cons a l => rw [h1]; simp
theorem RAt.tail (h : RAt w rb tb off cap ts d) (hk : (hdT ts).kind ≠ 6) : RAt (w.setCell ⟨rb, 0, none⟩ (.slice (some ⟨tb, off + 4, none⟩) (ts.length - 1) (cap - 1))) rb tb (off + 4) (cap - 1) ts.tail d := by
 obtain ⟨l, hl⟩ := h.head;have h2 := h.two hk;have hle := h.le;refine ⟨?_, ?_, by have := h.most; omega, h.ord, by rw [World.size_setCell]; exact h.lt, fun k t j x h3 h4 => ?_, ?_, ?_⟩
 ·have := Zn (o := 0) (.slice (some ⟨tb, off + 4, none⟩) (ts.length - 1) (cap - 1)) h.blk;rw [List.length_tail];exact this
 ·rw [List.length_tail]; omega
 ·have h5 := h.cells (k + 1) t j x (by rw [hl] at h3 ⊢; simpa using h3) h4;have hb := Below.heap_setCell w ⟨rb, 0, none⟩ (.slice (some ⟨tb, off + 4, none⟩) (ts.length - 1) (cap - 1)) tb h.ne;rw [show off + 4 + (k * 4 + j) = off + ((k + 1) * 4 + j) by omega];exact (World.cell?_of_block hb).trans h5
 ·obtain ⟨l', e, h6, h7, h8⟩ := h.last;cases l' with
  | nil => rw [h6] at hk; exact absurd h7 hk
  | cons a l' => exact ⟨l', e, by rw [h6]; rfl, h7, fun t ht => h8 t (List.mem_cons_of_mem _ ht)⟩
 ·exact h.lev.keep fun k hk => Below.heap_setCell _ _ _ _ (by simp only; omega)
theorem RAt.deep (h : RAt w rb tb off cap ts d) {x : Int} {d' : Nat} (hx : x = d') : RAt (w.setCell ⟨rb, 1, none⟩ (.int .i64 x)) rb tb off cap ts d' := by
 subst hx;have hb := Below.heap_setCell w ⟨rb, 1, none⟩ (.int .i64 (d' : Int)) tb h.ne;exact ⟨Zn (o := 1) (.int .i64 (d' : Int)) h.blk, h.le, h.most, h.ord, by rw [World.size_setCell]; exact h.lt, fun k t j x h3 h4 => (World.cell?_of_block hb).trans (h.cells k t j x h3 h4), h.last, h.lev.keep fun k hk => Below.heap_setCell _ _ _ _ (by simp only; omega)⟩
theorem RFr.set (h : RFr w w' rb) (o : Nat) (x : Value) : RFr w (w'.setCell ⟨rb, o, none⟩ x) rb :=
 ⟨h.os, h.tape, h.output, by rw [World.size_setCell]; exact h.size, fun k hk hn => (Below.heap_setCell _ _ _ _ hn).trans (h.block k hk hn)⟩
end
theorem Z4v {s : ByteArray} {ts : List Tok} (h : isT s ts = true) : (hdT ts).kind ≠ 6 := by
 simp only [isT, Bool.and_eq_true, Bool.or_eq_true, decide_eq_true_eq] at h;omega
theorem Z40 (w : World) (rb : Nat) (ts : List Tok) (d : Nat) (s : ByteArray) (hR : Rd w rb ts d) :
 Calls Tryz.prog 67 #[.pointer (some ⟨rb, 0, none⟩), .string s] w fun e w' => e = .returned (.bool (isT s ts)) ∧ Below w.heap.size w w' := by
 obtain ⟨tb, off, cap, h⟩ := hR;have c0 := h.c0;have t0 := h.hd (j := 0) rfl;have t1 := h.hd (j := 1) rfl;have t2 := h.hd (j := 2) rfl;have t3 := h.hd (j := 3) rfl;have hp := h.pos;have hm := h.most;have hle := h.le;unfold maxLen at hm;obtain ⟨n, hn⟩ : ∃ n, n = ts.length := ⟨_, rfl⟩
 rw [← hn] at c0 hp hle;have hlt := h.lt;have hrt := h.rlt;obtain ⟨B, hB⟩ : ∃ B, B = isT s ts := ⟨_, rfl⟩
 rw [← hB];unfold isT at hB;obtain ⟨⟨k, tx, tn, ta⟩, ht⟩ : ∃ t, t = hdT ts := ⟨_, rfl⟩
 rw [← ht] at t0 t1 t2 t3 hB;simp only [Nat.add_zero] at t0 hB;clear ht hn h;have hal : ∀ o, Below w.heap.size w (w.alloc o) := fun o => (Below.refl _ _).alloc (Nat.le_refl _) o;have HAL := lh hal;clear hal;by_cases h5 : k = 5
 ·subst h5;have hB2 : B = Z0o tx s := by simpa using hB
  have HB := lh hB2;clear hB hB2;go_enter Tryz.func67, Tryz.ntmps67
  go_wp2;go_ret;rw [HB.out, ← Z4c];exact ⟨rfl, HAL.out _⟩
 have n5 : (k == 5) = false := by simpa using h5
 by_cases h2 : k = 2
 ·subst h2;have hB2 : B = Z0o tx s := by simpa using hB
  have HB := lh hB2;clear hB hB2 h5;go_enter Tryz.func67, Tryz.ntmps67
  go_wp2;go_ret;rw [HB.out, ← Z4c];exact ⟨rfl, HAL.out _⟩
 have n2 : (k == 2) = false := by simpa using h2
 have hB2 : B = false := by rw [hB]; simp [h5, h2]
 have HB := lh hB2;clear hB hB2 h5 h2;go_enter Tryz.func67, Tryz.ntmps67
 go_wp2;go_ret;rw [HB.out];exact ⟨rfl, HAL.out _⟩
theorem Z1m (w : World) (rb : Nat) (ts : List Tok) (d : Nat) (s : ByteArray) (hR : Rd w rb ts d) (hs : isT s ts = false) :
 Calls Tryz.prog 85 #[.pointer (some ⟨rb, 0, none⟩), .string s] w fun e w' => e = .returned (.bool false) ∧ Below w.heap.size w w' := by
 have HC := Z40 w rb ts d s hR;rw [hs] at HC;have HC := lh HC;clear hs hR;go_enter Tryz.func85, Tryz.ntmps85
 go_wp2_with fail
 refine HC.out.mono ?_;rintro e w1 ⟨rfl, hB⟩;have HB := lh hB;clear hB;go_wp2;go_ret;exact ⟨rfl, HB.out⟩
theorem Z0r (w : World) (rb : Nat) (ts : List Tok) (d : Nat) (s : ByteArray) (hR : Rd w rb ts d) (hs : isT s ts = true) :
 Calls Tryz.prog 85 #[.pointer (some ⟨rb, 0, none⟩), .string s] w fun e w' => e = .returned (.bool true) ∧ Rd w' rb ts.tail d ∧ RFr w w' rb := by
 have HC := Z40 w rb ts d s hR;rw [hs] at HC;have HC := lh HC;have HR := lh hR;have HK := lh (Z4v hs);clear hs hR;go_enter Tryz.func85, Tryz.ntmps85
 go_wp2_with fail
 refine HC.out.mono ?_;rintro e w1 ⟨rfl, hB⟩;obtain ⟨tb, off, cap, h⟩ := HR.out.below hB;have c0 := h.c0;have z0 := h.fz 0;have h2 := h.two HK.out;have hm := h.most;have hle := h.le;unfold maxLen at hm;have H := lh h;have HB := lh hB;obtain ⟨n, hn⟩ : ∃ n, n = ts.length := ⟨_, rfl⟩
 rw [← hn] at c0 h2 hle;have HN := lh hn;clear hB h hn HC;go_wp2;go_ret;refine ⟨rfl, ⟨tb, off + 4, cap - 1, ?_⟩, ?_⟩
 ·have := H.out.tail HK.out;rw [← HN.out] at this;exact this
 ·exact (RFr.below HB.out).set _ _
inductive ATree
 | mk (b : Nat) (v : Value) (kind : Int) (text : ByteArray) (n : Int) (kids : List ATree)
def ATree.b : ATree → Nat | .mk b _ _ _ _ _ => b
def ATree.v : ATree → Value | .mk _ v _ _ _ _ => v
def ATree.kind : ATree → Int | .mk _ _ k _ _ _ => k
def ATree.text : ATree → ByteArray | .mk _ _ _ t _ _ => t
def ATree.n : ATree → Int | .mk _ _ _ _ n _ => n
def ATree.kids : ATree → List ATree | .mk _ _ _ _ _ l => l
def ATree.ptr (a : ATree) : Value := .pointer (some ⟨a.b, 0, none⟩)
mutual
def ATree.tree : ATree → Tree
 | .mk _ _ k t n l => .mk k t n (Z10 l)
def Z10 : List ATree → List Tree
 | [] => []
 | a :: l => a.tree :: Z10 l
end
mutual
def ATree.blocks : ATree → List Nat
 | .mk b v _ _ _ l => b :: (v.ownBlock.toList ++ Zv l)
def Zv : List ATree → List Nat
 | [] => []
 | a :: l => a.blocks ++ Zv l
end
theorem Z2d (l : List ATree) : Z10 l = l.map ATree.tree := by
 induction l with
 | nil => rfl
 | cons a l ih => simp [Z10, ih]
theorem Z0v (l : List ATree) : Zv l = l.flatMap ATree.blocks := by
 induction l with
 | nil => rfl
 | cons a l ih => simp [Zv, ih]
theorem Z58 (l m : List ATree) : Z10 (l ++ m) = Z10 l ++ Z10 m := by simp [Z2d]
theorem Z1e (l m : List ATree) : Zv (l ++ m) = Zv l ++ Zv m := by simp [Z0v]
inductive TreeAt (w : World) (B : Nat) : ATree → Prop
 | mk {b : Nat} {v : Value} {kind : Int} {text : ByteArray} {n : Int} {kids : List ATree} (blk : w.heap[b]? = some (.cells #[.int .i64 kind, .string text, .int .i64 n, v] 44 (0, 0)))
  (le : B ≤ b) (row : w.ownsRow B 22 1 v kids.length (kids.map ATree.ptr)) (all : ∀ a ∈ kids, TreeAt w B a) : TreeAt w B (.mk b v kind text n kids)
section
variable {w w' : World} {B rb : Nat} {a : ATree}
theorem TreeAt.keep (h : TreeAt w B a) (hb : ∀ k, B ≤ k → k < w.heap.size → w'.heap[k]? = w.heap[k]?) : TreeAt w' B a := by
 induction h with
 | mk blk le row _ ih =>
   exact .mk ((hb _ le (Array.getElem?_eq_some_iff.1 blk).1).trans blk) le (Zl row fun g hg => hb g (row.lt g hg).1 (row.lt g hg).2) ih
theorem TreeAt.keepB (h : TreeAt w B a) (hb : ∀ k ∈ a.blocks, w'.heap[k]? = w.heap[k]?) : TreeAt w' B a := by
 induction h with
 | @mk b v kind text n kids blk le row _ ih =>
   refine .mk ((hb b (by simp [ATree.blocks])).trans blk) le (Zl row fun g hg => hb g (by simp [ATree.blocks, hg])) fun a ha => ih a ha fun k hk => hb k ?_;simp only [ATree.blocks, Z0v, List.mem_cons, List.mem_append, List.mem_flatMap];exact .inr (.inr ⟨a, ha, hk⟩)
theorem TreeAt.has (h : TreeAt w B a) : ∀ k ∈ a.blocks, B ≤ k ∧ k < w.heap.size := by
 induction h with
 | @mk b v kind text n kids blk le row _ ih =>
   intro k hk;simp only [ATree.blocks, Z0v, List.mem_cons, List.mem_append, List.mem_flatMap, Option.mem_toList] at hk;rcases hk with rfl | hk | ⟨a, ha, hk⟩;·exact ⟨le, (Array.getElem?_eq_some_iff.1 blk).1⟩
   ·exact row.lt k hk
   ·exact ih a ha k hk
theorem TreeAt.bel (h : TreeAt w B a) (hB : Below w.heap.size w w') : TreeAt w' B a := h.keep fun k _ hk => hB.block k hk
theorem TreeAt.rfr (h : TreeAt w B a) (hr : rb < B) (f : RFr w w' rb) : TreeAt w' B a := h.keep fun k hk hl => f.block k hl (by omega)
theorem TreeAt.drew (h : TreeAt w B a) : TreeAt w.drew B a := h.keep fun _ _ _ => rfl
theorem TreeAt.blkOf (h : TreeAt w B a) : w.heap[a.b]? = some (.cells #[.int .i64 a.kind, .string a.text, .int .i64 a.n, a.v] 44 (0, 0)) := by cases h; assumption
theorem TreeAt.rowOf (h : TreeAt w B a) : w.ownsRow B 22 1 a.v a.kids.length (a.kids.map ATree.ptr) := by cases h; assumption
theorem TreeAt.kid (h : TreeAt w B a) {k : ATree} (hk : k ∈ a.kids) : TreeAt w B k := by cases h; rename_i all; exact all k hk
theorem TreeAt.le (h : TreeAt w B a) : B ≤ a.b := by cases h; assumption
theorem TreeAt.lt (h : TreeAt w B a) : a.b < w.heap.size := (Array.getElem?_eq_some_iff.1 h.blkOf).1
theorem TreeAt.base {B' : Nat} (h : TreeAt w B a) (hB : B' ≤ B) : TreeAt w B' a := by
 induction h with
 | mk blk le row _ ih => exact .mk blk (Nat.le_trans hB le) (Z1w hB row) ih
end
def Z6r (w : World) (base : Nat) (e : Ending) (c p : Int) : Prop :=
 ∃ b, e = .panicked [{ v := .iface 67 (.agg #[.iface 94 (.pointer (some ⟨b, 0, none⟩))]), recovered := false }] ∧ base ≤ b ∧ w.heap[b]? = some (.cells #[.int .i64 c, .int .i64 p] 95 (0, 0))
structure Got (w : World) (B : Nat) (w' : World) (a : ATree) (t : Tree) : Prop where
 tree : a.tree = t
 at' : TreeAt w' B a
 nodup : a.blocks.Nodup
 new : ∀ x ∈ a.blocks, w.heap.size ≤ x ∧ x < w'.heap.size
theorem Got.rfr {w w' w'' : World} {B rb : Nat} {a : ATree} {t : Tree} (h : Got w B w' a t) (hr : rb < B) (f : RFr w' w'' rb) : Got w B w'' a t :=
 ⟨h.tree, h.at'.rfr hr f, h.nodup, fun x hx => ⟨(h.new x hx).1, Nat.lt_of_lt_of_le (h.new x hx).2 f.size⟩⟩
theorem Got.pre {w w' w'' : World} {B rb : Nat} {a : ATree} {t : Tree} (h : Got w' B w'' a t) (f : RFr w w' rb) : Got w B w'' a t :=
 ⟨h.tree, h.at', h.nodup, fun x hx => ⟨Nat.le_trans f.size (h.new x hx).1, (h.new x hx).2⟩⟩
def Z07 (w : World) (rb B d : Nat) (r : Except (Int × Nat) (Tree × List Tok)) (e : Ending) (w' : World) : Prop :=
 match r with
 | .ok (t, ts) => ∃ a, e = .returned (.pointer (some ⟨a.b, 0, none⟩)) ∧ Got w B w' a t ∧ Rd w' rb ts d ∧ RFr w w' rb
 | .error (c, p) => Z6r w' w.heap.size e c p ∧ RFr w w' rb
theorem TreeAt.new {w : World} {B : Nat} {v : Value} {kind : Int} {text : ByteArray} {n : Int} {kids : List ATree} (hB : B ≤ w.heap.size) (row : w.ownsRow B 22 1 v kids.length (kids.map ATree.ptr)) (all : ∀ a ∈ kids, TreeAt w B a) :
 TreeAt (w.alloc (.cells #[.int .i64 kind, .string text, .int .i64 n, v] 44)) B (.mk w.heap.size v kind text n kids) := by
 have hal : Below w.heap.size w (w.alloc (.cells #[.int .i64 kind, .string text, .int .i64 n, v] 44)) := (Below.refl _ _).alloc (Nat.le_refl _) _;exact .mk (heap_alloc_new w _) hB (row.alloc _) fun a ha => (all a ha).bel hal
structure Pre (w : World) (rb B d : Nat) (ts : List Tok) : Prop where
 rd : Rd w rb ts d
 deep : d ≤ 30
 lt : rb < B
 le : B ≤ w.heap.size
 few : ts.length ≤ 4000
theorem Pre.below {w w' : World} {rb B d : Nat} {ts : List Tok} (h : Pre w rb B d ts) (hB : Below w.heap.size w w') : Pre w' rb B d ts :=
 ⟨h.rd.below hB, h.deep, h.lt, Nat.le_trans h.le hB.size, h.few⟩
theorem Pre.next {w w' : World} {rb B d : Nat} {ts ts' : List Tok} (h : Pre w rb B d ts) (hR : Rd w' rb ts' d) (f : RFr w w' rb) (hl : ts'.length ≤ ts.length) : Pre w' rb B d ts' :=
 ⟨hR, h.deep, h.lt, Nat.le_trans h.le f.size, Nat.le_trans hl h.few⟩
theorem Pre.tail {w w' : World} {rb B d : Nat} {ts : List Tok} (h : Pre w rb B d ts) (hR : Rd w' rb ts.tail d) (f : RFr w w' rb) : Pre w' rb B d ts.tail := h.next hR f (by cases ts <;> simp)
def Says (F : FuncId) (args : Nat → Array Value) (job : Job) (f : Nat) : Prop :=
 ∀ (w : World) (rb B d : Nat) (ts : List Tok) (r : Except (Int × Nat) (Tree × List Tok)), Pre w rb B d ts → Z4 f job d ts = some r → Calls Tryz.prog F (args rb) w (Z07 w rb B d r)
def rArg (rb : Nat) : Array Value := #[.pointer (some ⟨rb, 0, none⟩)]
theorem Z07.pre {w w1 w2 : World} {rb B d : Nat} {r : Except (Int × Nat) (Tree × List Tok)} {e : Ending} (f : RFr w w1 rb) (h : Z07 w1 rb B d r e w2) : Z07 w rb B d r e w2 := by
 rcases r with ⟨c, p⟩ | ⟨t, ts⟩
 ·obtain ⟨⟨b, h1, h2, h3⟩, g⟩ := h;exact ⟨⟨b, h1, Nat.le_trans f.size h2, h3⟩, f.trans g⟩
 ·obtain ⟨a, h1, h2, h3, h4⟩ := h;exact ⟨a, h1, h2.pre f, h3, f.trans h4⟩
theorem Z07.err {w w1 w2 : World} {rb B d : Nat} {e : Ending} {c : Int} {p : Nat} (f : RFr w w1 rb) (h : Z6r w2 w1.heap.size e c p) (g : Below w1.heap.size w1 w2) : Z07 w rb B d (.error (c, p)) e w2 := by
 obtain ⟨b, h1, h2, h3⟩ := h;exact ⟨⟨b, h1, Nat.le_trans f.size h2, h3⟩, f.trans (RFr.below g)⟩
theorem Zr {p : PR} {k : Tree → List Tok → PR} {r : Except (Int × Nat) (Tree × List Tok)} (h : Zx p k = some r) : (∃ e, p = some (.error e) ∧ r = .error e) ∨ ∃ t ts, p = some (.ok (t, ts)) ∧ k t ts = some r := by
 cases p with
 | none => simp [Zx] at h
 | some x =>
   cases x with
   | error e => exact .inl ⟨e, rfl, by simpa [Zx] using h.symm⟩
   | ok y => obtain ⟨t, ts⟩ := y; exact .inr ⟨t, ts, rfl, h⟩
theorem Z1r {s : ByteArray} {ts : List Tok} {k : List Tok → PR} {r : Except (Int × Nat) (Tree × List Tok)} (h : Z0u s ts k = some r) : (isT s ts = true ∧ k ts.tail = some r) ∨ (isT s ts = false ∧ r = .error (3, (hdT ts).at')) := by
 unfold Z0u at h;by_cases hs : isT s ts = true;·rw [if_pos hs] at h; exact .inl ⟨hs, h⟩
 ·rw [if_neg hs] at h; exact .inr ⟨by simpa using hs, by simpa [Z2m] using h.symm⟩
theorem Z3i {ts : List Tok} {k : ByteArray → List Tok → PR} {r : Except (Int × Nat) (Tree × List Tok)} (h : Z3b ts k = some r) : ((hdT ts).kind = 1 ∧ k (hdT ts).text ts.tail = some r) ∨ ((hdT ts).kind ≠ 1 ∧ r = .error (3, (hdT ts).at')) := by
 unfold Z3b at h;by_cases hs : (hdT ts).kind = 1;·rw [if_pos hs] at h; exact .inl ⟨hs, h⟩
 ·rw [if_neg hs] at h; exact .inr ⟨hs, by simpa [Z2m] using h.symm⟩
theorem Got.push {w0 wA w w1 w2 : World} {rb B b d g cap : Nat} {v : Value} {k n : Int} {t : ByteArray} {kids : List ATree} {a : ATree} {tn ta : Tree} {ts : List Tok} (hr : rb < B) (hB0 : B ≤ w0.heap.size)
 (N : Got w0 B w (.mk b v k t n kids) tn) (hNA : ∀ x ∈ (ATree.mk b v k t n kids).blocks, x < wA.heap.size) (A : Got wA B w a ta) (F : RFr w0 w rb) (R : Rd w rb ts d)
 (hB1 : Below w.heap.size w w1) (hg : w1.grownBy w2 v.ownBlock) (hown : w2.ownsRow B 22 1 (.slice (some ⟨g, 0, none⟩) (kids.length + 1) cap) (kids.length + 1) (kids.map ATree.ptr ++ [a.ptr]))
 (hat : v.ownBlock = some g ∨ w.heap.size ≤ g) (hgl : g < w2.heap.size) :
 Got w0 B (w2.setCell ⟨b, 3, none⟩ (.slice (some ⟨g, 0, none⟩) (kids.length + 1) cap)) (.mk b (.slice (some ⟨g, 0, none⟩) (kids.length + 1) cap) k t n (kids ++ [a])) (.mk k t n (Z10 kids ++ [ta])) ∧
  RFr w0 (w2.setCell ⟨b, 3, none⟩ (.slice (some ⟨g, 0, none⟩) (kids.length + 1) cap)) rb ∧ Rd (w2.setCell ⟨b, 3, none⟩ (.slice (some ⟨g, 0, none⟩) (kids.length + 1) cap)) rb ts d := by
 have hnd := N.nodup;simp only [ATree.blocks, List.nodup_cons, List.mem_append, List.nodup_append, Option.mem_toList, not_or] at hnd;obtain ⟨⟨hb1, hb2⟩, _, hk1, hk2⟩ := hnd;have hbw : b < w.heap.size := N.at'.lt;have hb0 : w0.heap.size ≤ b := (N.new b (by simp [ATree.blocks])).1;have hv0 : ∀ x, v.ownBlock = some x → w0.heap.size ≤ x ∧ x < wA.heap.size ∧ x < w.heap.size := fun x hx =>
  ⟨(N.new x (by simp [ATree.blocks, hx])).1, hNA x (by simp [ATree.blocks, hx]), (N.new x (by simp [ATree.blocks, hx])).2⟩
 have hbA : b < wA.heap.size := hNA b (by simp [ATree.blocks]);have hs1 : w.heap.size ≤ w2.heap.size := Nat.le_trans hB1.size hg.size;have hsz : (w2.setCell ⟨b, 3, none⟩ (.slice (some ⟨g, 0, none⟩) (kids.length + 1) cap)).heap.size = w2.heap.size := World.size_setCell ..;have far2 : ∀ x, x < w.heap.size → v.ownBlock ≠ some x → w2.heap[x]? = w.heap[x]? := fun x hx hn => (hg.block x (Nat.lt_of_lt_of_le hx hB1.size) (fun e => hn e.symm)).trans (hB1.block x hx)
 have far : ∀ x, x < w.heap.size → x ≠ b → v.ownBlock ≠ some x → (w2.setCell ⟨b, 3, none⟩ (.slice (some ⟨g, 0, none⟩) (kids.length + 1) cap)).heap[x]? = w.heap[x]? := fun x hx hxb hn => (Below.heap_setCell _ _ _ _ hxb).trans (far2 x hx hn);have hgb : g ≠ b := by
  rcases hat with h | h;·rintro rfl; exact hb1 h
  ·omega
 have hgA : ∀ x ∈ a.blocks, g ≠ x := fun x hx => by
  have h1 := A.new x hx;rcases hat with h | h;·have := hv0 g h; omega
  ·omega
 have hgk : ∀ x ∈ Zv kids, g ≠ x := fun x hx => by
  rcases hat with h | h;·exact hk2 g h x hx
  ·have := (N.new x (by simp [ATree.blocks, hx])).2; omega
 have hg0 : w0.heap.size ≤ g := by
  rcases hat with h | h;·exact (hv0 g h).1
  ·have := F.size; omega
 refine ⟨⟨?_, ?_, ?_, ?_⟩, ⟨?_, ?_, ?_, ?_, ?_⟩, ?_⟩
 ·simp only [ATree.tree, Z58, Z10];rw [A.tree]
 ·refine .mk ?_ N.at'.le ?_ fun x hx => ?_
  ·have h1 := (far2 b hbw hb1).trans N.at'.blkOf;exact Zn (o := 3) _ h1
  ·rw [List.length_append, List.map_append];exact Zl hown fun g' hg' => Below.heap_setCell _ _ _ _ (by simp only [Value.ownBlock, Option.some.injEq] at hg'; rw [← hg']; exact hgb)
  ·rcases List.mem_append.1 hx with hx | hx
   ·have hT := N.at'.kid (k := x) hx;refine hT.keepB fun y hy => ?_;have hyk : y ∈ Zv kids := by rw [Z0v]; exact List.mem_flatMap.2 ⟨x, hx, hy⟩
    exact far y (hT.has y hy).2 (fun e => hb2 (by rw [← e]; exact hyk)) (fun e => hk2 y e y hyk rfl)
   ·simp only [List.mem_singleton] at hx;subst hx;refine A.at'.keepB fun y hy => ?_;have h1 := A.new y hy;exact far y h1.2 (by omega) (fun e => by have := hv0 y e; omega)
 ·simp only [ATree.blocks, Value.ownBlock, Z1e, Zv, List.append_nil, List.nodup_cons, List.mem_append, List.nodup_append, Option.toList, List.mem_cons, List.not_mem_nil, or_false, not_or, List.nodup_nil, not_false_eq_true, true_and];refine ⟨⟨fun e => hgb e.symm, hb2, fun hm => by have := A.new b hm; omega⟩, ⟨hk1, A.nodup, fun x hx y hy e => by have h1 := hNA x (by simp [ATree.blocks, hx]); have h2 := A.new y hy; omega⟩, ?_⟩;rintro x rfl y hy;rcases hy with hy | hy;·exact hgk y hy
  ·exact hgA y hy
 ·intro x hx;rw [hsz];simp only [ATree.blocks, Value.ownBlock, Z1e, Zv, List.append_nil, List.mem_cons, List.mem_append, Option.toList, List.not_mem_nil, or_false] at hx;rcases hx with rfl | rfl | hx | hx;·exact ⟨hb0, by omega⟩
  ·exact ⟨hg0, hgl⟩
  ·have := N.new x (by simp [ATree.blocks, hx]); omega
  ·have := A.new x hx; omega
 ·exact (hg.os.trans hB1.os).trans F.os
 ·exact (hg.tape.trans hB1.tape).trans F.tape
 ·exact (hg.output.trans hB1.output).trans F.output
 ·rw [hsz]; have := F.size; omega
 ·intro x hx hn;have := F.size;exact (far x (by omega) (by omega) (fun e => by have := hv0 x e; omega)).trans (F.block x hx hn)
 ·have := F.size;exact R.keep (by rw [hsz]; exact hs1) fun x hx => far x (by have := R.rlt; omega) (by omega) (fun e => by have := hv0 x e; omega)
theorem Got.text {w0 w : World} {rb B b d : Nat} {v : Value} {k n : Int} {t t' : ByteArray} {kids : List ATree} {l : List Tree} {ts : List Tok} (hr : rb < B) (hB0 : B ≤ w0.heap.size)
 (N : Got w0 B w (.mk b v k t n kids) (.mk k t n l)) (F : RFr w0 w rb) (R : Rd w rb ts d) :
 Got w0 B (w.setCell ⟨b, 1, none⟩ (.string t')) (.mk b v k t' n kids) (.mk k t' n l) ∧ RFr w0 (w.setCell ⟨b, 1, none⟩ (.string t')) rb ∧ Rd (w.setCell ⟨b, 1, none⟩ (.string t')) rb ts d := by
 have hnd := N.nodup;simp only [ATree.blocks, List.nodup_cons, List.mem_append, Option.mem_toList, not_or] at hnd;obtain ⟨⟨hb1, hb2⟩, _⟩ := hnd;have hb0 : w0.heap.size ≤ b := (N.new b (by simp [ATree.blocks])).1;have hsz : (w.setCell ⟨b, 1, none⟩ (.string t')).heap.size = w.heap.size := World.size_setCell ..;have far : ∀ x, x ≠ b → (w.setCell ⟨b, 1, none⟩ (.string t')).heap[x]? = w.heap[x]? := fun x hx => Below.heap_setCell _ _ _ _ hx
 refine ⟨⟨?_, ?_, N.nodup, ?_⟩, ⟨F.os, F.tape, F.output, by rw [hsz]; exact F.size, fun x hx hn => (far x (by omega)).trans (F.block x hx hn)⟩, R.keep (by omega) fun x hx => far x (by omega)⟩
 ·have := N.tree;simp only [ATree.tree, Tree.mk.injEq, true_and] at this ⊢;exact this
 ·refine .mk (Zn (o := 1) _ N.at'.blkOf) N.at'.le (Zl N.at'.rowOf fun g hg => far g (fun e => hb1 (by rw [← e]; exact hg))) fun x hx => ?_;have hT := N.at'.kid (k := x) hx;refine hT.keepB fun y hy => far y fun e => hb2 ?_;rw [Z0v, ← e];exact List.mem_flatMap.2 ⟨x, hx, hy⟩
 ·intro x hx; rw [hsz]; exact N.new x hx
theorem Got.leaf {w0 w : World} {rb B : Nat} {k : Int} {t : ByteArray} {n : Int} (hB0 : B ≤ w0.heap.size) (F : RFr w0 w rb) :
 Got w0 B (w.alloc (.cells #[.int .i64 k, .string t, .int .i64 n, .slice none 0 0] 44)) (.mk w.heap.size (.slice none 0 0) k t n []) (.mk k t n []) := by
 have hs := F.size;exact ⟨rfl, TreeAt.new (Nat.le_trans hB0 hs) (World.ownsRow_nil _ _ _ _) (fun a ha => by cases ha), by simp [ATree.blocks, Value.ownBlock, Zv], fun x hx => by
  simp only [ATree.blocks, Value.ownBlock, Option.toList, Zv, List.append_nil, List.mem_cons, List.not_mem_nil, or_false] at hx;subst hx;exact ⟨hs, by simp⟩⟩
theorem Zca {w : World} {B : Nat} {l : List ATree} (hB : B ≤ w.heap.size) (hl : l.length ≤ 1000) :
 (w.alloc (.cells (l.map ATree.ptr).toArray 22)).ownsRow B 22 1 (.slice (some ⟨w.heap.size, 0, none⟩) l.length l.length) l.length (l.map ATree.ptr) := by
 refine ⟨by simp, .inr ⟨w.heap.size, l.length, (l.map ATree.ptr).toArray, rfl, hB, heap_alloc_new w _, Nat.le_refl _, by unfold maxLen; omega, by simp, ?_⟩⟩;simp only [Nat.mul_one];exact List.take_of_length_le (by simp)
theorem Got.made {w0 w : World} {rb B : Nat} {k : Int} {t : ByteArray} {kids : List ATree} {ks : List Tree} (hB0 : B ≤ w0.heap.size) (F : RFr w0 w rb) (hl : kids.length ≤ 1000) (ht : Z10 kids = ks)
 (hT : ∀ a ∈ kids, TreeAt w B a) (hn : (Zv kids).Nodup) (hb : ∀ x ∈ Zv kids, w0.heap.size ≤ x ∧ x < w.heap.size) :
 Got w0 B ((w.alloc (.cells (kids.map ATree.ptr).toArray 22)).alloc (.cells #[.int .i64 k, .string t, .int .i64 0, .slice (some ⟨w.heap.size, 0, none⟩) kids.length kids.length] 44))
  (.mk (w.heap.size + 1) (.slice (some ⟨w.heap.size, 0, none⟩) kids.length kids.length) k t 0 kids) (.mk k t 0 ks) := by
 have hs := F.size;have hal : Below w.heap.size w (w.alloc (.cells (kids.map ATree.ptr).toArray 22)) := (Below.refl _ _).alloc (Nat.le_refl _) _;have hz : (w.alloc (.cells (kids.map ATree.ptr).toArray 22)).heap.size = w.heap.size + 1 := by simp
 refine ⟨by simp [ATree.tree, ht], ?_, ?_, ?_⟩
 ·rw [← hz];exact TreeAt.new (by rw [hz]; omega) (Zca (by omega) hl) fun a ha => (hT a ha).bel hal
 ·simp only [ATree.blocks, Value.ownBlock, Option.toList, List.nodup_cons, List.mem_append, List.nodup_append, List.mem_cons, List.not_mem_nil, or_false, not_or, List.nodup_nil, not_false_eq_true, true_and];refine ⟨⟨by omega, fun hm => by have := hb _ hm; omega⟩, hn, ?_⟩;rintro x rfl y hy rfl;have := hb _ hy;omega
 ·intro x hx;simp only [ATree.blocks, Value.ownBlock, Option.toList, List.mem_cons, List.mem_append, List.not_mem_nil, or_false] at hx;simp only [World.size_alloc];rcases hx with rfl | rfl | hx;·omega
  ·omega
  ·have := hb x hx; omega
theorem Got.two {w0 w wA : World} {rb B : Nat} {k : Int} {t : ByteArray} {a c : ATree} {ta tc : Tree} (hB0 : B ≤ w0.heap.size) (F : RFr w0 w rb) (A : Got w0 B w a ta) (hA : ∀ x ∈ a.blocks, x < wA.heap.size) (hwA : w0.heap.size ≤ wA.heap.size) (C : Got wA B w c tc) :
 Got w0 B ((w.alloc (.cells #[a.ptr, c.ptr] 22)).alloc (.cells #[.int .i64 k, .string t, .int .i64 0, .slice (some ⟨w.heap.size, 0, none⟩) 2 2] 44))
  (.mk (w.heap.size + 1) (.slice (some ⟨w.heap.size, 0, none⟩) 2 2) k t 0 [a, c]) (.mk k t 0 [ta, tc]) := by
 refine Got.made (kids := [a, c]) (rb := rb) hB0 F (by simp) (by simp [Z10, A.tree, C.tree]) (fun x hx => ?_) ?_ ?_
 ·simp only [List.mem_cons, List.not_mem_nil, or_false] at hx;rcases hx with rfl | rfl;·exact A.at'
  ·exact C.at'
 ·simp only [Zv, List.append_nil, List.nodup_append];exact ⟨A.nodup, C.nodup, fun x hx y hy e => by have h1 := hA x hx; have h2 := C.new y hy; omega⟩
 ·intro x hx;simp only [Zv, List.append_nil, List.mem_append] at hx;rcases hx with hx | hx;·exact A.new x hx
  ·have := C.new x hx; omega
theorem Got.one {w0 w : World} {rb B : Nat} {k : Int} {t : ByteArray} {a : ATree} {ta : Tree} (hB0 : B ≤ w0.heap.size) (F : RFr w0 w rb) (A : Got w0 B w a ta) :
 Got w0 B ((w.alloc (.cells #[a.ptr] 22)).alloc (.cells #[.int .i64 k, .string t, .int .i64 0, .slice (some ⟨w.heap.size, 0, none⟩) 1 1] 44))
  (.mk (w.heap.size + 1) (.slice (some ⟨w.heap.size, 0, none⟩) 1 1) k t 0 [a]) (.mk k t 0 [ta]) := by
 refine Got.made (kids := [a]) (rb := rb) hB0 F (by simp) (by simp [Z10, A.tree]) (fun x hx => ?_) ?_ ?_
 ·simp only [List.mem_cons, List.not_mem_nil, or_false] at hx;rw [hx]; exact A.at'
 ·simpa [Zv] using A.nodup
 ·intro x hx;exact A.new x (by simpa [Zv] using hx)
mutual
def Z2p {σ : Type} (g : σ → ATree → Bool × σ) : ATree → σ → σ
 | .mk b v k t n l, s => if (g s (.mk b v k t n l)).1 then Z14 g l (g s (.mk b v k t n l)).2 else (g s (.mk b v k t n l)).2
def Z14 {σ : Type} (g : σ → ATree → Bool × σ) : List ATree → σ → σ
 | [], s => s
 | a :: l, s => Z14 g l (Z2p g a s)
end
mutual
def ATree.subs : ATree → List ATree
 | .mk b v k t n l => .mk b v k t n l :: Z0x l
def Z0x : List ATree → List ATree
 | [] => []
 | a :: l => a.subs ++ Z0x l
end
mutual
def ATree.many : ATree → Nat
 | .mk _ _ _ _ _ l => Z20 l + 1
def Z20 : List ATree → Nat
 | [] => 0
 | a :: l => a.many + Z20 l
end
theorem Z64 {σ : Type} (g : σ → ATree → Bool × σ) (a : ATree) (s : σ) : Z2p g a s = if (g s a).1 then Z14 g a.kids (g s a).2 else (g s a).2 := by
 cases a; simp only [Z2p, ATree.kids]
theorem Z4d {σ : Type} (g : σ → ATree → Bool × σ) (l : List ATree) (a : ATree) (s : σ) : Z14 g (l ++ [a]) s = Z2p g a (Z14 g l s) := by
 induction l generalizing s with
 | nil => simp [Z14]
 | cons x l ih => simp only [List.cons_append, Z14, ih]
theorem Z3n {a k : ATree} (h : k ∈ a.kids) : k.many < a.many := by
 have key : ∀ l : List ATree, k ∈ l → k.many ≤ Z20 l := by
  intro l;induction l with
  | nil => intro h; cases h
  | cons x l ih =>
    intro h;simp only [Z20];rcases List.mem_cons.1 h with rfl | h;·omega
    ·have := ih h; omega
 obtain ⟨b, v, kk, t, n, l⟩ := a;have := key l h;simp only [ATree.many];omega
theorem Z8w (a : ATree) : a ∈ a.subs := by cases a; simp [ATree.subs]
theorem Zcs {a k x : ATree} (h : k ∈ a.kids) (hx : x ∈ k.subs) : x ∈ a.subs := by
 have key : ∀ l : List ATree, k ∈ l → x ∈ Z0x l := by
  intro l;induction l with
  | nil => intro h; cases h
  | cons y l ih =>
    intro h;simp only [Z0x, List.mem_append];rcases List.mem_cons.1 h with rfl | h;·exact .inl hx
    ·exact .inr (ih h)
 obtain ⟨b, v, kk, t, n, l⟩ := a;simp only [ATree.subs, List.mem_cons];exact .inr (key l h)
mutual
theorem Z2t : ∀ a : ATree, a.tree.many = a.many
 | .mk _ _ _ _ _ l => by simp only [ATree.tree, Tree.many, ATree.many]; rw [Z9s l]
theorem Z9s : ∀ l : List ATree, Z3w (Z10 l) = Z20 l
 | [] => rfl
 | a :: l => by simp only [Z10, Z3w, Z20]; rw [Z2t a, Z9s l]
end
theorem Z0c {l : List ATree} {k : Nat} {x : ATree} (h : l[k]? = some x) : l.take (k + 1) = l.take k ++ [x] := by
 rw [List.take_add_one, h]; rfl
inductive Reach {σ : Type} (g : σ → ATree → Bool × σ) : ATree → σ → ATree → σ → Prop
 | self (a : ATree) (s : σ) : Reach g a s a s
 | kid {a k x : ATree} {s s' : σ} {i : Nat} (ok : (g s a).1 = true) (hk : a.kids[i]? = some k) (h : Reach g k (Z14 g (a.kids.take i) (g s a).2) x s') : Reach g a s x s'
theorem Reach.sub {σ : Type} {g : σ → ATree → Bool × σ} {a x : ATree} {s s' : σ} (h : Reach g a s x s') : x ∈ a.subs := by
 induction h with
 | self a s => exact Z8w a
 | kid ok hk h ih => exact Zcs (List.mem_of_getElem? hk) ih
end Go.Proofs.YtgmnfgljkocnpaaGreatDoor
