/- The document's parser: kids that lie apart; nodes of them. The document's parser: statement2, head. The document's parser: list, with any closure. -/
import Derived.Test.YtgmnfgljkocnpaaGreatDoorJ01
import Derived.Test.YtgmnfgljkocnpaaGreatDoorJ14
import Derived.Test.YtgmnfgljkocnpaaGreatDoorJ11
namespace Go.Proofs.YtgmnfgljkocnpaaGreatDoor
open Go Go.RowKit
set_option maxRecDepth 100000
set_option maxHeartbeats 20000000
set_option linter.unusedVariables false
structure KidsAt (w0 : World) (B : Nat) (w : World) (kids : List ATree) (ts : List Tree) : Prop where
 tree : Z10 kids = ts
 at' : ∀ a ∈ kids, TreeAt w B a
 nodup : (Zv kids).Nodup
 new : ∀ x ∈ Zv kids, w0.heap.size ≤ x ∧ x < w.heap.size
structure ListAt (w0 : World) (B : Nat) (w : World) (v : Value) (kids : List ATree) (ts : List Tree) : Prop where
 ks : KidsAt w0 B w kids ts
 row : w.ownsRow B 22 1 v kids.length (kids.map ATree.ptr)
 own : ∀ g, v.ownBlock = some g → w0.heap.size ≤ g ∧ g < w.heap.size ∧ g ∉ Zv kids
section
variable {w0 w w' w1 w2 wA : World} {B rb : Nat} {v : Value} {kids : List ATree} {ts : List Tree} {a : ATree} {t : Tree} {k n : Int} {tx : ByteArray} {b : Nat}
theorem KidsAt.nil : KidsAt w0 B w [] [] := ⟨rfl, fun a ha => (by cases ha), by simp [Zv], fun x hx => by simp [Zv] at hx⟩
theorem KidsAt.rfr (h : KidsAt w0 B w kids ts) (hr : rb < B) (f : RFr w w' rb) : KidsAt w0 B w' kids ts :=
 ⟨h.tree, fun a ha => (h.at' a ha).rfr hr f, h.nodup, fun x hx => ⟨(h.new x hx).1, Nat.lt_of_lt_of_le (h.new x hx).2 f.size⟩⟩
theorem KidsAt.pre (h : KidsAt w1 B w kids ts) (f : w0.heap.size ≤ w1.heap.size) : KidsAt w0 B w kids ts :=
 ⟨h.tree, h.at', h.nodup, fun x hx => ⟨Nat.le_trans f (h.new x hx).1, (h.new x hx).2⟩⟩
theorem KidsAt.add (h : KidsAt w0 B w kids ts) (hA : ∀ x ∈ Zv kids, x < wA.heap.size) (A : Got wA B w a t) (h0 : w0.heap.size ≤ wA.heap.size) : KidsAt w0 B w (kids ++ [a]) (ts ++ [t]) := by
 refine ⟨by rw [Z58, h.tree]; simp [Z10, A.tree], fun x hx => ?_, ?_, fun x hx => ?_⟩
 ·rcases List.mem_append.1 hx with hx | hx;·exact h.at' x hx
  ·simp only [List.mem_singleton] at hx; subst hx; exact A.at'
 ·rw [Z1e];simp only [Zv, List.append_nil, List.nodup_append];exact ⟨h.nodup, A.nodup, fun x hx y hy e => by have h1 := hA x hx; have h2 := A.new y hy; omega⟩
 ·rw [Z1e] at hx;simp only [Zv, List.append_nil, List.mem_append] at hx;rcases hx with hx | hx;·exact h.new x hx
  ·have := A.new x hx; omega
theorem KidsAt.one (A : Got w0 B w a t) : KidsAt w0 B w [a] [t] := KidsAt.nil.add (kids := []) (ts := []) (wA := w0) (fun x hx => by simp [Zv] at hx) A (Nat.le_refl _)
theorem KidsAt.two {a2 : ATree} {t2 : Tree} (A : Got w0 B w a t) (hA : ∀ x ∈ a.blocks, x < wA.heap.size) (h0 : w0.heap.size ≤ wA.heap.size) (A2 : Got wA B w a2 t2) : KidsAt w0 B w [a, a2] [t, t2] :=
 (KidsAt.one A).add (wA := wA) (fun x hx => hA x (by simpa [Zv] using hx)) A2 h0
theorem ListAt.nil : ListAt w0 B w (.slice none 0 0) [] [] := ⟨KidsAt.nil, World.ownsRow_nil _ _ _ _, fun g hg => by simp [Value.ownBlock] at hg⟩
theorem ListAt.rfr (h : ListAt w0 B w v kids ts) (hr : rb < B) (f : RFr w w' rb) : ListAt w0 B w' v kids ts :=
 ⟨h.ks.rfr hr f, Zl h.row fun g hg => f.block g (h.own g hg).2.1 (by have := (h.row.lt g hg).1; omega), fun g hg => ⟨(h.own g hg).1, Nat.lt_of_lt_of_le (h.own g hg).2.1 f.size, (h.own g hg).2.2⟩⟩
theorem ListAt.pre (h : ListAt w1 B w v kids ts) (f : w0.heap.size ≤ w1.heap.size) : ListAt w0 B w v kids ts :=
 ⟨h.ks.pre f, h.row, fun g hg => ⟨Nat.le_trans f (h.own g hg).1, (h.own g hg).2⟩⟩
theorem KidsAt.lit (h : KidsAt w0 B w kids ts) (hBw : B ≤ w.heap.size) (h0 : w0.heap.size ≤ w.heap.size) (hl : kids.length ≤ 1000) :
 ListAt w0 B (w.alloc (.cells (kids.map ATree.ptr).toArray 22)) (.slice (some ⟨w.heap.size, 0, none⟩) kids.length kids.length) kids ts := by
 have hal : Below w.heap.size w (w.alloc (.cells (kids.map ATree.ptr).toArray 22)) := (Below.refl _ _).alloc (Nat.le_refl _) _;refine ⟨⟨h.tree, fun a ha => (h.at' a ha).bel hal, h.nodup, fun x hx => ⟨(h.new x hx).1, Nat.lt_of_lt_of_le (h.new x hx).2 hal.size⟩⟩, Zca hBw hl, fun g hg => ?_⟩;simp only [Value.ownBlock, Option.some.injEq] at hg;subst hg;exact ⟨h0, by simp, fun hm => by have := (h.new _ hm).2; omega⟩
theorem ListAt.push {g cap : Nat} (L : ListAt w0 B w v kids ts) (hLA : ∀ x ∈ Zv kids, x < wA.heap.size) (hvA : ∀ x, v.ownBlock = some x → x < wA.heap.size) (A : Got wA B w a t) (h0 : w0.heap.size ≤ wA.heap.size) (hAw : wA.heap.size ≤ w.heap.size)
 (hB1 : Below w.heap.size w w1) (hg : w1.grownBy w2 v.ownBlock) (hown : w2.ownsRow B 22 1 (.slice (some ⟨g, 0, none⟩) (kids.length + 1) cap) (kids.length + 1) (kids.map ATree.ptr ++ [a.ptr]))
 (hat : v.ownBlock = some g ∨ w.heap.size ≤ g) (hgl : g < w2.heap.size) (hF : RFr w0 w rb) :
 ListAt w0 B w2 (.slice (some ⟨g, 0, none⟩) (kids.length + 1) cap) (kids ++ [a]) (ts ++ [t]) ∧ (∀ x, x < w.heap.size → v.ownBlock ≠ some x → w2.heap[x]? = w.heap[x]?) ∧ w.heap.size ≤ w2.heap.size ∧
  RFr w0 w2 rb := by
 have hs1 : w.heap.size ≤ w2.heap.size := Nat.le_trans hB1.size hg.size;have far : ∀ x, x < w.heap.size → v.ownBlock ≠ some x → w2.heap[x]? = w.heap[x]? := fun x hx hn => (hg.block x (Nat.lt_of_lt_of_le hx hB1.size) (fun e => hn e.symm)).trans (hB1.block x hx);have hv : ∀ x, v.ownBlock = some x → w0.heap.size ≤ x ∧ x < wA.heap.size := fun x hx => ⟨(L.own x hx).1, hvA x hx⟩;have hgk : g ∉ Zv kids := fun hm => by
  rcases hat with h | h;·exact (L.own g h).2.2 hm
  ·have := (L.ks.new g hm).2; omega
 have hga : g ∉ a.blocks := fun hm => by
  have h1 := A.new g hm;rcases hat with h | h;·have := hv g h; omega
  ·omega
 have hg0 : w0.heap.size ≤ g := by
  rcases hat with h | h;·exact (hv g h).1
  ·have := hF.size; omega
 have hkeep : ∀ x ∈ Zv kids, w2.heap[x]? = w.heap[x]? := fun x hx => far x (L.ks.new x hx).2 fun e => (L.own x e).2.2 hx;have hkeepA : ∀ x ∈ a.blocks, w2.heap[x]? = w.heap[x]? := fun x hx => far x (A.new x hx).2 fun e => by have h1 := hv x e; have h2 := A.new x hx; omega
 refine ⟨⟨⟨?_, fun x hx => ?_, ?_, fun x hx => ?_⟩, ?_, fun g' hg' => ?_⟩, far, hs1, ⟨?_, ?_, ?_, ?_, ?_⟩⟩;·rw [Z58, L.ks.tree]; simp [Z10, A.tree]
 ·rcases List.mem_append.1 hx with hx | hx
  ·refine (L.ks.at' x hx).keepB fun y hy => hkeep y ?_;rw [Z0v]; exact List.mem_flatMap.2 ⟨x, hx, hy⟩
  ·simp only [List.mem_singleton] at hx; subst hx; exact A.at'.keepB hkeepA
 ·rw [Z1e];simp only [Zv, List.append_nil, List.nodup_append];exact ⟨L.ks.nodup, A.nodup, fun x hx y hy e => by have h1 := hLA x hx; have h2 := A.new y hy; omega⟩
 ·rw [Z1e] at hx;simp only [Zv, List.append_nil, List.mem_append] at hx;rcases hx with hx | hx;·have := L.ks.new x hx; omega
  ·have := A.new x hx; omega
 ·rw [List.length_append, List.map_append]; exact hown
 ·simp only [Value.ownBlock, Option.some.injEq] at hg';subst hg';refine ⟨hg0, hgl, fun hm => ?_⟩;rw [Z1e] at hm;simp only [Zv, List.append_nil, List.mem_append] at hm;exact hm.elim hgk hga
 ·exact (hg.os.trans hB1.os).trans hF.os
 ·exact (hg.tape.trans hB1.tape).trans hF.tape
 ·exact (hg.output.trans hB1.output).trans hF.output
 ·have := hF.size; omega
 ·intro x hx hn;have := hF.size;exact (far x (by omega) (fun e => by have := hv x e; omega)).trans (hF.block x hx hn)
theorem ListAt.node (L : ListAt w0 B w v kids ts) (hBw : B ≤ w.heap.size) (h0 : w0.heap.size ≤ w.heap.size) :
 Got w0 B (w.alloc (.cells #[.int .i64 k, .string tx, .int .i64 n, v] 44)) (.mk w.heap.size v k tx n kids) (.mk k tx n ts) := by
 refine ⟨by simp [ATree.tree, L.ks.tree], TreeAt.new hBw L.row L.ks.at', ?_, fun x hx => ?_⟩
 ·simp only [ATree.blocks, List.nodup_cons, List.mem_append, List.nodup_append, Option.mem_toList, not_or];refine ⟨⟨fun e => by have := (L.own _ e).2.1; omega, fun hm => by have := (L.ks.new _ hm).2; omega⟩, ?_, L.ks.nodup, fun x hx y hy e => ?_⟩;·cases v.ownBlock <;> simp
  ·subst e; exact (L.own x hx).2.2 hy
 ·simp only [ATree.blocks, List.mem_cons, List.mem_append, Option.mem_toList] at hx;rw [World.size_alloc];rcases hx with rfl | hx | hx;·omega
  ·have := L.own x hx; omega
  ·have := L.ks.new x hx; omega
theorem Got.kind0 {k' : Int} {l : List Tree} (hr : rb < B) (hB0 : B ≤ w0.heap.size) (N : Got w0 B w (.mk b v k tx n kids) (.mk k tx n l)) (F : RFr w0 w rb) :
 Got w0 B (w.setCell ⟨b, 0, none⟩ (.int .i64 k')) (.mk b v k' tx n kids) (.mk k' tx n l) ∧ RFr w0 (w.setCell ⟨b, 0, none⟩ (.int .i64 k')) rb ∧ (∀ x, x < B → (w.setCell ⟨b, 0, none⟩ (.int .i64 k')).heap[x]? = w.heap[x]?) := by
 have hnd := N.nodup;simp only [ATree.blocks, List.nodup_cons, List.mem_append, Option.mem_toList, not_or] at hnd;obtain ⟨⟨hb1, hb2⟩, _⟩ := hnd;have hb0 : w0.heap.size ≤ b := (N.new b (by simp [ATree.blocks])).1;have hsz : (w.setCell ⟨b, 0, none⟩ (.int .i64 k')).heap.size = w.heap.size := World.size_setCell ..;have far : ∀ x, x ≠ b → (w.setCell ⟨b, 0, none⟩ (.int .i64 k')).heap[x]? = w.heap[x]? := fun x hx => Below.heap_setCell _ _ _ _ hx
 refine ⟨⟨?_, ?_, N.nodup, ?_⟩, ⟨F.os, F.tape, F.output, by rw [hsz]; exact F.size, fun x hx hn => (far x (by omega)).trans (F.block x hx hn)⟩, fun x hx => far x (by omega)⟩
 ·have := N.tree;simp only [ATree.tree, Tree.mk.injEq, true_and] at this ⊢;exact this
 ·refine .mk (Zn (o := 0) _ N.at'.blkOf) N.at'.le (Zl N.at'.rowOf fun g hg => far g (fun e => hb1 (by rw [← e]; exact hg))) fun x hx => ?_;have hT := N.at'.kid (k := x) hx;refine hT.keepB fun y hy => far y fun e => hb2 ?_;rw [Z0v, ← e];exact List.mem_flatMap.2 ⟨x, hx, hy⟩
 ·intro x hx; rw [hsz]; exact N.new x hx
theorem Got.text0 {t' : ByteArray} {l : List Tree} (hr : rb < B) (hB0 : B ≤ w0.heap.size) (N : Got w0 B w (.mk b v k tx n kids) (.mk k tx n l)) (F : RFr w0 w rb) :
 Got w0 B (w.setCell ⟨b, 1, none⟩ (.string t')) (.mk b v k t' n kids) (.mk k t' n l) ∧ RFr w0 (w.setCell ⟨b, 1, none⟩ (.string t')) rb ∧ (∀ x, x < B → (w.setCell ⟨b, 1, none⟩ (.string t')).heap[x]? = w.heap[x]?) := by
 have hnd := N.nodup;simp only [ATree.blocks, List.nodup_cons, List.mem_append, Option.mem_toList, not_or] at hnd;obtain ⟨⟨hb1, hb2⟩, _⟩ := hnd;have hb0 : w0.heap.size ≤ b := (N.new b (by simp [ATree.blocks])).1;have hsz : (w.setCell ⟨b, 1, none⟩ (.string t')).heap.size = w.heap.size := World.size_setCell ..;have far : ∀ x, x ≠ b → (w.setCell ⟨b, 1, none⟩ (.string t')).heap[x]? = w.heap[x]? := fun x hx => Below.heap_setCell _ _ _ _ hx
 refine ⟨⟨?_, ?_, N.nodup, ?_⟩, ⟨F.os, F.tape, F.output, by rw [hsz]; exact F.size, fun x hx hn => (far x (by omega)).trans (F.block x hx hn)⟩, fun x hx => far x (by omega)⟩
 ·have := N.tree;simp only [ATree.tree, Tree.mk.injEq, true_and] at this ⊢;exact this
 ·refine .mk (Zn (o := 1) _ N.at'.blkOf) N.at'.le (Zl N.at'.rowOf fun g hg => far g (fun e => hb1 (by rw [← e]; exact hg))) fun x hx => ?_;have hT := N.at'.kid (k := x) hx;refine hT.keepB fun y hy => far y fun e => hb2 ?_;rw [Z0v, ← e];exact List.mem_flatMap.2 ⟨x, hx, hy⟩
 ·intro x hx; rw [hsz]; exact N.new x hx
theorem Got.kids0 {v' : Value} {kids' : List ATree} {l : List Tree} (hr : rb < B) (hB0 : B ≤ w0.heap.size) (N : TreeAt w B (.mk b v k tx n kids)) (hb0 : w0.heap.size ≤ b) (L : ListAt w0 B w v' kids' l) (h1 : v'.ownBlock ≠ some b) (h2 : b ∉ Zv kids') (F : RFr w0 w rb) :
 Got w0 B (w.setCell ⟨b, 3, none⟩ v') (.mk b v' k tx n kids') (.mk k tx n l) ∧ RFr w0 (w.setCell ⟨b, 3, none⟩ v') rb ∧ (∀ x, x < B → (w.setCell ⟨b, 3, none⟩ v').heap[x]? = w.heap[x]?) := by
 have hsz : (w.setCell ⟨b, 3, none⟩ v').heap.size = w.heap.size := World.size_setCell ..;have far : ∀ x, x ≠ b → (w.setCell ⟨b, 3, none⟩ v').heap[x]? = w.heap[x]? := fun x hx => Below.heap_setCell _ _ _ _ hx;have hbw : b < w.heap.size := N.lt;refine ⟨⟨?_, ?_, ?_, ?_⟩, ⟨F.os, F.tape, F.output, by rw [hsz]; exact F.size, fun x hx hn => (far x (by omega)).trans (F.block x hx hn)⟩, fun x hx => far x (by omega)⟩;·simp [ATree.tree, L.ks.tree]
 ·refine .mk (Zn (o := 3) _ N.blkOf) N.le (Zl L.row fun g hg => far g (fun e => h1 (by rw [← e]; exact hg))) fun x hx => ?_;refine (L.ks.at' x hx).keepB fun y hy => far y fun e => h2 ?_;rw [Z0v, ← e];exact List.mem_flatMap.2 ⟨x, hx, hy⟩
 ·simp only [ATree.blocks, List.nodup_cons, List.mem_append, List.nodup_append, Option.mem_toList, not_or];refine ⟨⟨h1, h2⟩, ?_, L.ks.nodup, fun x hx y hy e => ?_⟩;·cases v'.ownBlock <;> simp
  ·subst e; exact (L.own x hx).2.2 hy
 ·intro x hx;simp only [ATree.blocks, List.mem_cons, List.mem_append, Option.mem_toList] at hx;rw [hsz];rcases hx with rfl | hx | hx;·exact ⟨hb0, hbw⟩
  ·have := L.own x hx; omega
  ·exact L.ks.new x hx
theorem ListAt.apart (L : ListAt w1 B w v kids ts) (hb : b < w1.heap.size) : v.ownBlock ≠ some b ∧ b ∉ Zv kids :=
 ⟨fun e => by have := (L.own b e).1; omega, fun hm => by have := (L.ks.new b hm).1; omega⟩
theorem Got.list (N : Got w0 B w (.mk b v k tx n kids) t) : ListAt w0 B w v kids (Z10 kids) ∧ v.ownBlock ≠ some b ∧ b ∉ Zv kids := by
 have hnd := N.nodup;simp only [ATree.blocks, List.nodup_cons, List.mem_append, List.nodup_append, Option.mem_toList, not_or] at hnd;obtain ⟨⟨hb1, hb2⟩, _, hk1, hk2⟩ := hnd;exact ⟨⟨⟨rfl, fun a ha => N.at'.kid (k := a) ha, hk1, fun x hx => N.new x (by simp [ATree.blocks, hx])⟩, N.at'.rowOf, fun g hg => ⟨(N.new g (by simp [ATree.blocks, hg])).1, (N.new g (by simp [ATree.blocks, hg])).2, fun hm => hk2 g hg g hm rfl⟩⟩, hb1, hb2⟩
theorem QS.keep {C : QC} {σ : RS} (h : QS w C σ) (hk : ∀ k, k ≤ C.rb → w'.heap[k]? = w.heap[k]?) : QS w' C σ := by
 obtain ⟨i, e, h⟩ := h;exact ⟨i, e, h.keep hk⟩
end
def Z0y (F : FuncId) (args : Nat → Nat → Array Value) (job : RJob) (f : Nat) : Prop :=
 ∀ (w : World) (C : QC) (B d : Nat) (σ : RS) (t : Tree) (σ' : RS), QS w C σ → C.rb < B → B ≤ w.heap.size → d + f ≤ 1000000000000 → refF f job d σ = some (t, σ') → Calls Tryz.prog F (args C.rb d) w (Z1h w C B t σ')
theorem Zf {p : RR} {k : Tree → RS → RR} {t : Tree} {σ : RS} (h : Z03 p k = some (t, σ)) : ∃ t1 σ1, p = some (t1, σ1) ∧ k t1 σ1 = some (t, σ) := by
 cases p with
 | none => cases h
 | some r => obtain ⟨t1, σ1⟩ := r; exact ⟨t1, σ1, rfl, h⟩
def qd (rb d : Nat) : Array Value := #[.pointer (some ⟨rb, 0, none⟩), .int .i64 d]
theorem Z1h.pre {w w1 w2 : World} {C : QC} {B : Nat} {t : Tree} {σ' : RS} {e : Ending} (f : RFr w w1 C.rb) (h : Z1h w1 C B t σ' e w2) : Z1h w C B t σ' e w2 := by
 obtain ⟨a, h1, h2, h3, h4⟩ := h;exact ⟨a, h1, h2.pre f, h3, f.trans h4⟩
theorem Z1h.bare {w w1 : World} {C : QC} {B : Nat} {σ : RS} (hBw : B ≤ w.heap.size) (f : RFr w w1 C.rb) (h : QS w1 C σ) : Z1h w C B gT σ (.returned (.pointer (some ⟨w1.heap.size, 0, none⟩))) (w1.alloc (.cells #[.int .i64 0, .string ⟨#[]⟩, .int .i64 0, .slice none 0 0] 44)) :=
 ⟨.mk w1.heap.size (.slice none 0 0) 0 ⟨#[]⟩ 0 [], rfl, Got.leaf hBw f, h.below ((Below.refl _ _).alloc (Nat.le_refl _) _), f.trans (RFr.below ((Below.refl _ _).alloc (Nat.le_refl _) _))⟩
theorem Zij (f : Nat) (hS : Z0y 25 qd .stmt f) : Z0y 55 qd .stmt2 (f + 1) := by
 intro w C B d σ t σ' hQ hr hB hd hp;rw [refF] at hp;have HO := Z1y hQ;have HQ := lh hQ;have HR := lh hr;have HB := lh hB;have HS := lh hS;by_cases hf : σ.f.isNone = true
 ·rw [hf] at HO;rw [if_pos hf] at hp;have HO := lh HO;have HP := lh hp;clear hQ hr hB hS hf hp;unfold qd;go_enter Tryz.func55, Tryz.ntmps55
  go_wp2_with fail
  refine HO.out.mono ?_;rintro e w1 ⟨rfl, rfl⟩;go_wp2_with fail
  refine (HS.out w C B (d + 1) _ _ _ HQ.out HR.out HB.out (by omega) HP.out).mono ?_;rintro e w3 ⟨a, rfl, h2, h3, h4⟩;have H2 := lh h2;have H3 := lh h3;have H4 := lh h4;clear h2 h3 h4;go_wp2;go_ret;exact ⟨a, rfl, H2.out, H3.out, H4.out⟩
 ·have hf : σ.f.isNone = false := Bool.eq_false_iff.2 hf;rw [hf] at HO;rw [if_neg (by rw [hf]; decide)] at hp;obtain ⟨rfl, rfl⟩ : gT = t ∧ σ = σ' := by simpa using hp
  have HO := lh HO;clear hQ hr hB hS hf hp;unfold qd;go_enter Tryz.func55, Tryz.ntmps55
  go_wp2_with fail
  refine HO.out.mono ?_;rintro e w1 ⟨rfl, rfl⟩;go_wp2;go_ret;exact Z1h.bare HB.out (RFr.refl _ _) HQ.out
theorem Zjh (f : Nat) (hV : Z0y 57 qd .value f) : Z0y 54 qd .head (f + 1) := by
 intro w C B d σ t σ' hQ hr hB hd hp;rw [refF] at hp;obtain ⟨x, σ1, hv, h2⟩ := Zf hp;obtain ⟨rfl, rfl⟩ : x = t ∧ Z08 Z06 σ1 = σ' := by simpa using h2
 have HM := lh (Z04 hQ Z05 B hr hB);have HR := lh hr;have HB := lh hB;have HS := lh hV;have HP := lh hv;clear hQ hr hB hV hp h2 hv;unfold qd;go_enter Tryz.func54, Tryz.ntmps54
 go_wp2_with fail
 refine HM.out.mono ?_;rintro e w1 ⟨rfl, h3, h4⟩;have Q1 := lh h3;have F1 := lh h4;clear h3 h4 HM;go_wp2_with fail
 refine (HS.out w1 C B (d + 1) _ _ _ Q1.out HR.out (Nat.le_trans HB.out F1.out.size) (by omega) HP.out).mono ?_;rintro e w2 ⟨a, rfl, h2, h3, h4⟩;have G2 := lh h2;have Q2 := lh h3;have F2 := lh (F1.out.trans h4);clear h2 h3 h4;go_wp2_with fail
 refine (Z04 Q2.out Z06 B HR.out (Nat.le_trans HB.out F2.out.size)).mono ?_;rintro e w3 ⟨rfl, h3, h4⟩;have Q3 := lh h3;have F3 := lh h4;clear h3 h4;go_wp2;go_ret;exact ⟨a, rfl, (G2.out.pre F1.out).rfr HR.out F3.out, Q3.out, F2.out.trans F3.out⟩
theorem Z5v {P : Nat → Prop} (h : ∃ g, P g) : ∃ m, P m ∧ ∀ k, P k → m ≤ k := by
 obtain ⟨g, hg⟩ := h;induction g using Nat.strongRecOn with
 | ind g ih =>
   by_cases h : ∃ k, k < g ∧ P k
   ·obtain ⟨k, hk, hp⟩ := h;exact ih k hk hp
   ·exact ⟨g, hg, fun k hk => Nat.le_of_not_lt fun hl => h ⟨k, hl, hk⟩⟩
open Classical in
noncomputable def least (P : Nat → Prop) : Nat := if h : ∃ g, P g then Classical.choose (Z5v h) else 0
theorem Z3j {P : Nat → Prop} (h : ∃ g, P g) : P (least P) := by
 unfold least;rw [dif_pos h];exact (Classical.choose_spec (Z5v h)).1
theorem Z22 {P : Nat → Prop} {g : Nat} (h : P g) : least P ≤ g := by
 unfold least;rw [dif_pos ⟨g, h⟩];exact (Classical.choose_spec (Z5v ⟨g, h⟩)).2 g h
theorem Zgj (c : Int) (σ : RS) : (Z2q c σ).f.isNone = false := by
 unfold Z2q;cases h : σ.f with
 | none => simp
 | some x => simp [h]
def Zjt (w0 : World) (C : QC) (B : Nat) (ts : List Tree) (σ' : RS) (e : Ending) (w' : World) : Prop :=
 ∃ v kids, e = .returned v ∧ ListAt w0 B w' v kids ts ∧ QS w' C σ' ∧ RFr w0 w' C.rb ∧ ts.length ≤ 8
theorem ListAt.len {w0 w : World} {B : Nat} {v : Value} {kids : List ATree} {ts : List Tree} (L : ListAt w0 B w v kids ts) : kids.length = ts.length := by rw [← L.ks.tree, Z2d, List.length_map]
theorem ListAt.slice {w0 w : World} {B : Nat} {v : Value} {kids : List ATree} {ts : List Tree} (L : ListAt w0 B w v kids ts) : ∃ p cp, v = .slice p ts.length cp := by
 rw [← L.len];rcases Zc L.row with ⟨h1, h2⟩ | ⟨g0, cap0, h1, _⟩;·exact ⟨none, 0, by rw [h1, h2]⟩
 ·exact ⟨_, _, h1⟩
def LInv (w0 : World) (C : QC) (B d : Nat) (J : List Tree → RJob) (t : Tree) (σ' : RS) (g : Nat) (v : Value) (wr : World) : Prop :=
 ∃ (acc : List Tree) (kids : List ATree) (σ : RS), refF g (J acc) d σ = some (t, σ') ∧ ListAt w0 B wr v kids acc ∧ QS wr C σ ∧ RFr w0 wr C.rb ∧ acc.length ≤ 8
theorem Zfn (F d : Nat) (K : FuncId) (caps : Array Value) (s : ByteArray) (J : List Tree → RJob) (item : Nat → RS → RR)
 (he : ∀ (args : Array Value) (w : World), (callFunc K args).run Tryz.prog w = .ok (.enter K args) w)
 (hstep : ∀ g acc σ, refF (g + 1) (J acc) d σ = if (σ.f.isNone && !Zg s σ) = true then (if (Z4w (decide (acc.length = 8)) (Z3f (decide (0 < acc.length)) σ)).f.isNone = true then Z03 (item g (Z4w (decide (acc.length = 8)) (Z3f (decide (0 < acc.length)) σ))) fun x σ' => refF g (J (acc ++ [x])) d σ' else refF g (J acc) d (Z4w (decide (acc.length = 8)) (Z3f (decide (0 < acc.length)) σ))) else some (.mk 0 ByteArray.empty 0 acc, Z08 s σ))
 (w0 : World) (C : QC) (B : Nat) (hr : C.rb < B) (hB : B ≤ w0.heap.size)
 (hcall : ∀ g, g < F → ∀ w σ x σ', RFr w0 w C.rb → QS w C σ → item g σ = some (x, σ') → Calls Tryz.prog K caps w (Z1h w C B x σ'))
 (σ : RS) (hQ : QS w0 C σ) (t : Tree) (σ' : RS) (hp : refF F (J []) d σ = some (t, σ')) :
 Calls Tryz.prog 76 #[.pointer (some ⟨C.rb, 0, none⟩), .string s, .func (.func K) #[] caps] w0 (Zjt w0 C B t.kids σ') := by
 have HSTEP := lh hstep;have HE := lh he;have HCALL := lh hcall;have HR := lh hr;have HB := lh hB;have ST := lh (show ∃ g, g ≤ F ∧ LInv w0 C B d J t σ' g (.slice none 0 0) w0 from ⟨F, Nat.le_refl _, [], [], σ, hp, ListAt.nil, hQ, RFr.refl _ _, by simp⟩);clear he hstep hcall hr hB hQ hp;go_enter Tryz.func76, Tryz.ntmps76
 go_wp2_with fail
 go_loopw [7] (fun v wr => ∃ g, g ≤ F ∧ LInv w0 C B d J t σ' g v wr) (fun v wr => least fun g => g ≤ F ∧ LInv w0 C B d J t σ' g v wr)
 case atStart => exact ST.out
 case round =>
  have hI := Z3j hrel;clear ST;obtain ⟨g, hg⟩ : ∃ g, g = least fun g => g ≤ F ∧ LInv w0 C B d J t σ' g u7 wr := ⟨_, rfl⟩
  rw [← hg] at hI;have HG := lh hg;clear hg hrel;obtain ⟨hgF, acc, kids, σ, hp, hL, hQ, hF, h8⟩ := hI;cases g with
  | zero => simp [refF] at hp
  | succ g =>
  rw [HSTEP.out] at hp;have HO := Z1y hQ;have HN := Zd hQ s;obtain ⟨p, cp, rfl⟩ := hL.slice;have HL := lh hL;have HQ := lh hQ;have HF := lh hF;have H8 := lh h8;have HGF := lh hgF;by_cases hf : σ.f.isNone = true;rotate_left
  ·have hf : σ.f.isNone = false := Bool.eq_false_iff.2 hf;rw [hf] at HO;rw [if_neg (by simp [hf])] at hp;simp only [Option.some.injEq, Prod.mk.injEq] at hp;have HO := lh HO;have HP := lh hp;clear hL hQ hF h8 hgF hf hp HN;go_wp2_with fail
   refine HO.out.mono ?_;rintro e w1 ⟨rfl, rfl⟩;go_wp2_with fail
   refine (Z04 HQ.out s B HR.out (Nat.le_trans HB.out HF.out.size)).mono ?_;rintro e w2 ⟨rfl, h2, h3⟩;have Q2 := lh h2;have F2 := lh h3;clear h2 h3;go_wp2;go_ret;obtain ⟨h4, h5⟩ := HP.out;refine ⟨_, kids, rfl, ?_, by rw [← h5]; exact Q2.out, HF.out.trans F2.out, by rw [← h4]; exact H8.out⟩;rw [← h4];exact HL.out.rfr HR.out F2.out
  rw [hf] at HO;by_cases hn : Zg s σ = true
  ·rw [hn] at HN;rw [if_neg (by simp [hn])] at hp;simp only [Option.some.injEq, Prod.mk.injEq] at hp;have HO := lh HO;have HN := lh HN;have HP := lh hp;clear hL hQ hF h8 hgF hf hn hp;go_wp2_with fail
   refine HO.out.mono ?_;rintro e w1 ⟨rfl, rfl⟩;go_wp2_with fail
   refine HN.out.mono ?_;rintro e w1 ⟨rfl, hb1⟩;have Q1 := lh (HQ.out.below hb1);have F1 := lh (RFr.below (rb := C.rb) hb1);clear hb1;go_wp2_with fail
   refine (Z04 Q1.out s B HR.out (Nat.le_trans HB.out (HF.out.trans F1.out).size)).mono ?_;rintro e w2 ⟨rfl, h2, h3⟩;have Q2 := lh h2;have F2 := lh (F1.out.trans h3);clear h2 h3;go_wp2;go_ret;obtain ⟨h4, h5⟩ := HP.out;refine ⟨_, kids, rfl, ?_, by rw [← h5]; exact Q2.out, HF.out.trans F2.out, by rw [← h4]; exact H8.out⟩;rw [← h4];exact HL.out.rfr HR.out F2.out
  have hn : Zg s σ = false := by simpa using hn
  rw [hn] at HN;rw [if_pos (by simp [hn, hf])] at hp;have HO := lh HO;have HN := lh HN;have HK := lh (hL.len);obtain ⟨i0, hi, hz0, hz1, hz2⟩ := info_parts Tryz.infoPtr;clear hL hQ hF h8 hgF hn;by_cases h0 : acc.length = 0
  ·have a0 : decide (0 < acc.length) = false := by simp [h0]
   have n8 : ((acc.length : Int) == 8) = false := by simp [h0]
   have d8 : decide (acc.length = 8) = false := by simp [h0]
   rw [a0, d8] at hp;simp only [Z4w, Z3f, Bool.false_eq_true, if_false] at hp;rw [if_pos hf] at hp;obtain ⟨x, σ3, hit, hrest⟩ := Zf hp;have IT := lh hit;have RE := lh hrest;have H0 := lh h0;have HNE := lh (show acc.length ≠ 8 by omega);have HFF := lh hf;clear hp hit hrest d8 h0 hf;go_wp2_with fail
   refine HO.out.mono ?_;rintro e w1 ⟨rfl, rfl⟩;go_wp2_with fail
   refine HN.out.mono ?_;rintro e w1 ⟨rfl, hb1⟩;have Q1 := lh (HQ.out.below hb1);have F1 := lh (HF.out.trans (RFr.below (rb := C.rb) hb1));have L1 := lh (HL.out.rfr HR.out (RFr.below (rb := C.rb) hb1));clear hb1 HO HN HQ HF HL;go_wp2_with fail
   have HO2 := Z1y Q1.out;rw [HFF.out] at HO2;refine HO2.mono ?_;rintro e w2 ⟨rfl, rfl⟩;go_wp2_with fail
   rw [HE.out, Oper.upon_enter];refine (HCALL.out g (by have := HGF.out; omega) w1 σ x σ3 F1.out Q1.out IT.out).mono ?_;rintro e w2 ⟨a, rfl, h2, h3, h4⟩;have A2 := lh h2;have Q2 := lh h3;have F2 := lh h4;have L2 := lh (L1.out.rfr HR.out h4);clear h2 h3 h4 Q1
   go_wp2_with (at_builtin; go_must (refine wpList_append_lies _ rfl (.tmp 28) (.tmp 31) 42 rfl B 22 i0 _ 1 8 Tryz.underlying42 hi hz0 hz1 hz2 rfl (by decide) (.slice p acc.length cp) kids.length (kids.map ATree.ptr) rfl (L2.out.row.alloc _) ⟨w2.heap.size, 0, none⟩ 1 1 [a.ptr] rfl rfl (World.news_of_block (cs := #[a.ptr]) (t := 22) (fr := (0, 0)) (heap_alloc_new w2 _)) (by simp [ATree.ptr, Value.oneCell']) (by decide) (by have := HK.out; have := H8.out; unfold maxLen; omega) (by have := HK.out; have := H8.out; omega) (by simp; have := F1.out.size; have := F2.out.size; have := HB.out; omega) (w2.heap.size + 1) (by simp) ?_); intro gg cap w4 hown2 hgrow2 hat2 hgl2)
   have hpush := L2.out.push (wA := w1) (fun y hy => (L1.out.ks.new y hy).2) (fun y hy => (L1.out.own y hy).2.1) A2.out F1.out.size F2.out.size ((Below.refl _ _).alloc (Nat.le_refl _) _) hgrow2 hown2 (by rcases hat2 with h | h; (exact .inl h); (exact .inr (by omega))) hgl2 (F1.out.trans F2.out);have hinv : g ≤ F ∧ LInv w0 C B d J t σ' g (.slice (some ⟨gg, 0, none⟩) (kids.length + 1) cap) w4 :=
    ⟨by have := HGF.out; omega, acc ++ [x], kids ++ [a], σ3, RE.out, hpush.1, Q2.out.keep fun k hk => hpush.2.1 k (by have := Q2.out.rlt; omega) (fun e => by have h1 := (L2.out.own k e).1; have h2 := HR.out; have h3 := HB.out; omega), hpush.2.2.2, by have := H8.out; have := HNE.out; simp; omega⟩
   exact ⟨⟨g, hinv⟩, by rw [← HG.out]; exact Nat.lt_succ_of_le (Z22 hinv)⟩
  ·have a0 : decide (0 < acc.length) = true := by simp; omega
   rw [a0] at hp;simp only [Z3f, if_true] at hp;have H0 := lh h0;have HFF := lh hf;have b0 : acc.length > 0 := by omega
   by_cases h88 : acc.length = 8
   ·have n8 : ((acc.length : Int) == 8) = true := by simp [h88]
    have d8 : decide (acc.length = 8) = true := by simp [h88]
    rw [d8] at hp;simp only [Z4w, if_true] at hp;rw [if_neg (by rw [Zgj]; decide)] at hp;have RE := lh hp;clear hp d8 h0 h88 hf;go_wp2_with fail
    refine HO.out.mono ?_;rintro e w1 ⟨rfl, rfl⟩;go_wp2_with fail
    refine HN.out.mono ?_;rintro e w1 ⟨rfl, hb1⟩;have Q1 := lh (HQ.out.below hb1);have F1 := lh (HF.out.trans (RFr.below (rb := C.rb) hb1));have L1 := lh (HL.out.rfr HR.out (RFr.below (rb := C.rb) hb1));clear hb1 HO HN HQ HF HL;go_wp2_with fail
    refine (Z04 Q1.out Z0p B HR.out (Nat.le_trans HB.out F1.out.size)).mono ?_;rintro e w2 ⟨rfl, h2, h3⟩;have Q2 := lh h2;have F2 := lh (F1.out.trans h3);have L2 := lh (L1.out.rfr HR.out h3);clear h2 h3 Q1 F1 L1;go_wp2_with fail
    refine (Z2h Q2.out 4 (by decide) B HR.out (Nat.le_trans HB.out F2.out.size)).mono ?_;rintro e w3 ⟨a, rfl, _, h2, h3⟩;have Q3 := lh h2;have F3 := lh (F2.out.trans h3);have L3 := lh (L2.out.rfr HR.out h3);clear h2 h3 Q2 F2 L2;go_wp2_with fail
    have HO2 := Z1y Q3.out;rw [Zgj] at HO2;refine HO2.mono ?_;rintro e w4 ⟨rfl, rfl⟩;clear HO2;go_wp2;have hinv : g ≤ F ∧ LInv w0 C B d J t σ' g (.slice p acc.length cp) w3 := ⟨by have := HGF.out; omega, acc, kids, _, RE.out, L3.out, Q3.out, F3.out, H8.out⟩
    exact ⟨⟨g, hinv⟩, by rw [← HG.out]; exact Nat.lt_succ_of_le (Z22 hinv)⟩
   ·have n8 : ((acc.length : Int) == 8) = false := by simp; omega
    have d8 : decide (acc.length = 8) = false := by simp [h88]
    rw [d8] at hp;simp only [Z4w, Bool.false_eq_true, if_false] at hp;have HNE := lh h88;by_cases hf2 : (Z08 Z0p σ).f.isNone = true
    ·rw [if_pos hf2] at hp;obtain ⟨x, σ3, hit, hrest⟩ := Zf hp;have IT := lh hit;have RE := lh hrest;have HF2 := lh hf2;clear hp hit hrest d8 h0 hf h88 hf2;go_wp2_with fail
     refine HO.out.mono ?_;rintro e w1 ⟨rfl, rfl⟩;go_wp2_with fail
     refine HN.out.mono ?_;rintro e w1 ⟨rfl, hb1⟩;have Q1 := lh (HQ.out.below hb1);have F1 := lh (HF.out.trans (RFr.below (rb := C.rb) hb1));have L1 := lh (HL.out.rfr HR.out (RFr.below (rb := C.rb) hb1));clear hb1 HO HN HQ HF HL;go_wp2_with fail
     refine (Z04 Q1.out Z0p B HR.out (Nat.le_trans HB.out F1.out.size)).mono ?_;rintro e w1' ⟨rfl, h2, h3⟩;replace Q1 := lh h2
     replace F1 := lh (F1.out.trans h3)
     replace L1 := lh (L1.out.rfr HR.out h3)
     clear h2 h3;go_wp2_with fail
     have HO2 := Z1y Q1.out;rw [HF2.out] at HO2;refine HO2.mono ?_;rintro e w2 ⟨rfl, rfl⟩;clear HO2;go_wp2_with fail
     rw [HE.out, Oper.upon_enter];refine (HCALL.out g (by have := HGF.out; omega) w1' _ x σ3 F1.out Q1.out IT.out).mono ?_;rintro e w2 ⟨a, rfl, h2, h3, h4⟩;have A2 := lh h2;have Q2 := lh h3;have F2 := lh h4;have L2 := lh (L1.out.rfr HR.out h4);clear h2 h3 h4 Q1
     go_wp2_with (at_builtin; go_must (refine wpList_append_lies _ rfl (.tmp 28) (.tmp 31) 42 rfl B 22 i0 _ 1 8 Tryz.underlying42 hi hz0 hz1 hz2 rfl (by decide) (.slice p acc.length cp) kids.length (kids.map ATree.ptr) rfl (L2.out.row.alloc _) ⟨w2.heap.size, 0, none⟩ 1 1 [a.ptr] rfl rfl (World.news_of_block (cs := #[a.ptr]) (t := 22) (fr := (0, 0)) (heap_alloc_new w2 _)) (by simp [ATree.ptr, Value.oneCell']) (by decide) (by have := HK.out; have := H8.out; unfold maxLen; omega) (by have := HK.out; have := H8.out; omega) (by simp; have := F1.out.size; have := F2.out.size; have := HB.out; omega) (w2.heap.size + 1) (by simp) ?_); intro gg cap w4 hown2 hgrow2 hat2 hgl2)
     have hpush := L2.out.push (wA := w1') (fun y hy => (L1.out.ks.new y hy).2) (fun y hy => (L1.out.own y hy).2.1) A2.out F1.out.size F2.out.size ((Below.refl _ _).alloc (Nat.le_refl _) _) hgrow2 hown2 (by rcases hat2 with h | h; (exact .inl h); (exact .inr (by omega))) hgl2 (F1.out.trans F2.out);have hinv : g ≤ F ∧ LInv w0 C B d J t σ' g (.slice (some ⟨gg, 0, none⟩) (kids.length + 1) cap) w4 :=
      ⟨by have := HGF.out; omega, acc ++ [x], kids ++ [a], σ3, RE.out, hpush.1, Q2.out.keep fun k hk => hpush.2.1 k (by have := Q2.out.rlt; omega) (fun e => by have h1 := (L2.out.own k e).1; have h2 := HR.out; have h3 := HB.out; omega), hpush.2.2.2, by have := H8.out; have := HNE.out; simp; omega⟩
     exact ⟨⟨g, hinv⟩, by rw [← HG.out]; exact Nat.lt_succ_of_le (Z22 hinv)⟩
    ·have hf2 : (Z08 Z0p σ).f.isNone = false := Bool.eq_false_iff.2 hf2;rw [if_neg (by simp [hf2])] at hp;have RE := lh hp;have HF2 := lh hf2;clear hp d8 h0 hf h88 hf2;go_wp2_with fail
     refine HO.out.mono ?_;rintro e w1 ⟨rfl, rfl⟩;go_wp2_with fail
     refine HN.out.mono ?_;rintro e w1 ⟨rfl, hb1⟩;have Q1 := lh (HQ.out.below hb1);have F1 := lh (HF.out.trans (RFr.below (rb := C.rb) hb1));have L1 := lh (HL.out.rfr HR.out (RFr.below (rb := C.rb) hb1));clear hb1 HO HN HQ HF HL;go_wp2_with fail
     refine (Z04 Q1.out Z0p B HR.out (Nat.le_trans HB.out F1.out.size)).mono ?_;rintro e w3 ⟨rfl, h2, h3⟩;have Q3 := lh h2;have F3 := lh (F1.out.trans h3);have L3 := lh (L1.out.rfr HR.out h3);clear h2 h3 Q1 F1 L1;go_wp2_with fail
     have HO2 := Z1y Q3.out;rw [HF2.out] at HO2;refine HO2.mono ?_;rintro e w2 ⟨rfl, rfl⟩;clear HO2;go_wp2;have hinv : g ≤ F ∧ LInv w0 C B d J t σ' g (.slice p acc.length cp) w3 := ⟨by have := HGF.out; omega, acc, kids, _, RE.out, L3.out, Q3.out, F3.out, H8.out⟩
     exact ⟨⟨g, hinv⟩, by rw [← HG.out]; exact Nat.lt_succ_of_le (Z22 hinv)⟩
end Go.Proofs.YtgmnfgljkocnpaaGreatDoor
