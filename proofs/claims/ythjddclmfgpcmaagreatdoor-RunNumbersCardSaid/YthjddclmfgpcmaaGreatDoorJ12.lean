/- The document's parser: kids that lie apart; nodes of them. The document's parser: statement2, head. Package tree: what the reader throws; want, name, node, within. Package tree: value, end, around, block. -/
import Derived.Test.YthjddclmfgpcmaaGreatDoorJ11
import Derived.Test.YthjddclmfgpcmaaGreatDoorJ09
namespace Go.Proofs.YthjddclmfgpcmaaGreatDoor
open Go Go.RowKit
set_option maxRecDepth 100000
set_option linter.unusedVariables false

/-- kids that lie apart, made since w0 -/
structure KidsAt (w0 : World) (B : Nat) (w : World) (kids : List ATree) (ts : List Tree) : Prop where
 tree : treeL kids = ts
 at' : ∀ a ∈ kids, TreeAt w B a
 nodup : (blocksL kids).Nodup
 new : ∀ x ∈ blocksL kids, w0.heap.size ≤ x ∧ x < w.heap.size
/-- with their row -/
structure ListAt (w0 : World) (B : Nat) (w : World) (v : Value) (kids : List ATree) (ts : List Tree) : Prop where
 ks : KidsAt w0 B w kids ts
 row : w.ownsRow B 22 1 v kids.length (kids.map ATree.ptr)
 own : ∀ g, v.ownBlock = some g → w0.heap.size ≤ g ∧ g < w.heap.size ∧ g ∉ blocksL kids
section
variable {w0 w w' w1 w2 wA : World} {B rb : Nat} {v : Value} {kids : List ATree} {ts : List Tree} {a : ATree} {t : Tree} {k n : Int} {tx : ByteArray} {b : Nat}
theorem KidsAt.nil : KidsAt w0 B w [] [] := ⟨rfl, fun a ha => (by cases ha), by simp [blocksL], fun x hx => by simp [blocksL] at hx⟩
theorem KidsAt.rfr (h : KidsAt w0 B w kids ts) (hr : rb < B) (f : RFr w w' rb) : KidsAt w0 B w' kids ts :=
 ⟨h.tree, fun a ha => (h.at' a ha).rfr hr f, h.nodup, fun x hx => ⟨(h.new x hx).1, Nat.lt_of_lt_of_le (h.new x hx).2 f.size⟩⟩
theorem KidsAt.pre (h : KidsAt w1 B w kids ts) (f : w0.heap.size ≤ w1.heap.size) : KidsAt w0 B w kids ts :=
 ⟨h.tree, h.at', h.nodup, fun x hx => ⟨Nat.le_trans f (h.new x hx).1, (h.new x hx).2⟩⟩
theorem KidsAt.add (h : KidsAt w0 B w kids ts) (hA : ∀ x ∈ blocksL kids, x < wA.heap.size) (A : Got wA B w a t) (h0 : w0.heap.size ≤ wA.heap.size) : KidsAt w0 B w (kids ++ [a]) (ts ++ [t]) := by
 refine ⟨by rw [treeL_app, h.tree]; simp [treeL, A.tree], fun x hx => ?_, ?_, fun x hx => ?_⟩
 ·rcases List.mem_append.1 hx with hx | hx
  ·exact h.at' x hx
  ·simp only [List.mem_singleton] at hx; subst hx; exact A.at'
 ·rw [blocksL_app]
  simp only [blocksL, List.append_nil, List.nodup_append]
  exact ⟨h.nodup, A.nodup, fun x hx y hy e => by have h1 := hA x hx; have h2 := A.new y hy; omega⟩
 ·rw [blocksL_app] at hx
  simp only [blocksL, List.append_nil, List.mem_append] at hx
  rcases hx with hx | hx
  ·exact h.new x hx
  ·have := A.new x hx; omega
theorem KidsAt.one (A : Got w0 B w a t) : KidsAt w0 B w [a] [t] := KidsAt.nil.add (kids := []) (ts := []) (wA := w0) (fun x hx => by simp [blocksL] at hx) A (Nat.le_refl _)
/-- the first made before wA, the second since -/
theorem KidsAt.two {a2 : ATree} {t2 : Tree} (A : Got w0 B w a t) (hA : ∀ x ∈ a.blocks, x < wA.heap.size) (h0 : w0.heap.size ≤ wA.heap.size) (A2 : Got wA B w a2 t2) : KidsAt w0 B w [a, a2] [t, t2] :=
 (KidsAt.one A).add (wA := wA) (fun x hx => hA x (by simpa [blocksL] using hx)) A2 h0
theorem ListAt.nil : ListAt w0 B w (.slice none 0 0) [] [] := ⟨KidsAt.nil, World.ownsRow_nil _ _ _ _, fun g hg => by simp [Value.ownBlock] at hg⟩
theorem ListAt.rfr (h : ListAt w0 B w v kids ts) (hr : rb < B) (f : RFr w w' rb) : ListAt w0 B w' v kids ts :=
 ⟨h.ks.rfr hr f, ownsRow_block h.row fun g hg => f.block g (h.own g hg).2.1 (by have := (h.row.lt g hg).1; omega), fun g hg => ⟨(h.own g hg).1, Nat.lt_of_lt_of_le (h.own g hg).2.1 f.size, (h.own g hg).2.2⟩⟩
theorem ListAt.pre (h : ListAt w1 B w v kids ts) (f : w0.heap.size ≤ w1.heap.size) : ListAt w0 B w v kids ts :=
 ⟨h.ks.pre f, h.row, fun g hg => ⟨Nat.le_trans f (h.own g hg).1, (h.own g hg).2⟩⟩
/-- a row laid at once -/
theorem KidsAt.lit (h : KidsAt w0 B w kids ts) (hBw : B ≤ w.heap.size) (h0 : w0.heap.size ≤ w.heap.size) (hl : kids.length ≤ 1000) :
 ListAt w0 B (w.alloc (.cells (kids.map ATree.ptr).toArray 22)) (.slice (some ⟨w.heap.size, 0, none⟩) kids.length kids.length) kids ts := by
 have hal : Below w.heap.size w (w.alloc (.cells (kids.map ATree.ptr).toArray 22)) := (Below.refl _ _).alloc (Nat.le_refl _) _
 refine ⟨⟨h.tree, fun a ha => (h.at' a ha).bel hal, h.nodup, fun x hx => ⟨(h.new x hx).1, Nat.lt_of_lt_of_le (h.new x hx).2 hal.size⟩⟩, row_new hBw hl, fun g hg => ?_⟩
 simp only [Value.ownBlock, Option.some.injEq] at hg
 subst hg
 exact ⟨h0, by simp, fun hm => by have := (h.new _ hm).2; omega⟩
/-- one more behind the others -/
theorem ListAt.push {g cap : Nat} (L : ListAt w0 B w v kids ts) (hLA : ∀ x ∈ blocksL kids, x < wA.heap.size) (hvA : ∀ x, v.ownBlock = some x → x < wA.heap.size) (A : Got wA B w a t) (h0 : w0.heap.size ≤ wA.heap.size) (hAw : wA.heap.size ≤ w.heap.size)
 (hB1 : Below w.heap.size w w1) (hg : w1.grownBy w2 v.ownBlock) (hown : w2.ownsRow B 22 1 (.slice (some ⟨g, 0, none⟩) (kids.length + 1) cap) (kids.length + 1) (kids.map ATree.ptr ++ [a.ptr]))
 (hat : v.ownBlock = some g ∨ w.heap.size ≤ g) (hgl : g < w2.heap.size) (hF : RFr w0 w rb) :
 ListAt w0 B w2 (.slice (some ⟨g, 0, none⟩) (kids.length + 1) cap) (kids ++ [a]) (ts ++ [t]) ∧ (∀ x, x < w.heap.size → v.ownBlock ≠ some x → w2.heap[x]? = w.heap[x]?) ∧ w.heap.size ≤ w2.heap.size ∧
  RFr w0 w2 rb := by
 have hs1 : w.heap.size ≤ w2.heap.size := Nat.le_trans hB1.size hg.size
 have far : ∀ x, x < w.heap.size → v.ownBlock ≠ some x → w2.heap[x]? = w.heap[x]? := fun x hx hn => (hg.block x (Nat.lt_of_lt_of_le hx hB1.size) (fun e => hn e.symm)).trans (hB1.block x hx)
 have hv : ∀ x, v.ownBlock = some x → w0.heap.size ≤ x ∧ x < wA.heap.size := fun x hx => ⟨(L.own x hx).1, hvA x hx⟩
 have hgk : g ∉ blocksL kids := fun hm => by
  rcases hat with h | h
  ·exact (L.own g h).2.2 hm
  ·have := (L.ks.new g hm).2; omega
 have hga : g ∉ a.blocks := fun hm => by
  have h1 := A.new g hm
  rcases hat with h | h
  ·have := hv g h; omega
  ·omega
 have hg0 : w0.heap.size ≤ g := by
  rcases hat with h | h
  ·exact (hv g h).1
  ·have := hF.size; omega
 have hkeep : ∀ x ∈ blocksL kids, w2.heap[x]? = w.heap[x]? := fun x hx => far x (L.ks.new x hx).2 fun e => (L.own x e).2.2 hx
 have hkeepA : ∀ x ∈ a.blocks, w2.heap[x]? = w.heap[x]? := fun x hx => far x (A.new x hx).2 fun e => by have h1 := hv x e; have h2 := A.new x hx; omega
 refine ⟨⟨⟨?_, fun x hx => ?_, ?_, fun x hx => ?_⟩, ?_, fun g' hg' => ?_⟩, far, hs1, ⟨?_, ?_, ?_, ?_, ?_⟩⟩
 ·rw [treeL_app, L.ks.tree]; simp [treeL, A.tree]
 ·rcases List.mem_append.1 hx with hx | hx
  ·refine (L.ks.at' x hx).keepB fun y hy => hkeep y ?_
   rw [blocksL_flat]; exact List.mem_flatMap.2 ⟨x, hx, hy⟩
  ·simp only [List.mem_singleton] at hx; subst hx; exact A.at'.keepB hkeepA
 ·rw [blocksL_app]
  simp only [blocksL, List.append_nil, List.nodup_append]
  exact ⟨L.ks.nodup, A.nodup, fun x hx y hy e => by have h1 := hLA x hx; have h2 := A.new y hy; omega⟩
 ·rw [blocksL_app] at hx
  simp only [blocksL, List.append_nil, List.mem_append] at hx
  rcases hx with hx | hx
  ·have := L.ks.new x hx; omega
  ·have := A.new x hx; omega
 ·rw [List.length_append, List.map_append]; exact hown
 ·simp only [Value.ownBlock, Option.some.injEq] at hg'
  subst hg'
  refine ⟨hg0, hgl, fun hm => ?_⟩
  rw [blocksL_app] at hm
  simp only [blocksL, List.append_nil, List.mem_append] at hm
  exact hm.elim hgk hga
 ·exact (hg.os.trans hB1.os).trans hF.os
 ·exact (hg.tape.trans hB1.tape).trans hF.tape
 ·exact (hg.output.trans hB1.output).trans hF.output
 ·have := hF.size; omega
 ·intro x hx hn
  have := hF.size
  exact (far x (by omega) (fun e => by have := hv x e; omega)).trans (hF.block x hx hn)
/-- a node of a row -/
theorem ListAt.node (L : ListAt w0 B w v kids ts) (hBw : B ≤ w.heap.size) (h0 : w0.heap.size ≤ w.heap.size) :
 Got w0 B (w.alloc (.cells #[.int .i64 k, .string tx, .int .i64 n, v] 30)) (.mk w.heap.size v k tx n kids) (.mk k tx n ts) := by
 refine ⟨by simp [ATree.tree, L.ks.tree], TreeAt.new hBw L.row L.ks.at', ?_, fun x hx => ?_⟩
 ·simp only [ATree.blocks, List.nodup_cons, List.mem_append, List.nodup_append, Option.mem_toList, not_or]
  refine ⟨⟨fun e => by have := (L.own _ e).2.1; omega, fun hm => by have := (L.ks.new _ hm).2; omega⟩, ?_, L.ks.nodup, fun x hx y hy e => ?_⟩
  ·cases v.ownBlock <;> simp
  ·subst e; exact (L.own x hx).2.2 hy
 ·simp only [ATree.blocks, List.mem_cons, List.mem_append, Option.mem_toList] at hx
  rw [World.size_alloc]
  rcases hx with rfl | hx | hx
  ·omega
  ·have := L.own x hx; omega
  ·have := L.ks.new x hx; omega
/-- a node without kids gets its kind -/
theorem Got.kind0 {k' : Int} {l : List Tree} (hr : rb < B) (hB0 : B ≤ w0.heap.size) (N : Got w0 B w (.mk b v k tx n kids) (.mk k tx n l)) (F : RFr w0 w rb) :
 Got w0 B (w.setCell ⟨b, 0, none⟩ (.int .i64 k')) (.mk b v k' tx n kids) (.mk k' tx n l) ∧ RFr w0 (w.setCell ⟨b, 0, none⟩ (.int .i64 k')) rb ∧ (∀ x, x < B → (w.setCell ⟨b, 0, none⟩ (.int .i64 k')).heap[x]? = w.heap[x]?) := by
 have hnd := N.nodup
 simp only [ATree.blocks, List.nodup_cons, List.mem_append, Option.mem_toList, not_or] at hnd
 obtain ⟨⟨hb1, hb2⟩, _⟩ := hnd
 have hb0 : w0.heap.size ≤ b := (N.new b (by simp [ATree.blocks])).1
 have hsz : (w.setCell ⟨b, 0, none⟩ (.int .i64 k')).heap.size = w.heap.size := World.size_setCell ..
 have far : ∀ x, x ≠ b → (w.setCell ⟨b, 0, none⟩ (.int .i64 k')).heap[x]? = w.heap[x]? := fun x hx => Below.heap_setCell _ _ _ _ hx
 refine ⟨⟨?_, ?_, N.nodup, ?_⟩, ⟨F.os, F.tape, F.output, by rw [hsz]; exact F.size, fun x hx hn => (far x (by omega)).trans (F.block x hx hn)⟩, fun x hx => far x (by omega)⟩
 ·have := N.tree
  simp only [ATree.tree, Tree.mk.injEq, true_and] at this ⊢
  exact this
 ·refine .mk (setCell_block (o := 0) _ N.at'.blkOf) N.at'.le (ownsRow_block N.at'.rowOf fun g hg => far g (fun e => hb1 (by rw [← e]; exact hg))) fun x hx => ?_
  have hT := N.at'.kid (k := x) hx
  refine hT.keepB fun y hy => far y fun e => hb2 ?_
  rw [blocksL_flat, ← e]
  exact List.mem_flatMap.2 ⟨x, hx, hy⟩
 ·intro x hx; rw [hsz]; exact N.new x hx
/-- its text -/
theorem Got.text0 {t' : ByteArray} {l : List Tree} (hr : rb < B) (hB0 : B ≤ w0.heap.size) (N : Got w0 B w (.mk b v k tx n kids) (.mk k tx n l)) (F : RFr w0 w rb) :
 Got w0 B (w.setCell ⟨b, 1, none⟩ (.string t')) (.mk b v k t' n kids) (.mk k t' n l) ∧ RFr w0 (w.setCell ⟨b, 1, none⟩ (.string t')) rb ∧ (∀ x, x < B → (w.setCell ⟨b, 1, none⟩ (.string t')).heap[x]? = w.heap[x]?) := by
 have hnd := N.nodup
 simp only [ATree.blocks, List.nodup_cons, List.mem_append, Option.mem_toList, not_or] at hnd
 obtain ⟨⟨hb1, hb2⟩, _⟩ := hnd
 have hb0 : w0.heap.size ≤ b := (N.new b (by simp [ATree.blocks])).1
 have hsz : (w.setCell ⟨b, 1, none⟩ (.string t')).heap.size = w.heap.size := World.size_setCell ..
 have far : ∀ x, x ≠ b → (w.setCell ⟨b, 1, none⟩ (.string t')).heap[x]? = w.heap[x]? := fun x hx => Below.heap_setCell _ _ _ _ hx
 refine ⟨⟨?_, ?_, N.nodup, ?_⟩, ⟨F.os, F.tape, F.output, by rw [hsz]; exact F.size, fun x hx hn => (far x (by omega)).trans (F.block x hx hn)⟩, fun x hx => far x (by omega)⟩
 ·have := N.tree
  simp only [ATree.tree, Tree.mk.injEq, true_and] at this ⊢
  exact this
 ·refine .mk (setCell_block (o := 1) _ N.at'.blkOf) N.at'.le (ownsRow_block N.at'.rowOf fun g hg => far g (fun e => hb1 (by rw [← e]; exact hg))) fun x hx => ?_
  have hT := N.at'.kid (k := x) hx
  refine hT.keepB fun y hy => far y fun e => hb2 ?_
  rw [blocksL_flat, ← e]
  exact List.mem_flatMap.2 ⟨x, hx, hy⟩
 ·intro x hx; rw [hsz]; exact N.new x hx
/-- its kids, a list laid elsewhere -/
theorem Got.kids0 {v' : Value} {kids' : List ATree} {l : List Tree} (hr : rb < B) (hB0 : B ≤ w0.heap.size) (N : TreeAt w B (.mk b v k tx n kids)) (hb0 : w0.heap.size ≤ b) (L : ListAt w0 B w v' kids' l) (h1 : v'.ownBlock ≠ some b) (h2 : b ∉ blocksL kids') (F : RFr w0 w rb) :
 Got w0 B (w.setCell ⟨b, 3, none⟩ v') (.mk b v' k tx n kids') (.mk k tx n l) ∧ RFr w0 (w.setCell ⟨b, 3, none⟩ v') rb ∧ (∀ x, x < B → (w.setCell ⟨b, 3, none⟩ v').heap[x]? = w.heap[x]?) := by
 have hsz : (w.setCell ⟨b, 3, none⟩ v').heap.size = w.heap.size := World.size_setCell ..
 have far : ∀ x, x ≠ b → (w.setCell ⟨b, 3, none⟩ v').heap[x]? = w.heap[x]? := fun x hx => Below.heap_setCell _ _ _ _ hx
 have hbw : b < w.heap.size := N.lt
 refine ⟨⟨?_, ?_, ?_, ?_⟩, ⟨F.os, F.tape, F.output, by rw [hsz]; exact F.size, fun x hx hn => (far x (by omega)).trans (F.block x hx hn)⟩, fun x hx => far x (by omega)⟩
 ·simp [ATree.tree, L.ks.tree]
 ·refine .mk (setCell_block (o := 3) _ N.blkOf) N.le (ownsRow_block L.row fun g hg => far g (fun e => h1 (by rw [← e]; exact hg))) fun x hx => ?_
  refine (L.ks.at' x hx).keepB fun y hy => far y fun e => h2 ?_
  rw [blocksL_flat, ← e]
  exact List.mem_flatMap.2 ⟨x, hx, hy⟩
 ·simp only [ATree.blocks, List.nodup_cons, List.mem_append, List.nodup_append, Option.mem_toList, not_or]
  refine ⟨⟨h1, h2⟩, ?_, L.ks.nodup, fun x hx y hy e => ?_⟩
  ·cases v'.ownBlock <;> simp
  ·subst e; exact (L.own x hx).2.2 hy
 ·intro x hx
  simp only [ATree.blocks, List.mem_cons, List.mem_append, Option.mem_toList] at hx
  rw [hsz]
  rcases hx with rfl | hx | hx
  ·exact ⟨hb0, hbw⟩
  ·have := L.own x hx; omega
  ·exact L.ks.new x hx
/-- what lies behind a block does not hold it -/
theorem ListAt.apart (L : ListAt w1 B w v kids ts) (hb : b < w1.heap.size) : v.ownBlock ≠ some b ∧ b ∉ blocksL kids :=
 ⟨fun e => by have := (L.own b e).1; omega, fun hm => by have := (L.ks.new b hm).1; omega⟩
/-- a node's own list -/
theorem Got.list (N : Got w0 B w (.mk b v k tx n kids) t) : ListAt w0 B w v kids (treeL kids) ∧ v.ownBlock ≠ some b ∧ b ∉ blocksL kids := by
 have hnd := N.nodup
 simp only [ATree.blocks, List.nodup_cons, List.mem_append, List.nodup_append, Option.mem_toList, not_or] at hnd
 obtain ⟨⟨hb1, hb2⟩, _, hk1, hk2⟩ := hnd
 exact ⟨⟨⟨rfl, fun a ha => N.at'.kid (k := a) ha, hk1, fun x hx => N.new x (by simp [ATree.blocks, hx])⟩, N.at'.rowOf, fun g hg => ⟨(N.new g (by simp [ATree.blocks, hg])).1, (N.new g (by simp [ATree.blocks, hg])).2, fun hm => hk2 g hg g hm rfl⟩⟩, hb1, hb2⟩
theorem QS.keep {C : QC} {σ : RS} (h : QS w C σ) (hk : ∀ k, k ≤ C.rb → w'.heap[k]? = w.heap[k]?) : QS w' C σ := by
 obtain ⟨i, e, h⟩ := h
 exact ⟨i, e, h.keep hk⟩
end
/-- what is said of a function that reads -/
def QSays (F : FuncId) (args : Nat → Nat → Array Value) (job : RJob) (f : Nat) : Prop :=
 ∀ (w : World) (C : QC) (B d : Nat) (σ : RS) (t : Tree) (σ' : RS), QS w C σ → C.rb < B → B ≤ w.heap.size → d + f ≤ 1000000000000 → refF f job d σ = some (t, σ') → Calls Tryz.prog F (args C.rb d) w (QPost w C B t σ')
theorem bindR_some {p : RR} {k : Tree → RS → RR} {t : Tree} {σ : RS} (h : bindR p k = some (t, σ)) : ∃ t1 σ1, p = some (t1, σ1) ∧ k t1 σ1 = some (t, σ) := by
 cases p with
 | none => cases h
 | some r => obtain ⟨t1, σ1⟩ := r; exact ⟨t1, σ1, rfl, h⟩
/-- the arguments of most -/
def qd (rb d : Nat) : Array Value := #[.pointer (some ⟨rb, 0, none⟩), .int .i64 d]
theorem QPost.pre {w w1 w2 : World} {C : QC} {B : Nat} {t : Tree} {σ' : RS} {e : Ending} (f : RFr w w1 C.rb) (h : QPost w1 C B t σ' e w2) : QPost w C B t σ' e w2 := by
 obtain ⟨a, h1, h2, h3, h4⟩ := h
 exact ⟨a, h1, h2.pre f, h3, f.trans h4⟩
/-- a bare node handed back -/
theorem QPost.bare {w w1 : World} {C : QC} {B : Nat} {σ : RS} (hBw : B ≤ w.heap.size) (f : RFr w w1 C.rb) (h : QS w1 C σ) : QPost w C B gT σ (.returned (.pointer (some ⟨w1.heap.size, 0, none⟩))) (w1.alloc (.cells #[.int .i64 0, .string ⟨#[]⟩, .int .i64 0, .slice none 0 0] 30)) :=
 ⟨.mk w1.heap.size (.slice none 0 0) 0 ⟨#[]⟩ 0 [], rfl, Got.leaf hBw f, h.below ((Below.refl _ _).alloc (Nat.le_refl _) _), f.trans (RFr.below ((Below.refl _ _).alloc (Nat.le_refl _) _))⟩
end Go.Proofs.YthjddclmfgpcmaaGreatDoor

namespace Go.Proofs.YthjddclmfgpcmaaGreatDoor
open Go Go.RowKit
set_option maxRecDepth 100000
set_option linter.unusedVariables false

set_option maxHeartbeats 4000000 in
theorem stmt2_q (f : Nat) (hS : QSays 14 qd .stmt f) : QSays 33 qd .stmt2 (f + 1) := by
 intro w C B d σ t σ' hQ hr hB hd hp
 rw [refF] at hp
 have HO := qok_any hQ
 have HQ := Lib.hid hQ
 have HR := Lib.hid hr
 have HB := Lib.hid hB
 have HS := Lib.hid hS
 by_cases hf : σ.f.isNone = true
 ·rw [hf] at HO
  rw [if_pos hf] at hp
  have HO := Lib.hid HO
  have HP := Lib.hid hp
  clear hQ hr hB hS hf hp
  unfold qd
  go_enter Tryz.func33, Tryz.ntmps33
  go_wp2_with fail
  refine HO.out.mono ?_
  rintro e w1 ⟨rfl, rfl⟩
  go_wp2_with fail
  refine (HS.out w C B (d + 1) _ _ _ HQ.out HR.out HB.out (by omega) HP.out).mono ?_
  rintro e w3 ⟨a, rfl, h2, h3, h4⟩
  have H2 := Lib.hid h2
  have H3 := Lib.hid h3
  have H4 := Lib.hid h4
  clear h2 h3 h4
  go_wp2
  go_ret
  exact ⟨a, rfl, H2.out, H3.out, H4.out⟩
 ·have hf : σ.f.isNone = false := Bool.eq_false_iff.2 hf
  rw [hf] at HO
  rw [if_neg (by rw [hf]; decide)] at hp
  obtain ⟨rfl, rfl⟩ : gT = t ∧ σ = σ' := by simpa using hp
  have HO := Lib.hid HO
  clear hQ hr hB hS hf hp
  unfold qd
  go_enter Tryz.func33, Tryz.ntmps33
  go_wp2_with fail
  refine HO.out.mono ?_
  rintro e w1 ⟨rfl, rfl⟩
  go_wp2
  go_ret
  exact QPost.bare HB.out (RFr.refl _ _) HQ.out

set_option maxHeartbeats 4000000 in
theorem head_q (f : Nat) (hV : QSays 35 qd .value f) : QSays 32 qd .head (f + 1) := by
 intro w C B d σ t σ' hQ hr hB hd hp
 rw [refF] at hp
 obtain ⟨x, σ1, hv, h2⟩ := bindR_some hp
 obtain ⟨rfl, rfl⟩ : x = t ∧ mustR s_rpar σ1 = σ' := by simpa using h2
 have HM := Lib.hid (qmust_any hQ s_lpar B hr hB)
 have HR := Lib.hid hr
 have HB := Lib.hid hB
 have HS := Lib.hid hV
 have HP := Lib.hid hv
 clear hQ hr hB hV hp h2 hv
 unfold qd
 go_enter Tryz.func32, Tryz.ntmps32
 go_wp2_with fail
 refine HM.out.mono ?_
 rintro e w1 ⟨rfl, h3, h4⟩
 have Q1 := Lib.hid h3
 have F1 := Lib.hid h4
 clear h3 h4 HM
 go_wp2_with fail
 refine (HS.out w1 C B (d + 1) _ _ _ Q1.out HR.out (Nat.le_trans HB.out F1.out.size) (by omega) HP.out).mono ?_
 rintro e w2 ⟨a, rfl, h2, h3, h4⟩
 have G2 := Lib.hid h2
 have Q2 := Lib.hid h3
 have F2 := Lib.hid (F1.out.trans h4)
 clear h2 h3 h4
 go_wp2_with fail
 refine (qmust_any Q2.out s_rpar B HR.out (Nat.le_trans HB.out F2.out.size)).mono ?_
 rintro e w3 ⟨rfl, h3, h4⟩
 have Q3 := Lib.hid h3
 have F3 := Lib.hid h4
 clear h3 h4
 go_wp2
 go_ret
 exact ⟨a, rfl, (G2.out.pre F1.out).rfr HR.out F3.out, Q3.out, F2.out.trans F3.out⟩
end Go.Proofs.YthjddclmfgpcmaaGreatDoor

namespace Go.Proofs.YthjddclmfgpcmaaGreatDoor
open Go Go.RowKit
set_option maxRecDepth 100000

theorem thrown_new {w : World} {base : Nat} {c p : Int} (hb : base ≤ w.heap.size) :
 Thrown (w.alloc (.cells #[.int .i64 c, .int .i64 p] 83)) base (.panicked [{ v := .iface 60 (.agg #[.iface 82 (.pointer (some ⟨w.heap.size, 0, none⟩))]), recovered := false }]) c p :=
 ⟨w.heap.size, rfl, hb, heap_alloc_new w _⟩
theorem Thrown.base {w : World} {b b' : Nat} {e : Ending} {c p : Int} (h : Thrown w b e c p) (hb : b' ≤ b) : Thrown w b' e c p := by
 obtain ⟨x, h1, h2, h3⟩ := h
 exact ⟨x, h1, Nat.le_trans hb h2, h3⟩
set_option maxHeartbeats 2000000 in
theorem fail_any (w : World) (rb : Nat) (ts : List Tok) (d : Nat) (c : Int) (hR : Rd w rb ts d) :
 Calls Tryz.prog 60 #[.pointer (some ⟨rb, 0, none⟩), .int .i64 c] w fun e w' => Thrown w' w.heap.size e c (hdT ts).at' ∧ Below w.heap.size w w' := by
 obtain ⟨tb, off, cap, h⟩ := hR
 have c0 := h.c0
 have t3 := h.hd (j := 3) rfl
 have hp := h.pos
 have hm := h.most
 have hle := h.le
 unfold maxLen at hm
 obtain ⟨n, hn⟩ : ∃ n, n = ts.length := ⟨_, rfl⟩
 rw [← hn] at c0 hp hle
 have hlt := h.lt
 have hrt := h.rlt
 clear hn h
 go_enter Tryz.func60, Tryz.ntmps60
 go_wp2
 exact ⟨rfl, thrown_new (Nat.le_refl _), (Below.refl _ _).alloc (Nat.le_refl _) _⟩

set_option maxHeartbeats 2000000 in
theorem want_no (w : World) (rb : Nat) (ts : List Tok) (d : Nat) (s : ByteArray) (hR : Rd w rb ts d) (hs : isT s ts = false) :
 Calls Tryz.prog 79 #[.pointer (some ⟨rb, 0, none⟩), .string s] w fun e w' => Thrown w' w.heap.size e 3 (hdT ts).at' ∧ Below w.heap.size w w' := by
 have HC := Lib.hid (take_no w rb ts d s hR hs)
 have HR := Lib.hid hR
 clear hs hR
 go_enter Tryz.func79, Tryz.ntmps79
 go_wp2_with fail
 refine HC.out.mono ?_
 rintro e w1 ⟨rfl, hB⟩
 have HF := Lib.hid (fail_any w1 rb ts d 3 (HR.out.below hB))
 have HB := Lib.hid hB
 clear hB
 go_wp2_with fail
 refine HF.out.mono ?_
 rintro e w2 ⟨⟨b, rfl, h1, h2⟩, hB⟩
 exact ⟨rfl, ⟨b, rfl, Nat.le_trans HB.out.size h1, h2⟩, HB.out.trans (hB.mono HB.out.size)⟩
set_option maxHeartbeats 2000000 in
theorem want_yes (w : World) (rb : Nat) (ts : List Tok) (d : Nat) (s : ByteArray) (hR : Rd w rb ts d) (hs : isT s ts = true) :
 Calls Tryz.prog 79 #[.pointer (some ⟨rb, 0, none⟩), .string s] w fun e w' => e = .returned (.tuple #[]) ∧ Rd w' rb ts.tail d ∧ RFr w w' rb := by
 have HC := Lib.hid (take_yes w rb ts d s hR hs)
 clear hs hR
 go_enter Tryz.func79, Tryz.ntmps79
 go_wp2_with fail
 refine HC.out.mono ?_
 rintro e w1 ⟨rfl, hR, hF⟩
 have HR := Lib.hid hR
 have HF := Lib.hid hF
 clear hR hF
 go_wp2
 go_end0
 exact ⟨rfl, HR.out, HF.out⟩
set_option maxHeartbeats 2000000 in
theorem name_no (w : World) (rb : Nat) (ts : List Tok) (d : Nat) (hR : Rd w rb ts d) (hk : (hdT ts).kind ≠ 1) :
 Calls Tryz.prog 66 #[.pointer (some ⟨rb, 0, none⟩)] w fun e w' => Thrown w' w.heap.size e 3 (hdT ts).at' ∧ Below w.heap.size w w' := by
 have HR := Lib.hid hR
 obtain ⟨tb, off, cap, h⟩ := hR
 have c0 := h.c0
 have t0 := h.hd (j := 0) rfl
 have t1 := h.hd (j := 1) rfl
 have t2 := h.hd (j := 2) rfl
 have t3 := h.hd (j := 3) rfl
 have hp := h.pos
 have hm := h.most
 have hle := h.le
 unfold maxLen at hm
 obtain ⟨n, hn⟩ : ∃ n, n = ts.length := ⟨_, rfl⟩
 rw [← hn] at c0 hp hle
 have hlt := h.lt
 have hrt := h.rlt
 have hk1 : ((hdT ts).kind == 1) = false := by simpa using hk
 have hal : Below w.heap.size w (w.alloc (.cells #[.int .i64 (hdT ts).kind, .string (hdT ts).text, .int .i64 (hdT ts).n, .int .i64 (hdT ts).at'] 81)) := (Below.refl _ _).alloc (Nat.le_refl _) _
 have HF := Lib.hid (fail_any _ rb ts d 3 (HR.out.below hal))
 have HAL := Lib.hid hal
 simp only [Nat.add_zero] at t0
 clear hn h hk hal
 go_enter Tryz.func66, Tryz.ntmps66
 go_wp2_with fail
 refine HF.out.mono ?_
 rintro e w2 ⟨⟨b, rfl, h1, h2⟩, hB⟩
 exact ⟨rfl, ⟨b, rfl, Nat.le_trans HAL.out.size h1, h2⟩, HAL.out.trans (hB.mono HAL.out.size)⟩
set_option maxHeartbeats 2000000 in
theorem name_yes (w : World) (rb : Nat) (ts : List Tok) (d : Nat) (hR : Rd w rb ts d) (hk : (hdT ts).kind = 1) :
 Calls Tryz.prog 66 #[.pointer (some ⟨rb, 0, none⟩)] w fun e w' => e = .returned (.string (hdT ts).text) ∧ Rd w' rb ts.tail d ∧ RFr w w' rb := by
 obtain ⟨tb, off, cap, h⟩ := hR
 have c0 := h.c0
 have t0 := h.hd (j := 0) rfl
 have t1 := h.hd (j := 1) rfl
 have t2 := h.hd (j := 2) rfl
 have t3 := h.hd (j := 3) rfl
 have h2 := h.two (by omega)
 have hm := h.most
 have hle := h.le
 have z0 := h.fz 0
 unfold maxLen at hm
 have H := Lib.hid (h.tail (by omega))
 obtain ⟨n, hn⟩ : ∃ n, n = ts.length := ⟨_, rfl⟩
 rw [← hn] at c0 h2 hle
 have HN := Lib.hid hn
 have hlt := h.lt
 have hrt := h.rlt
 have HK := Lib.hid hk
 simp only [Nat.add_zero, hk] at t0
 clear hn h hk
 go_enter Tryz.func66, Tryz.ntmps66
 go_wp2
 go_ret
 have h4 := H.out
 rw [← HN.out] at h4
 have hb : ∀ o, Below (w.setCell ⟨rb, 0, none⟩ (.slice (some ⟨tb, off + 4, none⟩) (n - 1) (cap - 1))).heap.size (w.setCell ⟨rb, 0, none⟩ (.slice (some ⟨tb, off + 4, none⟩) (n - 1) (cap - 1))) ((w.setCell ⟨rb, 0, none⟩ (.slice (some ⟨tb, off + 4, none⟩) (n - 1) (cap - 1))).alloc o) := fun o => (Below.refl _ _).alloc (Nat.le_refl _) o
 exact ⟨rfl, ⟨tb, off + 4, cap - 1, h4.below (hb _)⟩, ((RFr.refl w rb).set _ _).trans (RFr.below (hb _))⟩
theorem node_any (w : World) (rb : Nat) (kind : Int) (text : ByteArray) (p : Option Addr) (m c : Nat) :
 Calls Tryz.prog 44 #[.pointer (some ⟨rb, 0, none⟩), .int .i64 kind, .string text, .slice p m c] w fun e w' => e = .returned (.pointer (some ⟨w.heap.size, 0, none⟩)) ∧ w' = w.alloc (.cells #[.int .i64 kind, .string text, .int .i64 0, .slice p m c] 30) := by
 go_enter Tryz.func44, Tryz.ntmps44
 go_wp2
 go_ret
 exact ⟨rfl, rfl⟩
set_option maxHeartbeats 4000000 in
theorem within_statement (w : World) (rb B : Nat) (ts : List Tok) (d : Nat) (p : PR) (r : Except (Int × Nat) (Tree × List Tok)) (hR : Rd w rb ts d) (hd : d < 1000) (hB : rb < B) (hr : withinT d ts p = some r)
 (HC : d + 1 ≤ 30 → p = some r → ∀ w1, Rd w1 rb ts (d + 1) → w1.heap.size = w.heap.size → Calls Tryz.prog 47 #[.pointer (some ⟨rb, 0, none⟩)] w1 (PPost w1 rb B (d + 1) r)) :
 Calls Tryz.prog 46 #[.pointer (some ⟨rb, 0, none⟩), .func (.func 47) #[.pointer (some ⟨rb, 0, none⟩)] #[]] w (PPost w rb B d r) := by
 obtain ⟨tb, off, cap, h⟩ := hR
 have c1 := h.c1
 have z1 := h.fz 1
 have hrt := h.rlt
 have hS : Rd (w.setCell ⟨rb, 1, none⟩ (.int .i64 ((d : Int) + 1))) rb ts (d + 1) := ⟨tb, off, cap, h.deep (by omega)⟩
 have HS := Lib.hid hS
 have HH := Lib.hid h
 have HC := Lib.hid HC
 clear h hS
 unfold withinT at hr
 by_cases hd30 : 30 < d + 1
 ·rw [if_pos hd30] at hr
  obtain rfl := Option.some.inj hr
  have hd' : decide ((d : Int) + 1 > 30) = true := by simp; omega
  have HF := Lib.hid (fail_any _ rb ts (d + 1) 4 HS.out)
  clear hr
  go_enter Tryz.func46, Tryz.ntmps46
  go_wp2_with fail
  refine HF.out.mono ?_
  rintro e w2 ⟨⟨b, rfl, h1, h2⟩, hB⟩
  rw [World.size_setCell] at h1
  refine ⟨rfl, ⟨b, rfl, h1, h2⟩, ?_⟩
  exact ((RFr.refl w rb).set 1 _).trans (RFr.below hB)
 ·rw [if_neg hd30] at hr
  have hsz : (w.setCell ⟨rb, 1, none⟩ (.int .i64 ((d : Int) + 1))).heap.size = w.heap.size := World.size_setCell ..
  have HX := Lib.hid (HC.out (by omega) hr _ HS.out hsz)
  have HSZ := Lib.hid hsz
  clear hsz hr
  go_enter Tryz.func46, Tryz.ntmps46
  go_wp2_with fail
  refine HX.out.mono ?_
  rcases r with ⟨c, p⟩ | ⟨t, ts'⟩
  ·rintro e w2 ⟨⟨b, rfl, h1, h2⟩, hF⟩
   rw [HSZ.out] at h1
   exact ⟨rfl, ⟨b, rfl, h1, h2⟩, ((RFr.refl w rb).set 1 _).trans hF⟩
  ·rintro e w2 ⟨a, rfl, hG, ⟨tb2, off2, cap2, h2⟩, hF⟩
   have k1 := h2.c1
   have kz := h2.fz 1
   have H2 := Lib.hid h2
   have HG := Lib.hid hG
   have HF := Lib.hid hF
   clear hG h2 hF
   go_wp2
   go_ret
   exact ⟨a, rfl, (HG.out.rfr hB ((RFr.refl w2 rb).set _ _)).pre ((RFr.refl w rb).set 1 _), ⟨tb2, off2, cap2, H2.out.deep (by omega)⟩, (((RFr.refl w rb).set 1 _).trans HF.out).set 1 _⟩
set_option maxHeartbeats 4000000 in
theorem within_assign (w : World) (rb B : Nat) (ts : List Tok) (d : Nat) (p : PR) (r : Except (Int × Nat) (Tree × List Tok)) (hR : Rd w rb ts d) (hd : d < 1000) (hB : rb < B) (hr : withinT d ts p = some r)
 (HC : d + 1 ≤ 30 → p = some r → ∀ w1, Rd w1 rb ts (d + 1) → w1.heap.size = w.heap.size → Calls Tryz.prog 80 #[.pointer (some ⟨rb, 0, none⟩)] w1 (PPost w1 rb B (d + 1) r)) :
 Calls Tryz.prog 46 #[.pointer (some ⟨rb, 0, none⟩), .func (.func 80) #[.pointer (some ⟨rb, 0, none⟩)] #[]] w (PPost w rb B d r) := by
 obtain ⟨tb, off, cap, h⟩ := hR
 have c1 := h.c1
 have z1 := h.fz 1
 have hrt := h.rlt
 have hS : Rd (w.setCell ⟨rb, 1, none⟩ (.int .i64 ((d : Int) + 1))) rb ts (d + 1) := ⟨tb, off, cap, h.deep (by omega)⟩
 have HS := Lib.hid hS
 have HH := Lib.hid h
 have HC := Lib.hid HC
 clear h hS
 unfold withinT at hr
 by_cases hd30 : 30 < d + 1
 ·rw [if_pos hd30] at hr
  obtain rfl := Option.some.inj hr
  have hd' : decide ((d : Int) + 1 > 30) = true := by simp; omega
  have HF := Lib.hid (fail_any _ rb ts (d + 1) 4 HS.out)
  clear hr
  go_enter Tryz.func46, Tryz.ntmps46
  go_wp2_with fail
  refine HF.out.mono ?_
  rintro e w2 ⟨⟨b, rfl, h1, h2⟩, hB⟩
  rw [World.size_setCell] at h1
  refine ⟨rfl, ⟨b, rfl, h1, h2⟩, ?_⟩
  exact ((RFr.refl w rb).set 1 _).trans (RFr.below hB)
 ·rw [if_neg hd30] at hr
  have hsz : (w.setCell ⟨rb, 1, none⟩ (.int .i64 ((d : Int) + 1))).heap.size = w.heap.size := World.size_setCell ..
  have HX := Lib.hid (HC.out (by omega) hr _ HS.out hsz)
  have HSZ := Lib.hid hsz
  clear hsz hr
  go_enter Tryz.func46, Tryz.ntmps46
  go_wp2_with fail
  refine HX.out.mono ?_
  rcases r with ⟨c, p⟩ | ⟨t, ts'⟩
  ·rintro e w2 ⟨⟨b, rfl, h1, h2⟩, hF⟩
   rw [HSZ.out] at h1
   exact ⟨rfl, ⟨b, rfl, h1, h2⟩, ((RFr.refl w rb).set 1 _).trans hF⟩
  ·rintro e w2 ⟨a, rfl, hG, ⟨tb2, off2, cap2, h2⟩, hF⟩
   have k1 := h2.c1
   have kz := h2.fz 1
   have H2 := Lib.hid h2
   have HG := Lib.hid hG
   have HF := Lib.hid hF
   clear hG h2 hF
   go_wp2
   go_ret
   exact ⟨a, rfl, (HG.out.rfr hB ((RFr.refl w2 rb).set _ _)).pre ((RFr.refl w rb).set 1 _), ⟨tb2, off2, cap2, H2.out.deep (by omega)⟩, (((RFr.refl w rb).set 1 _).trans HF.out).set 1 _⟩
set_option maxHeartbeats 4000000 in
theorem within_unary (w : World) (rb B : Nat) (ts : List Tok) (d : Nat) (p : PR) (r : Except (Int × Nat) (Tree × List Tok)) (hR : Rd w rb ts d) (hd : d < 1000) (hB : rb < B) (hr : withinT d ts p = some r)
 (HC : d + 1 ≤ 30 → p = some r → ∀ w1, Rd w1 rb ts (d + 1) → w1.heap.size = w.heap.size → Calls Tryz.prog 93 #[.pointer (some ⟨rb, 0, none⟩)] w1 (PPost w1 rb B (d + 1) r)) :
 Calls Tryz.prog 46 #[.pointer (some ⟨rb, 0, none⟩), .func (.func 93) #[.pointer (some ⟨rb, 0, none⟩)] #[]] w (PPost w rb B d r) := by
 obtain ⟨tb, off, cap, h⟩ := hR
 have c1 := h.c1
 have z1 := h.fz 1
 have hrt := h.rlt
 have hS : Rd (w.setCell ⟨rb, 1, none⟩ (.int .i64 ((d : Int) + 1))) rb ts (d + 1) := ⟨tb, off, cap, h.deep (by omega)⟩
 have HS := Lib.hid hS
 have HH := Lib.hid h
 have HC := Lib.hid HC
 clear h hS
 unfold withinT at hr
 by_cases hd30 : 30 < d + 1
 ·rw [if_pos hd30] at hr
  obtain rfl := Option.some.inj hr
  have hd' : decide ((d : Int) + 1 > 30) = true := by simp; omega
  have HF := Lib.hid (fail_any _ rb ts (d + 1) 4 HS.out)
  clear hr
  go_enter Tryz.func46, Tryz.ntmps46
  go_wp2_with fail
  refine HF.out.mono ?_
  rintro e w2 ⟨⟨b, rfl, h1, h2⟩, hB⟩
  rw [World.size_setCell] at h1
  refine ⟨rfl, ⟨b, rfl, h1, h2⟩, ?_⟩
  exact ((RFr.refl w rb).set 1 _).trans (RFr.below hB)
 ·rw [if_neg hd30] at hr
  have hsz : (w.setCell ⟨rb, 1, none⟩ (.int .i64 ((d : Int) + 1))).heap.size = w.heap.size := World.size_setCell ..
  have HX := Lib.hid (HC.out (by omega) hr _ HS.out hsz)
  have HSZ := Lib.hid hsz
  clear hsz hr
  go_enter Tryz.func46, Tryz.ntmps46
  go_wp2_with fail
  refine HX.out.mono ?_
  rcases r with ⟨c, p⟩ | ⟨t, ts'⟩
  ·rintro e w2 ⟨⟨b, rfl, h1, h2⟩, hF⟩
   rw [HSZ.out] at h1
   exact ⟨rfl, ⟨b, rfl, h1, h2⟩, ((RFr.refl w rb).set 1 _).trans hF⟩
  ·rintro e w2 ⟨a, rfl, hG, ⟨tb2, off2, cap2, h2⟩, hF⟩
   have k1 := h2.c1
   have kz := h2.fz 1
   have H2 := Lib.hid h2
   have HG := Lib.hid hG
   have HF := Lib.hid hF
   clear hG h2 hF
   go_wp2
   go_ret
   exact ⟨a, rfl, (HG.out.rfr hB ((RFr.refl w2 rb).set _ _)).pre ((RFr.refl w rb).set 1 _), ⟨tb2, off2, cap2, H2.out.deep (by omega)⟩, (((RFr.refl w rb).set 1 _).trans HF.out).set 1 _⟩
end Go.Proofs.YthjddclmfgpcmaaGreatDoor

namespace Go.Proofs.YthjddclmfgpcmaaGreatDoor
open Go Go.RowKit
set_option maxRecDepth 100000
set_option linter.unusedVariables false

theorem leaves_le {f : Nat} {job : Job} {d : Nat} {ts ts' : List Tok} {t : Tree} (h : parseF f job d ts = some (.ok (t, ts'))) : ts'.length ≤ ts.length := by
 have := parse_leaves f job d ts t ts' h
 have hl : job.least ≤ 1 := by cases job <;> simp [Job.least]
 omega

set_option maxHeartbeats 4000000 in
theorem value_says (f : Nat) (hA : Says 80 rArg .assign f) : Says 68 rArg .value (f + 1) := by
 intro w rb B d ts r hP hp
 have hw : withinT d ts (parseF f .assign (d + 1) ts) = some r := hp
 have HC := Lib.hid (within_assign w rb B ts d _ r hP.rd (by have := hP.deep; omega) hP.lt hw fun hd h1 w1 hR hs => hA w1 rb B (d + 1) ts r ⟨hR, hd, hP.lt, by have := hP.le; omega, hP.few⟩ h1)
 have hmf : ∀ (fn : Fn) (first cap : Array Value) (w : World), (Instr.makeFunc fn first cap).run Tryz.prog w = .ok (.func fn first cap) w := fun _ _ _ _ => rfl
 clear hP hp hw hA
 unfold rArg
 go_enter Tryz.func68, Tryz.ntmps68
 go_wp2_with fail
 refine HC.out.mono ?_
 rcases r with ⟨c, p⟩ | ⟨t, ts'⟩
 ·rintro e w2 ⟨⟨b, rfl, h1, h2⟩, hF⟩
  exact ⟨rfl, ⟨b, rfl, h1, h2⟩, hF⟩
 ·rintro e w2 ⟨a, rfl, hG, hR, hF⟩
  have HG := Lib.hid hG
  have HR := Lib.hid hR
  have HF := Lib.hid hF
  clear hG hR hF HC
  go_wp2
  go_ret
  exact ⟨a, rfl, HG.out, HR.out, HF.out⟩
set_option maxHeartbeats 4000000 in
theorem around_says (f : Nat) (hV : Says 68 rArg .value f) : Says 67 rArg .around (f + 1) := by
 intro w rb B d ts r hP hp
 have hw : wantT s_lpar ts (fun ts => bindT (parseF f .value d ts) fun x ts => wantT s_rpar ts fun ts => okT x ts) = some r := hp
 have HP := Lib.hid hP
 unfold rArg
 rcases wantT_some hw with ⟨hs, h1⟩ | ⟨hs, rfl⟩
 ·have HC := Lib.hid (want_yes w rb ts d s_lpar hP.rd hs)
  have H1 := Lib.hid h1
  clear hP hp hw hs h1
  go_enter Tryz.func67, Tryz.ntmps67
  go_wp2_with fail
  refine HC.out.mono ?_
  rintro e w1 ⟨rfl, hR1, hF1⟩
  have P1 := Lib.hid (HP.out.tail hR1 hF1)
  have F1 := Lib.hid hF1
  clear hR1 hF1 HC
  rcases bindT_some H1.out with ⟨⟨c, p⟩, hv, rfl⟩ | ⟨t, ts2, hv, h2⟩
  ·have HV := Lib.hid (hV w1 rb B d _ _ P1.out hv)
   clear hv
   go_wp2_with fail
   refine HV.out.mono ?_
   rintro e w2 ⟨⟨b, rfl, h1, h2⟩, hF⟩
   exact ⟨rfl, PPost.pre F1.out (r := .error (c, p)) ⟨⟨b, rfl, h1, h2⟩, hF⟩⟩
  ·have HV := Lib.hid (hV w1 rb B d _ _ P1.out hv)
   have hl := leaves_le hv
   have H2 := Lib.hid h2
   clear hv h2
   go_wp2_with fail
   refine HV.out.mono ?_
   rintro e w2 ⟨a, rfl, hG, hR2, hF2⟩
   have P2 := Lib.hid (P1.out.next hR2 hF2 hl)
   have F2 := Lib.hid (F1.out.trans hF2)
   have G2 := Lib.hid (hG.pre F1.out)
   clear hG hR2 hF2 HV hl
   rcases wantT_some H2.out with ⟨hs, h3⟩ | ⟨hs, rfl⟩
   ·obtain rfl := Option.some.inj h3
    have HC := Lib.hid (want_yes w2 rb ts2 d s_rpar P2.out.rd hs)
    clear hs h3
    go_wp2_with fail
    refine HC.out.mono ?_
    rintro e w3 ⟨rfl, hR3, hF3⟩
    have R3 := Lib.hid hR3
    have F3 := Lib.hid hF3
    clear hR3 hF3
    go_wp2
    go_ret
    exact ⟨a, rfl, G2.out.rfr HP.out.lt F3.out, R3.out, F2.out.trans F3.out⟩
   ·have HC := Lib.hid (want_no w2 rb ts2 d s_rpar P2.out.rd hs)
    clear hs
    go_wp2_with fail
    refine HC.out.mono ?_
    rintro e w3 ⟨⟨b, rfl, h1, h2⟩, hB⟩
    exact ⟨rfl, PPost.err F2.out ⟨b, rfl, h1, h2⟩ hB⟩
 ·have HC := Lib.hid (want_no w rb ts d s_lpar hP.rd hs)
  clear hP hp hw hs
  go_enter Tryz.func67, Tryz.ntmps67
  go_wp2_with fail
  refine HC.out.mono ?_
  rintro e w3 ⟨⟨b, rfl, h1, h2⟩, hB⟩
  exact ⟨rfl, PPost.err (RFr.refl _ _) ⟨b, rfl, h1, h2⟩ hB⟩
end Go.Proofs.YthjddclmfgpcmaaGreatDoor
