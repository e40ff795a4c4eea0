/- Package tree: Walk, as it is told. Map literals with texts for keys and numbers for elements. Package hoist: lists of texts, once each. Package hoist: kids of a kind, in a row of their own. Package hoist: inner, Vars; tree.Strict. Package tree: Walk with hoist.Vars$1. Package hoist: Vars; tree.Strict. Package hoist: Names; tree.Strict. Maps from nodes to numbers. Package tree: Walk with run.Number$1. Package run: Number. -/
import Derived.Test.YthjddclmfgpcmaaGreatDoorJ09
import Derived.Test.YthjddclmfgpcmaaGreatDoorJ04
import Derived.WalkKit
import Derived.Maps.Own
import Derived.Maps.OwnOps
import Derived.Maps.RangeWalk
import Derived.Lib.Hide
import Derived.Test.YthjddclmfgpcmaaGreatDoorJ13
import Derived.Test.YthjddclmfgpcmaaGreatDoorJ01
import Derived.Lib.OwnKind
import Derived.LaidEql
namespace Go.Proofs.YthjddclmfgpcmaaGreatDoor
open Go Go.RowKit
set_option maxRecDepth 100000

mutual
/-- what looking at a program makes of a state; the answer says whether to look within -/
def walkA {σ : Type} (g : σ → ATree → Bool × σ) : ATree → σ → σ
 | .mk b v k t n l, s => if (g s (.mk b v k t n l)).1 then walkL g l (g s (.mk b v k t n l)).2 else (g s (.mk b v k t n l)).2
def walkL {σ : Type} (g : σ → ATree → Bool × σ) : List ATree → σ → σ
 | [], s => s
 | a :: l, s => walkL g l (walkA g a s)
end
mutual
def ATree.subs : ATree → List ATree
 | .mk b v k t n l => .mk b v k t n l :: subsL l
def subsL : List ATree → List ATree
 | [] => []
 | a :: l => a.subs ++ subsL l
end
mutual
def ATree.many : ATree → Nat
 | .mk _ _ _ _ _ l => manyLA l + 1
def manyLA : List ATree → Nat
 | [] => 0
 | a :: l => a.many + manyLA l
end
theorem walkA_eq {σ : Type} (g : σ → ATree → Bool × σ) (a : ATree) (s : σ) : walkA g a s = if (g s a).1 then walkL g a.kids (g s a).2 else (g s a).2 := by
 cases a; simp only [walkA, ATree.kids]
theorem walkL_snoc {σ : Type} (g : σ → ATree → Bool × σ) (l : List ATree) (a : ATree) (s : σ) : walkL g (l ++ [a]) s = walkA g a (walkL g l s) := by
 induction l generalizing s with
 | nil => simp [walkL]
 | cons x l ih => simp only [List.cons_append, walkL, ih]
theorem many_kid {a k : ATree} (h : k ∈ a.kids) : k.many < a.many := by
 have key : ∀ l : List ATree, k ∈ l → k.many ≤ manyLA l := by
  intro l
  induction l with
  | nil => intro h; cases h
  | cons x l ih =>
    intro h
    simp only [manyLA]
    rcases List.mem_cons.1 h with rfl | h
    ·omega
    ·have := ih h; omega
 obtain ⟨b, v, kk, t, n, l⟩ := a
 have := key l h
 simp only [ATree.many]
 omega
theorem subs_self (a : ATree) : a ∈ a.subs := by cases a; simp [ATree.subs]
theorem subs_kid {a k x : ATree} (h : k ∈ a.kids) (hx : x ∈ k.subs) : x ∈ a.subs := by
 have key : ∀ l : List ATree, k ∈ l → x ∈ subsL l := by
  intro l
  induction l with
  | nil => intro h; cases h
  | cons y l ih =>
    intro h
    simp only [subsL, List.mem_append]
    rcases List.mem_cons.1 h with rfl | h
    ·exact .inl hx
    ·exact .inr (ih h)
 obtain ⟨b, v, kk, t, n, l⟩ := a
 simp only [ATree.subs, List.mem_cons]
 exact .inr (key l h)
mutual
theorem many_tree : ∀ a : ATree, a.tree.many = a.many
 | .mk _ _ _ _ _ l => by simp only [ATree.tree, Tree.many, ATree.many]; rw [many_treeL l]
theorem many_treeL : ∀ l : List ATree, manyL (treeL l) = manyLA l
 | [] => rfl
 | a :: l => by simp only [treeL, manyL, manyLA]; rw [many_tree a, many_treeL l]
end
theorem take_succ_kid {l : List ATree} {k : Nat} {x : ATree} (h : l[k]? = some x) : l.take (k + 1) = l.take k ++ [x] := by
 rw [List.take_add_one, h]; rfl
/-- where a walk comes, and with what state -/
inductive Reach {σ : Type} (g : σ → ATree → Bool × σ) : ATree → σ → ATree → σ → Prop
 | self (a : ATree) (s : σ) : Reach g a s a s
 | kid {a k x : ATree} {s s' : σ} {i : Nat} (ok : (g s a).1 = true) (hk : a.kids[i]? = some k) (h : Reach g k (walkL g (a.kids.take i) (g s a).2) x s') : Reach g a s x s'
theorem Reach.sub {σ : Type} {g : σ → ATree → Bool × σ} {a x : ATree} {s s' : σ} (h : Reach g a s x s') : x ∈ a.subs := by
 induction h with
 | self a s => exact subs_self a
 | kid ok hk h ih => exact subs_kid (List.mem_of_getElem? hk) ih
end Go.Proofs.YthjddclmfgpcmaaGreatDoor

namespace Go.Proofs.YthjddclmfgpcmaaGreatDoor
open Go Go.RowKit Go.Maps
set_option maxRecDepth 100000

/-- an entry of a literal -/
theorem wpList_insert_own {H : Type} {P : Program} (w : World) {ops : Array Oper} {rest : List Oper} {o : Oper} {a : Act} {Q : Exit → Act → World → Prop}
 (hg : o.guard = none) (m x v : Operand) (t : TypeId) (hop : o.op = Op.insert t m x v)
 (k e : TypeId) (K : Keyed P k) (ht : P.underlying t = some (.map k e)) (R : Value → Option (DataW H × List MemPlace)) (b n : Nat) (D : DataW H)
 (hm : a.eval m = .map (some b)) (hown : w.ownsMap P k R b n D) (hn : n < maxLen) (key val : Value) (kl : Lit) (hx : a.eval x = key) (hv : a.eval v = val) (hkey : keyOf P k key = some kl)
 (d : DataW H) (ps : List MemPlace) (hval : R val = some (d, ps))
 (hK : ∀ w', w'.ownsMap P k R b (n + 1) (D.put kl d) → w.grownBy w' (some b) → wpList P ops Q rest (a.put o.dst undef) w') :
 wpList P ops Q (o :: rest) a w := by
 refine wpList_plain hg fun K' hK' => ?_
 obtain ⟨w', hrun, r1, r2⟩ := hown.update K ht hn hkey hval
 unfold Oper.wp
 simp [execOp, hop, hm, hx, hv, hrun, Result.andThen]
 exact hK' _ _ (hK w' r1 r2)
theorem Tryz.keyedS : Keyed Tryz.prog 9 := string_keyed Tryz.underlying9
theorem Tryz.zeroI (w : World) : (zeroValue 3).run Tryz.prog w = .ok (.int .i64 0) w := by kernel_rfl
theorem bel_grown {B : Nat} {w w1 w2 : World} {b : Nat} (h : Below B w w1) (hg : w1.grownBy w2 (some b)) (hb : B ≤ b) (hs : B ≤ w1.heap.size) : Below B w w2 :=
 h.grown hg hs fun j hj => by cases hj; exact hb
/-- what a literal reads as -/
def litD (l : List (ByteArray × Int)) : DataW Unit := l.foldl (fun D x => D.put (.string x.1.data.toList) (.lit (.int .i64 x.2))) (.map [])
def signL7 : List (ByteArray × Int) := [(s_or, 25), (s_and, 26), (s_same, 27), (s_less, 28), (s_add, 29), (s_sub, 30), (s_mul, 31)]
end Go.Proofs.YthjddclmfgpcmaaGreatDoor

namespace Go.Proofs.YthjddclmfgpcmaaGreatDoor
open Go Go.RowKit
set_option maxRecDepth 100000
set_option linter.unusedVariables false

/-- a list of texts, in its own row -/
def Texts (w : World) (B : Nat) (v : Value) (l : List ByteArray) : Prop := w.ownsRow B 9 1 v l.length (l.map Value.string)
def addL (l : List ByteArray) (s : ByteArray) : List ByteArray := if Lib.containsS l s then l else l ++ [s]
theorem Texts.nil (w : World) (B : Nat) : Texts w B (.slice none 0 0) [] := World.ownsRow_nil w B _ _
theorem Texts.cells {w : World} {B : Nat} {v : Value} {l : List ByteArray} (h : Texts w B v l) {b : Nat} (hb : v.ownBlock = some b) {j : Nat} {s : ByteArray} (hs : l[j]? = some s) : w.cell? ⟨b, j, none⟩ = some (.string s) :=
 ownsRow_cell1 h hb (by rw [List.getElem?_map, hs]; rfl)
theorem Texts.bel {w w' : World} {B : Nat} {v : Value} {l : List ByteArray} (h : Texts w B v l) (g : Below w.heap.size w w') : Texts w' B v l :=
 ownsRow_block h fun k hk => g.block k (World.ownsRow.lt h k hk).2
theorem Texts.form {w : World} {B : Nat} {v : Value} {l : List ByteArray} (h : Texts w B v l) : (v = .slice none 0 0 ∧ l = []) ∨ ∃ g cap, v = .slice (some ⟨g, 0, none⟩) l.length cap ∧ l.length ≤ cap ∧ cap ≤ maxLen := by
 rcases ownsRow_cases h with ⟨h1, h2⟩ | ⟨g, cap, h1, h2, h3, _⟩
 ·exact .inl ⟨h1, List.eq_nil_of_length_eq_zero h2⟩
 ·exact .inr ⟨g, cap, h1, h2, h3⟩
end Go.Proofs.YthjddclmfgpcmaaGreatDoor

namespace Go.Proofs.YthjddclmfgpcmaaGreatDoor
open Go Go.RowKit
set_option maxRecDepth 100000
set_option linter.unusedVariables false

/-- a list of nodes, in its own row -/
def Nodes (w : World) (B : Nat) (v : Value) (l : List ATree) : Prop := w.ownsRow B 22 1 v l.length (l.map ATree.ptr)
theorem Nodes.nil (w : World) (B : Nat) : Nodes w B (.slice none 0 0) [] := World.ownsRow_nil w B _ _
theorem Nodes.bel {w w' : World} {B : Nat} {v : Value} {l : List ATree} (h : Nodes w B v l) (g : Below w.heap.size w w') : Nodes w' B v l :=
 ownsRow_block h fun k hk => g.block k (World.ownsRow.lt h k hk).2
theorem Nodes.form {w : World} {B : Nat} {v : Value} {l : List ATree} (h : Nodes w B v l) : (v = .slice none 0 0 ∧ l = []) ∨ ∃ g cap, v = .slice (some ⟨g, 0, none⟩) l.length cap ∧ l.length ≤ cap ∧ cap ≤ maxLen := by
 rcases ownsRow_cases h with ⟨h1, h2⟩ | ⟨g, cap, h1, h2, h3, _⟩
 ·exact .inl ⟨h1, List.eq_nil_of_length_eq_zero h2⟩
 ·exact .inr ⟨g, cap, h1, h2, h3⟩
theorem Nodes.cell {w : World} {B : Nat} {v : Value} {l : List ATree} (h : Nodes w B v l) {b : Nat} (hb : v.ownBlock = some b) {j : Nat} {x : ATree} (hs : l[j]? = some x) : w.cell? ⟨b, j, none⟩ = some (.pointer (some ⟨x.b, 0, none⟩)) :=
 ownsRow_cell1 h hb (by rw [List.getElem?_map, hs]; rfl)
end Go.Proofs.YthjddclmfgpcmaaGreatDoor

namespace Go.Proofs.YthjddclmfgpcmaaGreatDoor
open Go Go.RowKit
set_option maxRecDepth 100000
set_option linter.unusedVariables false

theorem TreeAt.c0 {w : World} {B : Nat} {a : ATree} (h : TreeAt w B a) : w.cell? ⟨a.b, 0, none⟩ = some (.int .i64 a.kind) := by simp [World.cell?, h.blkOf]
theorem TreeAt.c1 {w : World} {B : Nat} {a : ATree} (h : TreeAt w B a) : w.cell? ⟨a.b, 1, none⟩ = some (.string a.text) := by simp [World.cell?, h.blkOf]
theorem TreeAt.c3 {w : World} {B : Nat} {a : ATree} (h : TreeAt w B a) : w.cell? ⟨a.b, 3, none⟩ = some a.v := by simp [World.cell?, h.blkOf]
theorem TreeAt.vOf {w : World} {B : Nat} {a : ATree} (h : TreeAt w B a) : ∃ p cp, a.v = .slice p a.kids.length cp ∧ a.kids.length ≤ cp ∧ cp ≤ maxLen := by
 rcases ownsRow_cases h.rowOf with ⟨h1, h2⟩ | ⟨g0, cap0, h1, h2, h3, _⟩
 ·exact ⟨none, 0, by rw [h1, h2], by omega, by unfold maxLen; omega⟩
 ·exact ⟨_, _, h1, h2, h3⟩

theorem Texts.slice {w : World} {B : Nat} {v : Value} {l : List ByteArray} (h : Texts w B v l) : ∃ p n c, v = .slice p n c := by
 rcases h.form with ⟨h, _⟩ | ⟨g, cap, h, _⟩
 ·exact ⟨_, _, _, h⟩
 ·exact ⟨_, _, _, h⟩
theorem addL_nodup {l : List ByteArray} {s : ByteArray} (h : l.Nodup) : (addL l s).Nodup := by
 unfold addL
 by_cases hc : Lib.containsS l s = true
 ·rw [if_pos hc]; exact h
 ·rw [if_neg hc]
  rw [Lib.containsS_iff] at hc
  rw [List.nodup_append]
  exact ⟨h, by simp, fun a ha b hb e => hc (by simp at hb; rw [← hb, ← e]; exact ha)⟩
theorem addL_mem {l : List ByteArray} {s x : ByteArray} (h : x ∈ addL l s) : x ∈ l ∨ x = s := by
 unfold addL at h
 split at h
 ·exact .inl h
 ·simpa using h
/-- the list's cell, and the list above it; all as in w0 below -/
structure VInv (w0 : World) (c : Nat) (T : List ByteArray) (l : List ByteArray) (w : World) : Prop where
 cell : ∃ v, w.heap[c]? = some (.cells #[v] 69 (0, 0)) ∧ Texts w (c + 1) v l
 bel : Below c w0 w
 nd : l.Nodup
 sub : ∀ s ∈ l, s ∈ T
section
variable {w0 w : World} {c B : Nat} {T l : List ByteArray} {a : ATree}
theorem VInv.lt (h : VInv w0 c T l w) : c < w.heap.size := by obtain ⟨v, hb, _⟩ := h.cell; exact (Array.getElem?_eq_some_iff.1 hb).1
theorem VInv.tree (h : VInv w0 c T l w) (hT : TreeAt w0 B a) (hc : w0.heap.size ≤ c) : TreeAt w B a := hT.keep fun k _ hk => h.bel.block k (by omega)
theorem VInv.drew (h : VInv w0 c T l w) : VInv w0 c T l w.drew := ⟨h.cell, h.bel.drew, h.nd, h.sub⟩
theorem VInv.add {w1 : World} {v' : Value} {s : ByteArray} (h : VInv w0 c T l w) (hs : s ∈ T) (hB : Below (c + 1) w w1) (ht : Texts w1 (c + 1) v' (addL l s)) : VInv w0 c T (addL l s) (w1.setCell ⟨c, 0, none⟩ v') := by
 obtain ⟨v, hb, _⟩ := h.cell
 have hb1 : w1.heap[c]? = some (.cells #[v] 69 (0, 0)) := (hB.block c (by omega)).trans hb
 refine ⟨⟨v', setCell_block (o := 0) v' hb1, ?_⟩, ?_, addL_nodup h.nd, fun x hx => (addL_mem hx).elim (h.sub x) (fun e => by rw [e]; exact hs)⟩
 ·exact ownsRow_block ht fun k hk => Below.heap_setCell _ _ _ _ (by have := (World.ownsRow.lt ht k hk).1; simp only; omega)
 ·exact (h.bel.trans (hB.mono (by omega))).setCell (p := ⟨c, 0, none⟩) (Nat.le_refl _) _
end

end Go.Proofs.YthjddclmfgpcmaaGreatDoor

namespace Go.Proofs.YthjddclmfgpcmaaGreatDoor
open Go Go.RowKit
set_option maxRecDepth 100000
set_option linter.unusedVariables false

end Go.Proofs.YthjddclmfgpcmaaGreatDoor

namespace Go.Proofs.YthjddclmfgpcmaaGreatDoor
open Go Go.RowKit
set_option maxRecDepth 100000
set_option linter.unusedVariables false

theorem Texts.base {w : World} {B B' : Nat} {v : Value} {l : List ByteArray} (h : Texts w B v l) (hB : B' ≤ B) : Texts w B' v l := by
 refine ⟨h.1, ?_⟩
 rcases h.2 with hn | ⟨g, cap, cur, h1, h2, rest⟩
 ·exact .inl hn
 ·exact .inr ⟨g, cap, cur, h1, by omega, rest⟩
theorem subsL_len (l : List ATree) : (subsL l).length = manyLA l := by
 have key : ∀ n, ∀ l : List ATree, manyLA l ≤ n → (subsL l).length = manyLA l := by
  intro n
  induction n with
  | zero =>
    intro l hl
    cases l with
    | nil => rfl
    | cons a l => exfalso; obtain ⟨b, v, k, t, m, ks⟩ := a; simp only [manyLA, ATree.many] at hl; omega
  | succ n ih =>
    intro l hl
    cases l with
    | nil => rfl
    | cons a l =>
      obtain ⟨b, v, k, t, m, ks⟩ := a
      simp only [manyLA, ATree.many] at hl ⊢
      have h1 := ih ks (by omega)
      have h2 := ih l (by omega)
      simp only [subsL, ATree.subs, List.length_append, List.length_cons, h1, h2]
 exact key _ l (Nat.le_refl _)
theorem subs_tree {w : World} {B : Nat} : ∀ {a x : ATree}, TreeAt w B a → x ∈ a.subs → TreeAt w B x := by
 have key : ∀ n, ∀ a x : ATree, a.many ≤ n → TreeAt w B a → x ∈ a.subs → TreeAt w B x := by
  intro n
  induction n with
  | zero => intro a x h; exfalso; obtain ⟨b, v, k, t, m, ks⟩ := a; simp only [ATree.many] at h; omega
  | succ n ih =>
    intro a x hn hT hx
    obtain ⟨b, v, k, t, m, ks⟩ := a
    simp only [ATree.subs, List.mem_cons] at hx
    rcases hx with rfl | hx
    ·exact hT
    ·have : ∀ l : List ATree, (∀ y ∈ l, y ∈ ks) → x ∈ subsL l → TreeAt w B x := by
      intro l
      induction l with
      | nil => intro _ h; simp [subsL] at h
      | cons y l ih2 =>
        intro hl h
        simp only [subsL, List.mem_append] at h
        rcases h with h | h
        ·have hy : y ∈ (ATree.mk b v k t m ks).kids := hl y (by simp)
         exact ih y x (by have := many_kid hy; omega) (hT.kid hy) h
        ·exact ih2 (fun z hz => hl z (List.mem_cons_of_mem _ hz)) h
     exact this ks (fun y h => h) hx
 intro a x hT hx
 exact key _ a x (Nat.le_refl _) hT hx
end Go.Proofs.YthjddclmfgpcmaaGreatDoor

namespace Go.Proofs.YthjddclmfgpcmaaGreatDoor
open Go Go.RowKit
set_option maxRecDepth 100000
set_option linter.unusedVariables false


theorem Nodes.far {w w' : World} {B B' : Nat} {v v' : Value} {l : List ATree} {ks : List ByteArray} (h : Nodes w B v l) (ht : Texts w B' v' ks) (hf : ∀ k, k < w.heap.size → v'.ownBlock ≠ some k → w'.heap[k]? = w.heap[k]?) : Nodes w' B v l := by
 refine ownsRow_block h fun k hk => hf k (World.ownsRow.lt h k hk).2 fun e => ?_
 obtain ⟨c1, f1, h1⟩ := Lib.ownsRow_kind h k hk
 obtain ⟨c2, f2, h2⟩ := Lib.ownsRow_kind ht k e
 rw [h1] at h2
 simp only [Option.some.injEq, Obj.cells.injEq] at h2
 exact absurd h2.2.1 (by decide)

end Go.Proofs.YthjddclmfgpcmaaGreatDoor

namespace Go.Proofs.YthjddclmfgpcmaaGreatDoor
open Go Go.RowKit Go.ChangeMaps Go.MapKept
set_option maxRecDepth 100000
set_option linter.unusedVariables false

def nodeP (b : Nat) : Value := .pointer (some ⟨b, 0, none⟩)
/-- a block of cells -/
def Cells (w : World) (k : Nat) : Prop := ∃ c t, w.heap[k]? = some (.cells c t (0, 0))
/-- a map of nodes to numbers, in the order of its growth -/
def PMap (w : World) (b : Nat) (l : List (Nat × Nat)) : Prop :=
 ∃ es clock, w.heap[b]? = some (.map es clock) ∧ es.toList.map (fun e => (e.key, e.val)) = l.map (fun x => (nodeP x.1, Value.int .i64 x.2))
theorem equal_node (w : World) (a b : Nat) (ha : Cells w a) (hb : Cells w b) : (Op.equal 22 (nodeP a) (nodeP b)).run Tryz.prog w = .ok (decide (a = b)) w := by
 obtain ⟨c1, t1, h1⟩ := ha
 obtain ⟨c2, t2, h2⟩ := hb
 have hsz : (sizeOf 30).run Tryz.prog w = .ok 4 w := by kernel_rfl
 show (Op.equalIn (9999 + 1) _ _ _).run Tryz.prog w = _
 unfold Op.equalIn nodeP
 simp only [Sem.run_bind, run_underlying Tryz.underlying22, Result.andThen, hsz]
 by_cases h : a = b
 ·subst h
  simp [run_sameAddr_same]
 ·have hne : (⟨a, 0, none⟩ : Addr) ≠ ⟨b, 0, none⟩ := fun e => h (congrArg Addr.block e)
  rw [decide_eq_false h]
  simp
  exact run_sameAddr_other w hne h1 h2
theorem ask_none (w : World) (k : Nat) (hk : Cells w k) : ∀ (es : List MapEntry) (l : List (Nat × Nat)) (i : Nat), es.map (fun e => (e.key, e.val)) = l.map (fun x => (nodeP x.1, Value.int .i64 x.2)) → (∀ x ∈ l, Cells w x.1 ∧ x.1 ≠ k) →
 (Instr.findAsking 22 (nodeP k) es i).run Tryz.prog w = .ok none w := by
 intro es
 induction es with
 | nil => intro l i _ _; rfl
 | cons e es ih =>
   intro l i hl hx
   cases l with
   | nil => simp at hl
   | cons x l =>
     simp only [List.map_cons, List.cons.injEq, Prod.mk.injEq] at hl
     obtain ⟨⟨h1, h2⟩, h3⟩ := hl
     have hx0 := hx x (by simp)
     unfold Instr.findAsking
     rw [h1]
     simp only [Sem.run_bind, equal_node w k x.1 hk hx0.1, Result.andThen]
     rw [show decide (k = x.1) = false by simp; exact fun e => hx0.2 e.symm]
     exact ih l (i + 1) h3 fun y hy => hx y (List.mem_cons_of_mem _ hy)
theorem ask_some (w : World) (k v : Nat) (hk : Cells w k) : ∀ (es : List MapEntry) (l : List (Nat × Nat)) (i : Nat), es.map (fun e => (e.key, e.val)) = l.map (fun x => (nodeP x.1, Value.int .i64 x.2)) → (∀ x ∈ l, Cells w x.1) → (l.map (·.1)).Nodup → (k, v) ∈ l →
 ∃ j, (Instr.findAsking 22 (nodeP k) es i).run Tryz.prog w = .ok (some (j, .int .i64 v)) w := by
 intro es
 induction es with
 | nil => intro l i hl _ _ hm; cases l; (cases hm); (simp at hl)
 | cons e es ih =>
   intro l i hl hx hd hm
   cases l with
   | nil => cases hm
   | cons x l =>
     simp only [List.map_cons, List.cons.injEq, Prod.mk.injEq] at hl
     obtain ⟨⟨h1, h2⟩, h3⟩ := hl
     have hx0 := hx x (by simp)
     rw [List.map_cons, List.nodup_cons] at hd
     unfold Instr.findAsking
     rw [h1]
     simp only [Sem.run_bind, equal_node w k x.1 hk hx0, Result.andThen]
     by_cases hkx : k = x.1
     ·have hv : x = (k, v) := by
       rcases List.mem_cons.1 hm with h | h
       ·exact h.symm
       ·exact absurd (List.mem_map.2 ⟨(k, v), h, hkx⟩) hd.1
      rw [decide_eq_true hkx]
      refine ⟨i, ?_⟩
      rw [h2, hv]
      rfl
     ·rw [decide_eq_false hkx]
      refine ih l (i + 1) h3 (fun y hy => hx y (List.mem_cons_of_mem _ hy)) hd.2 ?_
      rcases List.mem_cons.1 hm with h | h
      ·exact absurd (by rw [← h]) hkx
      ·exact h
theorem find_now (k : Nat) (es : List MapEntry) (l : List (Nat × Nat)) (h : es.map (fun e => (e.key, e.val)) = l.map (fun x => (nodeP x.1, Value.int .i64 x.2))) :
 (l = [] ∧ Instr.findNow (.pointer 30) (nodeP k) es 0 = some none) ∨ (l ≠ [] ∧ Instr.findNow (.pointer 30) (nodeP k) es 0 = none) := by
 cases es with
 | nil =>
   cases l with
   | nil => exact .inl ⟨rfl, rfl⟩
   | cons x l => simp at h
 | cons e es =>
   cases l with
   | nil => simp at h
   | cons x l =>
     simp only [List.map_cons, List.cons.injEq, Prod.mk.injEq] at h
     refine .inr ⟨by simp, ?_⟩
     unfold Instr.findNow
     rw [h.1.1]
     rfl
theorem key_none {w : World} {k : Nat} (hk : Cells w k) {es : List MapEntry} {l : List (Nat × Nat)} (h : es.map (fun e => (e.key, e.val)) = l.map (fun x => (nodeP x.1, Value.int .i64 x.2))) (hx : ∀ x ∈ l, Cells w x.1 ∧ x.1 ≠ k) :
 (Instr.findKey 22 (nodeP k) es).run Tryz.prog w = .ok none w := by
 unfold Instr.findKey
 simp only [Sem.run_bind, run_underlying Tryz.underlying22, Result.andThen]
 rcases find_now k es l h with ⟨_, h1⟩ | ⟨_, h1⟩
 ·rw [h1]; rfl
 ·rw [h1]; exact ask_none w k hk es l 0 h hx
theorem key_some {w : World} {k v : Nat} (hk : Cells w k) {es : List MapEntry} {l : List (Nat × Nat)} (h : es.map (fun e => (e.key, e.val)) = l.map (fun x => (nodeP x.1, Value.int .i64 x.2))) (hx : ∀ x ∈ l, Cells w x.1) (hd : (l.map (·.1)).Nodup) (hm : (k, v) ∈ l) :
 ∃ j, (Instr.findKey 22 (nodeP k) es).run Tryz.prog w = .ok (some (j, .int .i64 v)) w := by
 unfold Instr.findKey
 simp only [Sem.run_bind, run_underlying Tryz.underlying22, Result.andThen]
 rcases find_now k es l h with ⟨h0, h1⟩ | ⟨_, h1⟩
 ·rw [h0] at hm; cases hm
 ·rw [h1]; exact ask_some w k v hk es l 0 h hx hd hm
theorem check_node (w : World) (e : Bool) (k : Nat) : (Instr.checkKey e 10000 22 (nodeP k)).run Tryz.prog w = .ok () w := by
 show (Instr.checkKey e (9999 + 1) _ _).run Tryz.prog w = _
 unfold Instr.checkKey nodeP
 simp only [Sem.run_bind, run_underlying Tryz.underlying22, Result.andThen]
 rfl
theorem PMap.lookup {w : World} {b k v : Nat} {l : List (Nat × Nat)} (h : PMap w b l) (hx : ∀ x ∈ l, Cells w x.1) (hd : (l.map (·.1)).Nodup) (hm : (k, v) ∈ l) :
 (Instr.lookup 25 (.map (some b)) (nodeP k) false).run Tryz.prog w = .ok (.int .i64 v) w := by
 obtain ⟨es, clock, hb, he⟩ := h
 obtain ⟨j, hj⟩ := key_some (hx _ hm) he hx hd hm
 unfold Instr.lookup
 simp [run_underlying Tryz.underlying25, Go.MapKept.run_getObj_map hb, check_node, hj, Result.andThen]
theorem PMap.update {w : World} {b k v : Nat} {l : List (Nat × Nat)} (h : PMap w b l) (hk : Cells w k) (hx : ∀ x ∈ l, Cells w x.1 ∧ x.1 ≠ k) :
 ∃ w', (Instr.mapUpdate 25 (.map (some b)) (nodeP k) (.int .i64 v)).run Tryz.prog w = .ok () w' ∧ PMap w' b (l ++ [(k, v)]) ∧ w.grownBy w' (some b) := by
 obtain ⟨es, clock, hb, he⟩ := h
 have hj := key_none hk he hx
 refine ⟨setBlock w b (.map (es.push ⟨nodeP k, .int .i64 v, clock⟩) (clock + 1)), ?_, ⟨_, _, heap_setBlock_same hb _, ?_⟩, ⟨rfl, rfl, rfl, by simp [setBlock], fun i _ hi => heap_setBlock_other hb _ (fun e => hi (by rw [e]))⟩⟩
 ·unfold Instr.mapUpdate
  simp [run_underlying Tryz.underlying25, Go.MapKept.run_getObj_map hb, check_node, hj, Go.MapKept.run_setObj_map _ hb, Result.andThen, setBlock]
 ·rw [Array.toList_push, List.map_append, List.map_append, he]
  rfl
theorem wpList_mapUpdate_node (w : World) {ops : Array Oper} {rest : List Oper} {o : Oper} {a : Act} {Q : Exit → Act → World → Prop}
 (hg : o.guard = none) (m x y : Operand) (hop : o.op = Op.mapUpdate 25 m x y) (b k v : Nat) (l : List (Nat × Nat))
 (hm : a.eval m = .map (some b)) (hx : a.eval x = nodeP k) (hv : a.eval y = .int .i64 v) (h : PMap w b l) (hk : Cells w k) (hl : ∀ x ∈ l, Cells w x.1 ∧ x.1 ≠ k)
 (hK : ∀ w', PMap w' b (l ++ [(k, v)]) → w.grownBy w' (some b) → wpList Tryz.prog ops Q rest (a.put o.dst undef) w') :
 wpList Tryz.prog ops Q (o :: rest) a w := by
 refine wpList_plain hg fun K' hK' => ?_
 obtain ⟨w', hrun, r1, r2⟩ := h.update (v := v) hk hl
 unfold Oper.wp
 simp [execOp, hop, hm, hx, hv, hrun, Result.andThen]
 exact hK' _ _ (hK w' r1 r2)
theorem wpList_lookup_node (w : World) {ops : Array Oper} {rest : List Oper} {o : Oper} {a : Act} {Q : Exit → Act → World → Prop}
 (hg : o.guard = none) (m x : Operand) (hop : o.op = Op.lookup 25 m x false) (b k v : Nat) (l : List (Nat × Nat))
 (hm : a.eval m = .map (some b)) (hx : a.eval x = nodeP k) (h : PMap w b l) (hl : ∀ x ∈ l, Cells w x.1) (hd : (l.map (·.1)).Nodup) (hin : (k, v) ∈ l)
 (hK : wpList Tryz.prog ops Q rest (a.put o.dst (.int .i64 v)) w) :
 wpList Tryz.prog ops Q (o :: rest) a w := by
 refine wpList_plain hg fun K' hK' => ?_
 have hrun := h.lookup hl hd hin
 unfold Oper.wp
 simp [execOp, hop, hm, hx, hrun, Result.andThen]
 exact hK' _ _ hK
theorem PMap.len {w : World} {b : Nat} {l : List (Nat × Nat)} (h : PMap w b l) : ∃ es clock, w.heap[b]? = some (.map es clock) ∧ es.size = l.length := by
 obtain ⟨es, clock, hb, he⟩ := h
 refine ⟨es, clock, hb, ?_⟩
 have := congrArg List.length he
 simpa using this
end Go.Proofs.YthjddclmfgpcmaaGreatDoor

namespace Go.Proofs.YthjddclmfgpcmaaGreatDoor
open Go Go.RowKit
set_option maxRecDepth 100000
set_option linter.unusedVariables false

set_option maxHeartbeats 4000000 in
theorem walk_Nu (p0 : Addr) {σ : Type} (Inv : σ → World → Prop) (g : σ → ATree → Bool × σ) (B : Nat) : ∀ (m : Nat) (a : ATree), a.many ≤ m → (∀ s w, Inv s w → TreeAt w B a) →
 ∀ s, (∀ x s', Reach g a s x s' → ∀ w, Inv s' w → Calls Tryz.prog 11 #[x.ptr, .pointer (some p0)] w fun e w' => e = .returned (.bool (g s' x).1) ∧ Inv (g s' x).2 w') →
 ∀ w, Inv s w → Calls Tryz.prog 10 #[a.ptr, .func (.func 11) #[] #[.pointer (some p0)]] w fun e w' => e = .returned (.tuple #[]) ∧ Inv (walkA g a s) w' := by
 intro m
 induction m with
 | zero => intro a h; exfalso; cases a; simp [ATree.many] at h
 | succ m ih =>
   intro a hm hT s hg w hI
   have IH := Lib.hid ih
   have HT := Lib.hid hT
   have HG := Lib.hid hg
   have HM := Lib.hid hm
   have HC := hg a s (.self a s) w hI
   rw [walkA_eq]
   unfold ATree.ptr at HC ⊢
   have hkid : ∀ (i : Nat) (k x : ATree) (s' : σ), (g s a).1 = true → a.kids[i]? = some k → Reach g k (walkL g (a.kids.take i) (g s a).2) x s' → Reach g a s x s' := fun i k x s' h1 h2 h3 => .kid h1 h2 h3
   obtain ⟨ok, s1, hgs⟩ : ∃ ok s1, g s a = (ok, s1) := ⟨_, _, rfl⟩
   rw [hgs] at HC hkid ⊢
   have HKID := Lib.hid hkid
   clear hkid
   have HC := Lib.hid HC
   clear ih hT hg hm hI hgs
   cases ok
   ·go_enter Tryz.func10, Tryz.ntmps10
    go_wp2_with fail
    refine HC.out.mono ?_
    rintro e w1 ⟨rfl, hI1⟩
    have HI1 := Lib.hid hI1
    clear hI1 HC
    go_wp2
    refine bodyPost_ret (results_none rfl _ _ _) rfl ?_
    exact ⟨rfl, HI1.out⟩
   ·simp only [if_true]
    go_enter Tryz.func10, Tryz.ntmps10
    go_wp2_with fail
    refine HC.out.mono ?_
    rintro e w1 ⟨rfl, hI1⟩
    have hT1 := HT.out _ _ hI1
    have hblk := hT1.blkOf
    have hrow := hT1.rowOf
    obtain ⟨p, cp, hv⟩ : ∃ p cp, a.v = .slice p a.kids.length cp := by
     rcases ownsRow_cases hrow with ⟨h1, h2⟩ | ⟨g0, cap0, h1, _⟩
     ·exact ⟨none, 0, by rw [h1, h2]⟩
     ·exact ⟨_, _, h1⟩
    rw [hv] at hblk
    have c3 : w1.cell? ⟨a.b, 3, none⟩ = some (.slice p a.kids.length cp) := by simp [World.cell?, hblk]
    have hlen : a.kids.length ≤ 9223372036854775807 := by
     rcases ownsRow_cases hrow with ⟨h1, h2⟩ | ⟨g0, cap0, h1, k1, k2, k3⟩
     ·omega
     ·unfold maxLen at k2; omega
    have HI1 := Lib.hid hI1
    have HV := Lib.hid hv
    obtain ⟨n, hn⟩ : ∃ n, n = a.kids.length := ⟨_, rfl⟩
    rw [← hn] at c3 hlen
    have HN := Lib.hid hn
    clear hI1 hT1 hblk hrow hv hn HC
    go_wp2_with fail
    go_loopw [19] (fun i wr => ∃ k : Nat, k ≤ n ∧ i = .int .i64 k ∧ Hid (Inv (walkL g (a.kids.take k) s1) wr)) (fun i _ => n - (intOf i).toNat)
    case atStart => exact ⟨0, Nat.zero_le _, rfl, Lib.hid (by simpa [walkL] using HI1.out)⟩
    case round =>
     obtain ⟨k, hk, rfl, HI⟩ := hrel
     by_cases hkn : k < n
     ·obtain ⟨x, hx⟩ : ∃ x, a.kids[k]? = some x := ⟨_, List.getElem?_eq_getElem (by rw [← HN.out]; exact hkn)⟩
      have hT2 := HT.out _ _ HI.out
      have hrow := hT2.rowOf
      rcases ownsRow_cases hrow with ⟨_, h2⟩ | ⟨g0, cap0, hv0, k1, k2, k3⟩
      ·rw [← HN.out] at h2; omega
      have hp : p = some ⟨g0, 0, none⟩ := by
       have := HV.out.symm.trans hv0
       simp only [Value.slice.injEq] at this
       exact this.1
      subst hp
      have cx := ownsRow_cell1 hrow (g := g0) (by rw [hv0]; rfl) (i := k) (x := x.ptr) (by rw [List.getElem?_map, hx]; rfl)
      unfold ATree.ptr at cx
      have hmem : x ∈ a.kids := List.mem_of_getElem? hx
      have hcall := IH.out x (by have := many_kid hmem; have := HM.out; omega) (fun s w h => (HT.out s w h).kid hmem) _ (fun y s' hy => HG.out y s' (HKID.out k x y s' (by first | rfl | trivial) hx hy)) _ HI.out
      unfold ATree.ptr at hcall
      have HCALL := Lib.hid hcall
      have HX := Lib.hid hx
      have hge : n ≤ cp := by
       have := HV.out.symm.trans hv0
       simp only [Value.slice.injEq] at this
       rw [HN.out, this.2.2]; exact k1
      clear hx hT2 hrow hv0 k1 k2 k3 hmem hcall
      go_wp2_with fail
      refine HCALL.out.mono ?_
      rintro e w2 ⟨rfl, hI2⟩
      have HI2 := Lib.hid hI2
      clear hI2 HCALL
      go_wp2
      go_roundw
      case rel => exact ⟨k + 1, by omega, by go_num, Lib.hid (by rw [take_succ_kid HX.out, walkL_snoc]; exact HI2.out)⟩
      case measure => simp [intOf]; omega
     ·have hk2 : k = n := by omega
      subst hk2
      go_wp2
      go_end0
      refine ⟨rfl, ?_⟩
      have := HI.out
      rwa [List.take_of_length_le (by rw [← HN.out]; exact Nat.le_refl _)] at this
end Go.Proofs.YthjddclmfgpcmaaGreatDoor

namespace Go.Proofs.YthjddclmfgpcmaaGreatDoor
open Go Go.RowKit
set_option maxRecDepth 100000
set_option linter.unusedVariables false

def numG (l : List (Nat × Nat)) (a : ATree) : Bool × List (Nat × Nat) := (true, l ++ [(a.b, l.length)])
mutual
theorem num_keys : ∀ (a : ATree) (l : List (Nat × Nat)), (walkA numG a l).map (·.1) = l.map (·.1) ++ a.subs.map (·.b)
 | .mk b v k t n ks, l => by
   simp only [walkA, numG, if_true, ATree.subs, List.map_cons]
   rw [num_keysL ks]
   simp [ATree.b]
theorem num_keysL : ∀ (ks : List ATree) (l : List (Nat × Nat)), (walkL numG ks l).map (·.1) = l.map (·.1) ++ (subsL ks).map (·.b)
 | [], l => by simp [walkL, subsL]
 | a :: ks, l => by
   simp only [walkL, subsL, List.map_append]
   rw [num_keysL ks, num_keys a, List.append_assoc]
end
theorem subsL_app (l m : List ATree) : subsL (l ++ m) = subsL l ++ subsL m := by
 induction l with
 | nil => rfl
 | cons a l ih => simp only [List.cons_append, subsL, ih, List.append_assoc]
theorem subs_eq (a : ATree) : a.subs = a :: subsL a.kids := by cases a; rfl
theorem subsL_at {l : List ATree} {i : Nat} {k : ATree} (h : l[i]? = some k) : subsL l = subsL (l.take i) ++ (k.subs ++ subsL (l.drop (i + 1))) := by
 obtain ⟨hi, hk⟩ := List.getElem?_eq_some_iff.1 h
 have : l = l.take i ++ (k :: l.drop (i + 1)) := by
  rw [← hk, List.getElem_cons_drop, List.take_append_drop]
 rw [show subsL l = subsL (l.take i ++ (k :: l.drop (i + 1))) from congrArg subsL this, subsL_app]
 rfl
theorem reach_fresh {a x : ATree} {s s' : List (Nat × Nat)} (h : Reach numG a s x s') : (s.map (·.1) ++ a.subs.map (·.b)).Nodup → x.b ∉ s'.map (·.1) := by
 induction h with
 | self a s =>
   intro hd hin
   exact (List.nodup_append.1 hd).2.2 _ hin _ (List.mem_map.2 ⟨a, subs_self a, rfl⟩) rfl
 | @kid a k x s s' i ok hk h ih =>
   intro hd
   refine ih ?_
   rw [num_keysL]
   simp only [numG, List.map_append, List.map_cons, List.map_nil]
   refine List.Nodup.sublist ?_ hd
   rw [subs_eq a, subsL_at hk]
   simp only [List.map_cons, List.map_append, List.append_assoc, List.cons_append, List.nil_append]
   refine List.Sublist.append (List.Sublist.refl _) (List.Sublist.cons_cons _ (List.Sublist.append (List.Sublist.refl _) (List.sublist_append_left _ _)))

/-- the map and its cell -/
structure NInv (w0 : World) (c mb : Nat) (l : List (Nat × Nat)) (w : World) : Prop where
 cell : w.heap[c]? = some (.cells #[.map (some mb)] 25 (0, 0))
 map : PMap w mb l
 bel : Below w0.heap.size w0 w
 le : w0.heap.size ≤ mb
 has : ∀ x ∈ l, Cells w0 x.1
theorem Cells.bel {w0 w : World} {k : Nat} (h : Cells w0 k) (g : Below w0.heap.size w0 w) : Cells w k := by
 obtain ⟨c, t, h⟩ := h
 exact ⟨c, t, (g.block k (Array.getElem?_eq_some_iff.1 h).1).trans h⟩
theorem TreeAt.cellsOf {w : World} {B : Nat} {a : ATree} (h : TreeAt w B a) : Cells w a.b := ⟨_, _, h.blkOf⟩

set_option maxHeartbeats 2000000 in
theorem num1_any (w0 : World) (c mb B : Nat) (hcm : c ≠ mb) (x : ATree) (hx : TreeAt w0 B x) (l : List (Nat × Nat)) (w : World) (hI : NInv w0 c mb l w) (hf : x.b ∉ l.map (·.1)) :
 Calls Tryz.prog 11 #[x.ptr, .pointer (some ⟨c, 0, none⟩)] w fun e w' => e = .returned (.bool (numG l x).1) ∧ NInv w0 c mb (numG l x).2 w' := by
 have HI := Lib.hid hI
 obtain ⟨es, clock, hb, hes⟩ := hI.map.len
 have hln : ∀ ty, (Builtin.len_ #[25] ty #[.map (some mb)]).run Tryz.prog w = .ok (.int .i64 es.size) w := fun ty => by
  simp [Builtin.len_, run_underlying Tryz.underlying25, Go.MapKept.run_getObj_map hb, Result.andThen, goInt]
 have cc : w.cell? ⟨c, 0, none⟩ = some (.map (some mb)) := by simp [World.cell?, hI.cell]
 have HK := Lib.hid (hx.cellsOf.bel hI.bel)
 have HL := Lib.hid (show ∀ y ∈ l, Cells w y.1 ∧ y.1 ≠ x.b from fun y hy => ⟨(hI.has y hy).bel hI.bel, fun e => hf (List.mem_map.2 ⟨y, hy, e⟩)⟩)
 have HX := Lib.hid hx
 have HE := Lib.hid hes
 have HB := Lib.hid (Array.getElem?_eq_some_iff.1 hI.cell).1
 clear hI hx hf hes
 unfold ATree.ptr
 simp only [numG]
 go_enter Tryz.func11, Tryz.ntmps11
 go_wp2_with (at_mapUpdate; go_must (refine wpList_mapUpdate_node _ rfl _ _ _ rfl mb x.b es.size l rfl rfl rfl HI.out.map HK.out HL.out ?_); intro w1 hp1 hg1; have HP := Lib.hid hp1; have HG := Lib.hid hg1; clear hp1 hg1)
 go_ret
 refine ⟨rfl, ?_, ?_, ?_, HI.out.le, ?_⟩
 ·exact (HG.out.block c HB.out (fun e => hcm (Option.some.inj e))).trans HI.out.cell
 ·rw [← HE.out]; exact HP.out
 ·exact HI.out.bel.grown HG.out HI.out.bel.size fun k hk => by cases hk; exact HI.out.le
 ·intro y hy
  rcases List.mem_append.1 hy with h | h
  ·exact HI.out.has y h
  ·simp only [List.mem_singleton] at h
   rw [h]
   exact HX.out.cellsOf

theorem subs_length (a : ATree) : a.subs.length = a.many := by
 obtain ⟨b, v, k, t, n, ks⟩ := a
 simp only [ATree.subs, ATree.many, List.length_cons, subsL_len]
set_option maxHeartbeats 2000000 in
theorem number_any (w : World) (B : Nat) (a : ATree) (hT : TreeAt w B a) (hd : (a.subs.map (·.b)).Nodup) :
 Calls Tryz.prog 5 #[a.ptr] w fun e w' => ∃ mb, e = .returned (.map (some mb)) ∧ PMap w' mb (walkA numG a []) ∧ Below w.heap.size w w' ∧ w.heap.size ≤ mb := by
 have hmf : ∀ (fn : Fn) (first cap : Array Value) (w : World), (Instr.makeFunc fn first cap).run Tryz.prog w = .ok (.func fn first cap) w := fun _ _ _ _ => rfl
 have hmm : ∀ w : World, (Instr.makeMap 25 none).run Tryz.prog w = .ok (.map (some w.heap.size)) (w.alloc (.map #[] 0)) := fun w => run_makeMap _ w
 have HW := Lib.hid (fun (w1 : World) (h : NInv w (w.heap.size + 1) w.heap.size [] w1) => walk_Nu ⟨w.heap.size + 1, 0, none⟩ (NInv w (w.heap.size + 1) w.heap.size) numG B a.many a (Nat.le_refl _) (fun s w1 h => hT.keep fun k _ hk => h.bel.block k hk) []
  (fun x s hx w1 h => num1_any w (w.heap.size + 1) w.heap.size B (by omega) x (subs_tree hT hx.sub) s w1 h (reach_fresh hx (by simpa using hd))) w1 h)
 have hstart : NInv w (w.heap.size + 1) w.heap.size [] ((w.alloc (.map #[] 0)).alloc (.cells #[.map (some w.heap.size)] 25)) := by
  refine ⟨?_, ⟨#[], 0, ?_, rfl⟩, ((Below.refl _ _).alloc (Nat.le_refl _) _).alloc (by simp) _, Nat.le_refl _, fun _ h => by cases h⟩
  ·have := (Go.MapKept.heap_alloc (w.alloc (.map #[] 0)) (.cells #[.map (some w.heap.size)] 25)).1
   simpa using this
  ·exact ((Go.MapKept.heap_alloc (w.alloc (.map #[] 0)) (.cells #[.map (some w.heap.size)] 25)).2 _ (by simp)).trans (Go.MapKept.heap_alloc w (.map #[] 0)).1
 have HS := Lib.hid hstart
 clear hstart hT hd
 unfold ATree.ptr at HW ⊢
 go_enter Tryz.func5, Tryz.ntmps5
 go_wp2_with fail
 refine (HW.out _ HS.out).mono ?_
 rintro e w1 ⟨rfl, hI⟩
 have cc : w1.cell? ⟨w.heap.size + 1, 0, none⟩ = some (.map (some w.heap.size)) := by simp [World.cell?, hI.cell]
 have HI := Lib.hid hI
 clear hI HS HW
 go_wp2
 go_ret
 exact ⟨_, rfl, HI.out.map, HI.out.bel, HI.out.le⟩
end Go.Proofs.YthjddclmfgpcmaaGreatDoor
