/- Maps from nodes to numbers. Package tree: Walk with run.Number$1. Package run: Number. The document's answer: what its reading computes, and that it is what package tree's computes. -/
import Derived.Test.YtgmnfgljkocnpaaGreatDoorJ01
import Derived.Test.YtgmnfgljkocnpaaGreatDoorJ12
import Derived.LaidEql
import Derived.Test.YtgmnfgljkocnpaaGreatDoorJ09
import Derived.Test.YtgmnfgljkocnpaaGreatDoorJ04
namespace Go.Proofs.YtgmnfgljkocnpaaGreatDoor
open Go Go.RowKit Go.ChangeMaps Go.MapKept
set_option maxRecDepth 100000
set_option maxHeartbeats 20000000
set_option linter.unusedVariables false
def Z32 (b : Nat) : Value := .pointer (some ⟨b, 0, none⟩)
def Z47 (w : World) (k : Nat) : Prop := ∃ c t, w.heap[k]? = some (.cells c t (0, 0))
def PMap (w : World) (b : Nat) (l : List (Nat × Nat)) : Prop :=
 ∃ es clock, w.heap[b]? = some (.map es clock) ∧ es.toList.map (fun e => (e.key, e.val)) = l.map (fun x => (Z32 x.1, Value.int .i64 x.2)) ∧ Go.MapKept.Stamped es clock
theorem Z7e (w : World) (a b : Nat) (ha : Z47 w a) (hb : Z47 w b) : (Op.equal 22 (Z32 a) (Z32 b)).run Tryz.prog w = .ok (decide (a = b)) w := by
 obtain ⟨c1, t1, h1⟩ := ha;obtain ⟨c2, t2, h2⟩ := hb;have hsz : (sizeOf 44).run Tryz.prog w = .ok 4 w := by kernel_rfl
 show (Op.equalIn (9999 + 1) _ _ _).run Tryz.prog w = _;unfold Op.equalIn Z32;simp only [Sem.run_bind, run_underlying Tryz.underlying22, Result.andThen, hsz];by_cases h : a = b
 ·subst h;simp [run_sameAddr_same]
 ·have hne : (⟨a, 0, none⟩ : Addr) ≠ ⟨b, 0, none⟩ := fun e => h (congrArg Addr.block e);rw [decide_eq_false h];simp;exact run_sameAddr_other w hne h1 h2
theorem Zh2 (w : World) (k : Nat) (hk : Z47 w k) : ∀ (es : List MapEntry) (l : List (Nat × Nat)) (i : Nat), es.map (fun e => (e.key, e.val)) = l.map (fun x => (Z32 x.1, Value.int .i64 x.2)) → (∀ x ∈ l, Z47 w x.1 ∧ x.1 ≠ k) →
 (Instr.findAsking 22 (Z32 k) es i).run Tryz.prog w = .ok none w := by
 intro es;induction es with
 | nil => intro l i _ _; rfl
 | cons e es ih =>
   intro l i hl hx;cases l with
   | nil => simp at hl
   | cons x l =>
     simp only [List.map_cons, List.cons.injEq, Prod.mk.injEq] at hl;obtain ⟨⟨h1, h2⟩, h3⟩ := hl;have hx0 := hx x (by simp);unfold Instr.findAsking;rw [h1];simp only [Sem.run_bind, Z7e w k x.1 hk hx0.1, Result.andThen];rw [show decide (k = x.1) = false by simp; exact fun e => hx0.2 e.symm];exact ih l (i + 1) h3 fun y hy => hx y (List.mem_cons_of_mem _ hy)
theorem Zho (w : World) (k v : Nat) (hk : Z47 w k) : ∀ (es : List MapEntry) (l : List (Nat × Nat)) (i : Nat), es.map (fun e => (e.key, e.val)) = l.map (fun x => (Z32 x.1, Value.int .i64 x.2)) → (∀ x ∈ l, Z47 w x.1) → (l.map (·.1)).Nodup → (k, v) ∈ l →
 ∃ j, (Instr.findAsking 22 (Z32 k) es i).run Tryz.prog w = .ok (some (j, .int .i64 v)) w := by
 intro es;induction es with
 | nil => intro l i hl _ _ hm; cases l; (cases hm); (simp at hl)
 | cons e es ih =>
   intro l i hl hx hd hm;cases l with
   | nil => cases hm
   | cons x l =>
     simp only [List.map_cons, List.cons.injEq, Prod.mk.injEq] at hl;obtain ⟨⟨h1, h2⟩, h3⟩ := hl;have hx0 := hx x (by simp);rw [List.map_cons, List.nodup_cons] at hd;unfold Instr.findAsking;rw [h1];simp only [Sem.run_bind, Z7e w k x.1 hk hx0, Result.andThen];by_cases hkx : k = x.1
     ·have hv : x = (k, v) := by
       rcases List.mem_cons.1 hm with h | h;·exact h.symm
       ·exact absurd (List.mem_map.2 ⟨(k, v), h, hkx⟩) hd.1
      rw [decide_eq_true hkx];refine ⟨i, ?_⟩;rw [h2, hv];rfl
     ·rw [decide_eq_false hkx];refine ih l (i + 1) h3 (fun y hy => hx y (List.mem_cons_of_mem _ hy)) hd.2 ?_;rcases List.mem_cons.1 hm with h | h;·exact absurd (by rw [← h]) hkx
      ·exact h
theorem Zco (k : Nat) (es : List MapEntry) (l : List (Nat × Nat)) (h : es.map (fun e => (e.key, e.val)) = l.map (fun x => (Z32 x.1, Value.int .i64 x.2))) :
 (l = [] ∧ Instr.findNow (.pointer 44) (Z32 k) es 0 = some none) ∨ (l ≠ [] ∧ Instr.findNow (.pointer 44) (Z32 k) es 0 = none) := by
 cases es with
 | nil =>
   cases l with
   | nil => exact .inl ⟨rfl, rfl⟩
   | cons x l => simp at h
 | cons e es =>
   cases l with
   | nil => simp at h
   | cons x l =>
     simp only [List.map_cons, List.cons.injEq, Prod.mk.injEq] at h;refine .inr ⟨by simp, ?_⟩;unfold Instr.findNow;rw [h.1.1];rfl
theorem Zhr {w : World} {k : Nat} (hk : Z47 w k) {es : List MapEntry} {l : List (Nat × Nat)} (h : es.map (fun e => (e.key, e.val)) = l.map (fun x => (Z32 x.1, Value.int .i64 x.2))) (hx : ∀ x ∈ l, Z47 w x.1 ∧ x.1 ≠ k) :
 (Instr.findKey 22 (Z32 k) es).run Tryz.prog w = .ok none w := by
 unfold Instr.findKey;simp only [Sem.run_bind, run_underlying Tryz.underlying22, Result.andThen];rcases Zco k es l h with ⟨_, h1⟩ | ⟨_, h1⟩;·rw [h1]; rfl
 ·rw [h1]; exact Zh2 w k hk es l 0 h hx
theorem Zhm {w : World} {k v : Nat} (hk : Z47 w k) {es : List MapEntry} {l : List (Nat × Nat)} (h : es.map (fun e => (e.key, e.val)) = l.map (fun x => (Z32 x.1, Value.int .i64 x.2))) (hx : ∀ x ∈ l, Z47 w x.1) (hd : (l.map (·.1)).Nodup) (hm : (k, v) ∈ l) :
 ∃ j, (Instr.findKey 22 (Z32 k) es).run Tryz.prog w = .ok (some (j, .int .i64 v)) w := by
 unfold Instr.findKey;simp only [Sem.run_bind, run_underlying Tryz.underlying22, Result.andThen];rcases Zco k es l h with ⟨h0, h1⟩ | ⟨_, h1⟩;·rw [h0] at hm; cases hm
 ·rw [h1]; exact Zho w k v hk es l 0 h hx hd hm
theorem Z9j (w : World) (e : Bool) (k : Nat) : (Instr.checkKey e 10000 22 (Z32 k)).run Tryz.prog w = .ok () w := by
 show (Instr.checkKey e (9999 + 1) _ _).run Tryz.prog w = _;unfold Instr.checkKey Z32;simp only [Sem.run_bind, run_underlying Tryz.underlying22, Result.andThen];rfl
theorem PMap.lookup {w : World} {b k v : Nat} {l : List (Nat × Nat)} (h : PMap w b l) (hx : ∀ x ∈ l, Z47 w x.1) (hd : (l.map (·.1)).Nodup) (hm : (k, v) ∈ l) :
 (Instr.lookup 74 (.map (some b)) (Z32 k) false).run Tryz.prog w = .ok (.int .i64 v) w := by
 obtain ⟨es, clock, hb, he, hst⟩ := h;obtain ⟨j, hj⟩ := Zhm (hx _ hm) he hx hd hm;unfold Instr.lookup;simp [run_underlying Tryz.underlying74, Go.MapKept.run_getObj_map hb, Z9j, hj, Result.andThen]
theorem PMap.update {w : World} {b k v : Nat} {l : List (Nat × Nat)} (h : PMap w b l) (hk : Z47 w k) (hx : ∀ x ∈ l, Z47 w x.1 ∧ x.1 ≠ k) :
 ∃ w', (Instr.mapUpdate 74 (.map (some b)) (Z32 k) (.int .i64 v)).run Tryz.prog w = .ok () w' ∧ PMap w' b (l ++ [(k, v)]) ∧ w.grownBy w' (some b) := by
 obtain ⟨es, clock, hb, he, hst⟩ := h;have hj := Zhr hk he hx;refine ⟨setBlock w b (.map (es.push ⟨Z32 k, .int .i64 v, clock⟩) (clock + 1)), ?_, ⟨_, _, heap_setBlock_same hb _, ?_, stamped_push hst fun x hx' => ?_⟩, ⟨rfl, rfl, rfl, by simp [setBlock], fun i _ hi => heap_setBlock_other hb _ (fun e => hi (by rw [e]))⟩⟩
 ·unfold Instr.mapUpdate;simp [run_underlying Tryz.underlying74, Go.MapKept.run_getObj_map hb, Z9j, hj, Go.MapKept.run_setObj_map _ hb, Result.andThen, setBlock]
 ·rw [Array.toList_push, List.map_append, List.map_append, he];rfl
 ·have h1 : (x.key, x.val) ∈ es.toList.map (fun e => (e.key, e.val)) := List.mem_map.2 ⟨x, hx', rfl⟩;rw [he] at h1;obtain ⟨y, hy, e⟩ := List.mem_map.1 h1;intro e2;have e3 : x.key = Z32 y.1 := (congrArg Prod.fst e).symm;rw [e3] at e2;unfold Z32 at e2;simp only [Value.pointer.injEq, Option.some.injEq, Addr.mk.injEq, and_true] at e2;exact (hx y hy).2 e2
theorem Z5r (w : World) {ops : Array Oper} {rest : List Oper} {o : Oper} {a : Act} {Q : Exit → Act → World → Prop}
 (hg : o.guard = none) (m x y : Operand) (hop : o.op = Op.mapUpdate 74 m x y) (b k v : Nat) (l : List (Nat × Nat))
 (hm : a.eval m = .map (some b)) (hx : a.eval x = Z32 k) (hv : a.eval y = .int .i64 v) (h : PMap w b l) (hk : Z47 w k) (hl : ∀ x ∈ l, Z47 w x.1 ∧ x.1 ≠ k)
 (hK : ∀ w', PMap w' b (l ++ [(k, v)]) → w.grownBy w' (some b) → wpList Tryz.prog ops Q rest (a.put o.dst undef) w') :
 wpList Tryz.prog ops Q (o :: rest) a w := by
 refine wpList_plain hg fun K' hK' => ?_;obtain ⟨w', hrun, r1, r2⟩ := h.update (v := v) hk hl;unfold Oper.wp;simp [execOp, hop, hm, hx, hv, hrun, Result.andThen];exact hK' _ _ (hK w' r1 r2)
theorem PMap.len {w : World} {b : Nat} {l : List (Nat × Nat)} (h : PMap w b l) : ∃ es clock, w.heap[b]? = some (.map es clock) ∧ es.size = l.length := by
 obtain ⟨es, clock, hb, he, hst⟩ := h;refine ⟨es, clock, hb, ?_⟩;have := congrArg List.length he;simpa using this
end Go.Proofs.YtgmnfgljkocnpaaGreatDoor
namespace Go.Proofs.YtgmnfgljkocnpaaGreatDoor
open Go Go.RowKit
set_option maxRecDepth 100000
set_option maxHeartbeats 20000000
set_option linter.unusedVariables false
theorem Zj3 (p0 : Addr) {σ : Type} (Inv : σ → World → Prop) (g : σ → ATree → Bool × σ) (B : Nat) : ∀ (m : Nat) (a : ATree), a.many ≤ m → (∀ s w, Inv s w → TreeAt w B a) →
 ∀ s, (∀ x s', Reach g a s x s' → ∀ w, Inv s' w → Calls Tryz.prog 70 #[x.ptr, .pointer (some p0)] w fun e w' => e = .returned (.bool (g s' x).1) ∧ Inv (g s' x).2 w') →
 ∀ w, Inv s w → Calls Tryz.prog 31 #[a.ptr, .func (.func 70) #[] #[.pointer (some p0)]] w fun e w' => e = .returned (.tuple #[]) ∧ Inv (Z2p g a s) w' := by
 intro m;induction m with
 | zero => intro a h; exfalso; cases a; simp [ATree.many] at h
 | succ m ih =>
   intro a hm hT s hg w hI;have IH := lh ih;have HT := lh hT;have HG := lh hg;have HM := lh hm;have HC := hg a s (.self a s) w hI;rw [Z64];unfold ATree.ptr at HC ⊢;have hkid : ∀ (i : Nat) (k x : ATree) (s' : σ), (g s a).1 = true → a.kids[i]? = some k → Reach g k (Z14 g (a.kids.take i) (g s a).2) x s' → Reach g a s x s' := fun i k x s' h1 h2 h3 => .kid h1 h2 h3;obtain ⟨ok, s1, hgs⟩ : ∃ ok s1, g s a = (ok, s1) := ⟨_, _, rfl⟩
   rw [hgs] at HC hkid ⊢;have HKID := lh hkid;clear hkid;have HC := lh HC;clear ih hT hg hm hI hgs;cases ok
   ·go_enter Tryz.func31, Tryz.ntmps31
    go_wp2_with fail
    refine HC.out.mono ?_;rintro e w1 ⟨rfl, hI1⟩;have HI1 := lh hI1;clear hI1 HC;go_wp2;refine bodyPost_ret (results_none rfl _ _ _) rfl ?_;exact ⟨rfl, HI1.out⟩
   ·simp only [if_true];go_enter Tryz.func31, Tryz.ntmps31
    go_wp2_with fail
    refine HC.out.mono ?_;rintro e w1 ⟨rfl, hI1⟩;have hT1 := HT.out _ _ hI1;have hblk := hT1.blkOf;have hrow := hT1.rowOf;obtain ⟨p, cp, hv⟩ : ∃ p cp, a.v = .slice p a.kids.length cp := by
     rcases Zc hrow with ⟨h1, h2⟩ | ⟨g0, cap0, h1, _⟩;·exact ⟨none, 0, by rw [h1, h2]⟩
     ·exact ⟨_, _, h1⟩
    rw [hv] at hblk;have c3 : w1.cell? ⟨a.b, 3, none⟩ = some (.slice p a.kids.length cp) := by simp [World.cell?, hblk]
    have hlen : a.kids.length ≤ 9223372036854775807 := by
     rcases Zc hrow with ⟨h1, h2⟩ | ⟨g0, cap0, h1, k1, k2, k3⟩;·omega
     ·unfold maxLen at k2; omega
    have HI1 := lh hI1;have HV := lh hv;obtain ⟨n, hn⟩ : ∃ n, n = a.kids.length := ⟨_, rfl⟩
    rw [← hn] at c3 hlen;have HN := lh hn;clear hI1 hT1 hblk hrow hv hn HC;go_wp2_with fail
    go_loopw [19] (fun i wr => ∃ k : Nat, k ≤ n ∧ i = .int .i64 k ∧ Hid (Inv (Z14 g (a.kids.take k) s1) wr)) (fun i _ => n - (intOf i).toNat)
    case atStart => exact ⟨0, Nat.zero_le _, rfl, lh (by simpa [Z14] using HI1.out)⟩
    case round =>
     obtain ⟨k, hk, rfl, HI⟩ := hrel;by_cases hkn : k < n
     ·obtain ⟨x, hx⟩ : ∃ x, a.kids[k]? = some x := ⟨_, List.getElem?_eq_getElem (by rw [← HN.out]; exact hkn)⟩
      have hT2 := HT.out _ _ HI.out;have hrow := hT2.rowOf;rcases Zc hrow with ⟨_, h2⟩ | ⟨g0, cap0, hv0, k1, k2, k3⟩;·rw [← HN.out] at h2; omega
      have hp : p = some ⟨g0, 0, none⟩ := by
       have := HV.out.symm.trans hv0;simp only [Value.slice.injEq] at this;exact this.1
      subst hp;have cx := Zo hrow (g := g0) (by rw [hv0]; rfl) (i := k) (x := x.ptr) (by rw [List.getElem?_map, hx]; rfl);unfold ATree.ptr at cx;have hmem : x ∈ a.kids := List.mem_of_getElem? hx;have hcall := IH.out x (by have := Z3n hmem; have := HM.out; omega) (fun s w h => (HT.out s w h).kid hmem) _ (fun y s' hy => HG.out y s' (HKID.out k x y s' (by first | rfl | trivial) hx hy)) _ HI.out;unfold ATree.ptr at hcall;have HCALL := lh hcall;have HX := lh hx;have hge : n ≤ cp := by
       have := HV.out.symm.trans hv0;simp only [Value.slice.injEq] at this;rw [HN.out, this.2.2]; exact k1
      clear hx hT2 hrow hv0 k1 k2 k3 hmem hcall;go_wp2_with fail
      refine HCALL.out.mono ?_;rintro e w2 ⟨rfl, hI2⟩;have HI2 := lh hI2;clear hI2 HCALL;go_wp2;go_roundw
      case rel => exact ⟨k + 1, by omega, by go_num, lh (by rw [Z0c HX.out, Z4d]; exact HI2.out)⟩
      case measure => simp [intOf]; omega
     ·have hk2 : k = n := by omega
      subst hk2;go_wp2;go_end0
      refine ⟨rfl, ?_⟩;have := HI.out;rwa [List.take_of_length_le (by rw [← HN.out]; exact Nat.le_refl _)] at this
def numG (l : List (Nat × Nat)) (a : ATree) : Bool × List (Nat × Nat) := (true, l ++ [(a.b, l.length)])
mutual
theorem Z9x : ∀ (a : ATree) (l : List (Nat × Nat)), (Z2p numG a l).map (·.1) = l.map (·.1) ++ a.subs.map (·.b)
 | .mk b v k t n ks, l => by
   simp only [Z2p, numG, if_true, ATree.subs, List.map_cons];rw [Z8f ks];simp [ATree.b]
theorem Z8f : ∀ (ks : List ATree) (l : List (Nat × Nat)), (Z14 numG ks l).map (·.1) = l.map (·.1) ++ (Z0x ks).map (·.b)
 | [], l => by simp [Z14, Z0x]
 | a :: ks, l => by
   simp only [Z14, Z0x, List.map_append];rw [Z8f ks, Z9x a, List.append_assoc]
end
theorem Z8r (l m : List ATree) : Z0x (l ++ m) = Z0x l ++ Z0x m := by
 induction l with
 | nil => rfl
 | cons a l ih => simp only [List.cons_append, Z0x, ih, List.append_assoc]
theorem Z7b (a : ATree) : a.subs = a :: Z0x a.kids := by cases a; rfl
theorem Zhl {l : List ATree} {i : Nat} {k : ATree} (h : l[i]? = some k) : Z0x l = Z0x (l.take i) ++ (k.subs ++ Z0x (l.drop (i + 1))) := by
 obtain ⟨hi, hk⟩ := List.getElem?_eq_some_iff.1 h;have : l = l.take i ++ (k :: l.drop (i + 1)) := by
  rw [← hk, List.getElem_cons_drop, List.take_append_drop]
 rw [show Z0x l = Z0x (l.take i ++ (k :: l.drop (i + 1))) from congrArg Z0x this, Z8r];rfl
theorem Zc4 {a x : ATree} {s s' : List (Nat × Nat)} (h : Reach numG a s x s') : (s.map (·.1) ++ a.subs.map (·.b)).Nodup → x.b ∉ s'.map (·.1) := by
 induction h with
 | self a s =>
   intro hd hin;exact (List.nodup_append.1 hd).2.2 _ hin _ (List.mem_map.2 ⟨a, Z8w a, rfl⟩) rfl
 | @kid a k x s s' i ok hk h ih =>
   intro hd;refine ih ?_;rw [Z8f];simp only [numG, List.map_append, List.map_cons, List.map_nil];refine List.Nodup.sublist ?_ hd;rw [Z7b a, Zhl hk];simp only [List.map_cons, List.map_append, List.append_assoc, List.cons_append, List.nil_append];refine List.Sublist.append (List.Sublist.refl _) (List.Sublist.cons_cons _ (List.Sublist.append (List.Sublist.refl _) (List.sublist_append_left _ _)))
structure NInv (w0 : World) (c mb : Nat) (l : List (Nat × Nat)) (w : World) : Prop where
 cell : w.heap[c]? = some (.cells #[.map (some mb)] 74 (0, 0))
 map : PMap w mb l
 bel : Below w0.heap.size w0 w
 le : w0.heap.size ≤ mb
 has : ∀ x ∈ l, Z47 w0 x.1
theorem Z47.bel {w0 w : World} {k : Nat} (h : Z47 w0 k) (g : Below w0.heap.size w0 w) : Z47 w k := by
 obtain ⟨c, t, h⟩ := h;exact ⟨c, t, (g.block k (Array.getElem?_eq_some_iff.1 h).1).trans h⟩
theorem TreeAt.cellsOf {w : World} {B : Nat} {a : ATree} (h : TreeAt w B a) : Z47 w a.b := ⟨_, _, h.blkOf⟩
theorem Zh5 (w0 : World) (c mb B : Nat) (hcm : c ≠ mb) (x : ATree) (hx : TreeAt w0 B x) (l : List (Nat × Nat)) (w : World) (hI : NInv w0 c mb l w) (hf : x.b ∉ l.map (·.1)) :
 Calls Tryz.prog 70 #[x.ptr, .pointer (some ⟨c, 0, none⟩)] w fun e w' => e = .returned (.bool (numG l x).1) ∧ NInv w0 c mb (numG l x).2 w' := by
 have HI := lh hI;obtain ⟨es, clock, hb, hes⟩ := hI.map.len;have hln : ∀ ty, (Builtin.len_ #[74] ty #[.map (some mb)]).run Tryz.prog w = .ok (.int .i64 es.size) w := fun ty => by
  simp [Builtin.len_, run_underlying Tryz.underlying74, Go.MapKept.run_getObj_map hb, Result.andThen, goInt]
 have cc : w.cell? ⟨c, 0, none⟩ = some (.map (some mb)) := by simp [World.cell?, hI.cell]
 have HK := lh (hx.cellsOf.bel hI.bel);have HL := lh (show ∀ y ∈ l, Z47 w y.1 ∧ y.1 ≠ x.b from fun y hy => ⟨(hI.has y hy).bel hI.bel, fun e => hf (List.mem_map.2 ⟨y, hy, e⟩)⟩);have HX := lh hx;have HE := lh hes;have HB := lh (Array.getElem?_eq_some_iff.1 hI.cell).1;clear hI hx hf hes;unfold ATree.ptr;simp only [numG];go_enter Tryz.func70, Tryz.ntmps70
 go_wp2_with (at_mapUpdate; go_must (refine Z5r _ rfl _ _ _ rfl mb x.b es.size l rfl rfl rfl HI.out.map HK.out HL.out ?_); intro w1 hp1 hg1; have HP := lh hp1; have HG := lh hg1; clear hp1 hg1)
 go_ret;refine ⟨rfl, ?_, ?_, ?_, HI.out.le, ?_⟩;·exact (HG.out.block c HB.out (fun e => hcm (Option.some.inj e))).trans HI.out.cell
 ·rw [← HE.out]; exact HP.out
 ·exact HI.out.bel.grown HG.out HI.out.bel.size fun k hk => by cases hk; exact HI.out.le
 ·intro y hy;rcases List.mem_append.1 hy with h | h;·exact HI.out.has y h
  ·simp only [List.mem_singleton] at h;rw [h];exact HX.out.cellsOf
theorem Z5j (a : ATree) : a.subs.length = a.many := by
 obtain ⟨b, v, k, t, n, ks⟩ := a;simp only [ATree.subs, ATree.many, List.length_cons, Z5q]
theorem Zea (w : World) (B : Nat) (a : ATree) (hT : TreeAt w B a) (hd : (a.subs.map (·.b)).Nodup) :
 Calls Tryz.prog 33 #[a.ptr] w fun e w' => ∃ mb, e = .returned (.map (some mb)) ∧ PMap w' mb (Z2p numG a []) ∧ Below w.heap.size w w' ∧ w.heap.size ≤ mb := by
 have hmf : ∀ (fn : Fn) (first cap : Array Value) (w : World), (Instr.makeFunc fn first cap).run Tryz.prog w = .ok (.func fn first cap) w := fun _ _ _ _ => rfl;have hmm : ∀ w : World, (Instr.makeMap 74 none).run Tryz.prog w = .ok (.map (some w.heap.size)) (w.alloc (.map #[] 0)) := fun w => run_makeMap _ w
 have HW := lh (fun (w1 : World) (h : NInv w (w.heap.size + 1) w.heap.size [] w1) => Zj3 ⟨w.heap.size + 1, 0, none⟩ (NInv w (w.heap.size + 1) w.heap.size) numG B a.many a (Nat.le_refl _) (fun s w1 h => hT.keep fun k _ hk => h.bel.block k hk) []
  (fun x s hx w1 h => Zh5 w (w.heap.size + 1) w.heap.size B (by omega) x (Z57 hT hx.sub) s w1 h (Zc4 hx (by simpa using hd))) w1 h)
 have hstart : NInv w (w.heap.size + 1) w.heap.size [] ((w.alloc (.map #[] 0)).alloc (.cells #[.map (some w.heap.size)] 74)) := by
  refine ⟨?_, ⟨#[], 0, ?_, rfl, Go.MapKept.stamped_empty 0⟩, ((Below.refl _ _).alloc (Nat.le_refl _) _).alloc (by simp) _, Nat.le_refl _, fun _ h => by cases h⟩
  ·have := (Go.MapKept.heap_alloc (w.alloc (.map #[] 0)) (.cells #[.map (some w.heap.size)] 74)).1;simpa using this
  ·exact ((Go.MapKept.heap_alloc (w.alloc (.map #[] 0)) (.cells #[.map (some w.heap.size)] 74)).2 _ (by simp)).trans (Go.MapKept.heap_alloc w (.map #[] 0)).1
 have HS := lh hstart;clear hstart hT hd;unfold ATree.ptr at HW ⊢;go_enter Tryz.func33, Tryz.ntmps33
 go_wp2_with fail
 refine (HW.out _ HS.out).mono ?_;rintro e w1 ⟨rfl, hI⟩;have cc : w1.cell? ⟨w.heap.size + 1, 0, none⟩ = some (.map (some w.heap.size)) := by simp [World.cell?, hI.cell]
 have HI := lh hI;clear hI HS HW;go_wp2;go_ret;exact ⟨_, rfl, HI.out.map, HI.out.bel, HI.out.le⟩
end Go.Proofs.YtgmnfgljkocnpaaGreatDoor
namespace Go.Proofs.YtgmnfgljkocnpaaGreatDoor
open Go Go.RowKit
set_option maxRecDepth 100000
set_option maxHeartbeats 20000000
structure RS where
 ts : List Tok
 f : Option (Int × Nat)
def gT : Tree := .mk 0 ByteArray.empty 0 []
def Z2q (e : Int) (σ : RS) : RS := if σ.f.isNone then ⟨σ.ts, some (e, (hdT σ.ts).at')⟩ else σ
def Zg (s : ByteArray) (σ : RS) : Bool := σ.f.isNone && isT s σ.ts
def advR (σ : RS) : RS := ⟨σ.ts.tail, σ.f⟩
def Z08 (s : ByteArray) (σ : RS) : RS := if σ.f.isNone then (if isT s σ.ts then advR σ else Z2q 3 σ) else σ
def Zj (σ : RS) : ByteArray × RS := if σ.f.isNone then (if (hdT σ.ts).kind = 1 then ((hdT σ.ts).text, advR σ) else (ByteArray.empty, Z2q 3 σ)) else (ByteArray.empty, σ)
abbrev RR := Option (Tree × RS)
def Z03 (p : RR) (k : Tree → RS → RR) : RR := match p with | none => none | some (t, σ) => k t σ
def Z1l (s : ByteArray) : Int := if Z0o s s_or then 25 else if Z0o s Z66 then 26 else if Z0o s Z41 then 27 else if Z0o s Z43 then 28 else if Z0o s Z4o then 29 else if Z0o s Z56 then 30 else if Z0o s Z67 then 31 else 0
def Z3c (level : Nat) (s : ByteArray) : Bool :=
 match level with
 | 0 => Z0o s s_or
 | 1 => Z0o s Z66
 | 2 => Z0o s Z41
 | 3 => Z0o s Z43
 | 4 => Z0o s Z4o || Z0o s Z56
 | 5 => Z0o s Z67
 | _ => false
def Z5o (σ : RS) : Int := if Zg Z4y σ then 32 else if Zg Z1j σ then 33 else if Zg Z1u σ then 34 else 0
def Z2i (s : ByteArray) : Int := if Z0o s Z4e then 19 else if Z0o s Z38 then 20 else if Z0o s Z5b then 21 else if Z0o s Z1c then 22 else 0
inductive RJob
 | prog (acc : List Tree)
 | braces (body : Bool)
 | bracesL (acc : List Tree)
 | params (acc : List Tree)
 | args (acc : List Tree)
 | props (acc : List Tree)
 | func (kind : Int) (text : ByteArray)
 | head
 | stmt
 | stmt2
 | value
 | pairs (level : Nat)
 | pairsL (level : Nat) (x : Tree)
 | single
 | singleL (x : Tree)
 | first
def Z3f (c : Bool) (σ : RS) : RS := if c then Z08 Z0p σ else σ
def Z4w (c : Bool) (σ : RS) : RS := if c then Z2q 4 σ else σ
def tryF (l : List Tree) (σ : RS) : RR := some (.mk 12 ByteArray.empty 0 l, if l.length = 1 then Z2q 3 σ else σ)
def Z3t (σ : RS) : Int := if Zg Z19 σ then 2 else if Zg Z1f σ then 3 else if Zg Z02 σ then 4 else 0
def Z1p (k : Int) (σ : RS) : RS := if decide (k = 4) && σ.f.isNone && !Zg s_eq σ then Z2q 3 σ else σ
def refF : Nat → RJob → Nat → RS → RR
 | 0, _, _, _ => none
 | f + 1, .prog acc, d, σ =>
   if σ.f.isNone && !decide ((hdT σ.ts).kind = 6) then Z03 (refF f .stmt 1 σ) fun x σ => refF f (.prog (acc ++ [x])) d σ
   else some (.mk 0 ByteArray.empty 0 acc, σ)
 | f + 1, .braces body, d, σ =>
   Z03 (refF f (.bracesL []) d (Z08 Zb σ)) fun l σ =>
    some (.mk 6 (if body && (Z08 Zm σ).f.isNone && Z1q l.kids then Z2b else ByteArray.empty) 0 l.kids, Z08 Zm σ)
 | f + 1, .bracesL acc, d, σ =>
   if σ.f.isNone && !Zg Zm σ then Z03 (refF f .stmt (d + 1) σ) fun x σ => refF f (.bracesL (acc ++ [x])) d σ
   else some (.mk 0 ByteArray.empty 0 acc, σ)
 | f + 1, .params acc, d, σ =>
   if σ.f.isNone && !Zg Z06 σ then
    if (Z4w (decide (acc.length = 8)) (Z3f (decide (0 < acc.length)) σ)).f.isNone then
     refF f (.params (acc ++ [.mk 23 (Zj (Z4w (decide (acc.length = 8)) (Z3f (decide (0 < acc.length)) σ))).1 0 []])) d (Zj (Z4w (decide (acc.length = 8)) (Z3f (decide (0 < acc.length)) σ))).2
    else refF f (.params acc) d (Z4w (decide (acc.length = 8)) (Z3f (decide (0 < acc.length)) σ))
   else some (.mk 0 ByteArray.empty 0 acc, Z08 Z06 σ)
 | f + 1, .args acc, d, σ =>
   if σ.f.isNone && !Zg Z06 σ then
    if (Z4w (decide (acc.length = 8)) (Z3f (decide (0 < acc.length)) σ)).f.isNone then
     Z03 (refF f .value (d + 1) (Z4w (decide (acc.length = 8)) (Z3f (decide (0 < acc.length)) σ))) fun v σ => refF f (.args (acc ++ [v])) d σ
    else refF f (.args acc) d (Z4w (decide (acc.length = 8)) (Z3f (decide (0 < acc.length)) σ))
   else some (.mk 0 ByteArray.empty 0 acc, Z08 Z06 σ)
 | f + 1, .props acc, d, σ =>
   if σ.f.isNone && !Zg Zm σ then
    if (Z4w (decide (acc.length = 8)) (Z3f (decide (0 < acc.length)) σ)).f.isNone then
     Z03 (refF f .value (d + 1) (Z08 Z2j (Zj (Z4w (decide (acc.length = 8)) (Z3f (decide (0 < acc.length)) σ))).2)) fun v σ' =>
      refF f (.props (acc ++ [.mk 39 (Zj (Z4w (decide (acc.length = 8)) (Z3f (decide (0 < acc.length)) σ))).1 0 [v]])) d σ'
    else refF f (.props acc) d (Z4w (decide (acc.length = 8)) (Z3f (decide (0 < acc.length)) σ))
   else some (.mk 0 ByteArray.empty 0 acc, Z08 Zm σ)
 | f + 1, .func kind text, d, σ =>
   Z03 (refF f (.params []) d (Z08 Z05 σ)) fun l σ => Z03 (refF f (.braces true) d σ) fun b σ => some (.mk kind text 0 [.mk 40 ByteArray.empty 0 l.kids, b], σ)
 | f + 1, .head, d, σ => Z03 (refF f .value (d + 1) (Z08 Z05 σ)) fun x σ => some (x, Z08 Z06 σ)
 | f + 1, .stmt, d, σ =>
   if 30 < d then some (gT, Z2q 4 σ)
   else if Zg Zb σ then refF f (.braces false) d σ
   else if Zg Zh σ then some (.mk 16 ByteArray.empty 0 [], advR σ)
   else if Zg Z8 σ then refF f (.func 5 (Zj (advR σ)).1) d (Zj (advR σ)).2
   else if Zg s_if σ then
    Z03 (refF f .head d (advR σ)) fun x σ => Z03 (refF f .stmt2 d σ) fun y σ =>
     if Zg Z5a σ then Z03 (refF f .stmt2 d (advR σ)) fun z σ => some (.mk 7 ByteArray.empty 0 [x, y, z], σ)
     else some (.mk 7 ByteArray.empty 0 [x, y], σ)
   else if Zg Zp σ || Zg Z01 σ then
    Z03 (refF f .head d (advR σ)) fun x σ1 => Z03 (refF f .stmt2 d σ1) fun y σ2 => some (.mk (if Zg Z01 σ then 9 else 8) ByteArray.empty 0 [x, y], σ2)
   else if Zg Z1i σ then
    Z03 (refF f (.braces false) d (advR σ)) fun b σ =>
     (fun (k : List Tree → RS → RR) =>
      if Zg Z23 σ then
       Z03 (refF f (.braces false) d (Z08 Z06 (Zj (Z08 Z05 (advR σ))).2)) fun c σ' => k [b, .mk 13 (Zj (Z08 Z05 (advR σ))).1 0 [c]] σ'
      else k [b] σ) fun l σ =>
     if Zg Zz σ then Z03 (refF f (.braces false) d (advR σ)) fun c σ => tryF (l ++ [.mk 14 ByteArray.empty 0 [c]]) σ
     else tryF l σ
   else if Z3t σ ≠ 0 then
    if Zg s_eq (Z1p (Z3t σ) (Zj (advR σ)).2) then
     Z03 (refF f .value (d + 1) (advR (Z1p (Z3t σ) (Zj (advR σ)).2))) fun x σ' => some (.mk (Z3t σ) (Zj (advR σ)).1 0 [x], Z08 Zh σ')
    else some (.mk (Z3t σ) (Zj (advR σ)).1 0 [], Z08 Zh (Z1p (Z3t σ) (Zj (advR σ)).2))
   else if Zg Z0b σ then
    if Zg Zh (advR σ) then some (.mk 10 ByteArray.empty 0 [], Z08 Zh (advR σ))
    else Z03 (refF f .value (d + 1) (advR σ)) fun x σ => some (.mk 10 ByteArray.empty 0 [x], Z08 Zh σ)
   else if Zg Z1k σ then Z03 (refF f .value (d + 1) (advR σ)) fun x σ => some (.mk 11 ByteArray.empty 0 [x], Z08 Zh σ)
   else Z03 (refF f .value (d + 1) σ) fun x σ => some (.mk 15 ByteArray.empty 0 [x], Z08 Zh σ)
 | f + 1, .stmt2, d, σ => if σ.f.isNone then refF f .stmt (d + 1) σ else some (gT, σ)
 | f + 1, .value, d, σ =>
   if σ.f.isNone then
    if 30 < d then some (gT, Z2q 4 σ)
    else Z03 (refF f (.pairs 0) d σ) fun x σ1 =>
     if Zg s_eq σ1 then
      if x.kind = 23 ∨ x.kind = 36 then Z03 (refF f .value (d + 1) (advR σ1)) fun y σ2 => some (.mk 24 ByteArray.empty 0 [x, y], σ2)
      else some (gT, Z2q 1 ⟨σ.ts, σ1.f⟩)
     else some (x, σ1)
   else some (gT, σ)
 | f + 1, .pairs level, d, σ =>
   if 6 ≤ level then refF f .single d σ
   else Z03 (refF f (.pairs (level + 1)) d σ) fun x σ => refF f (.pairsL level x) d σ
 | f + 1, .pairsL level x, d, σ =>
   if σ.f.isNone && decide ((hdT σ.ts).kind = 5) && Z3c level (hdT σ.ts).text then
    Z03 (refF f (.pairs (level + 1)) d (advR σ)) fun y σ' => refF f (.pairsL level (.mk (Z1l (hdT σ.ts).text) ByteArray.empty 0 [x, y])) d σ'
   else some (x, σ)
 | f + 1, .single, d, σ =>
   if Z5o σ ≠ 0 then
    if 30 < d + 1 then some (gT, Z2q 4 (advR σ))
    else Z03 (refF f .single (d + 1) (advR σ)) fun x σ' => some (.mk (Z5o σ) ByteArray.empty 0 [x], σ')
   else Z03 (refF f .first d σ) fun x σ => refF f (.singleL x) d σ
 | f + 1, .singleL x, d, σ =>
   if Zg Z8v σ then refF f (.singleL (.mk 36 (Zj (advR σ)).1 0 [x])) d (Zj (advR σ)).2
   else if Zg Z05 σ then Z03 (refF f (.args []) d (advR σ)) fun l σ => refF f (.singleL (.mk 35 ByteArray.empty 0 (x :: l.kids))) d σ
   else some (x, σ)
 | f + 1, .first, d, σ =>
   if σ.f.isNone then
    if (hdT σ.ts).kind = 1 then some (.mk 23 (hdT σ.ts).text 0 [], advR σ)
    else if (hdT σ.ts).kind = 3 then some (.mk 17 ByteArray.empty (hdT σ.ts).n [], advR σ)
    else if (hdT σ.ts).kind = 4 then some (.mk 18 (hdT σ.ts).text 0 [], advR σ)
    else if Zg Z05 σ then refF f .head d σ
    else if Zg Z8 σ then
     if (hdT (advR σ).ts).kind = 1 then refF f (.func 37 (Zj (advR σ)).1) d (Zj (advR σ)).2
     else refF f (.func 37 ByteArray.empty) d (advR σ)
    else if Zg Zb σ then Z03 (refF f (.props []) d (advR σ)) fun l σ => some (.mk 38 ByteArray.empty 0 l.kids, σ)
    else if (hdT σ.ts).kind = 2 ∧ Z2i (hdT σ.ts).text ≠ 0 then some (.mk (Z2i (hdT σ.ts).text) ByteArray.empty 0 [], advR σ)
    else some (gT, Z2q 3 σ)
   else some (gT, σ)
def Z18 (r : RR) (e : Int × Nat) : Prop := ∃ t ts, r = some (t, ⟨ts, some e⟩)
theorem Z48 (s : ByteArray) (ts : List Tok) (e : Int × Nat) : Z08 s ⟨ts, some e⟩ = ⟨ts, some e⟩ := rfl
theorem Z4r (s : ByteArray) (ts : List Tok) (e : Int × Nat) : Zg s ⟨ts, some e⟩ = false := rfl
theorem Zg0 (ts : List Tok) (e : Int × Nat) : Zj ⟨ts, some e⟩ = (ByteArray.empty, ⟨ts, some e⟩) := rfl
theorem Z8o (f d : Nat) (ts : List Tok) (e : Int × Nat) : refF (f + 1) .value d ⟨ts, some e⟩ = some (gT, ⟨ts, some e⟩) := by simp [refF]
theorem Z8j (f d : Nat) (ts : List Tok) (e : Int × Nat) : refF (f + 1) .stmt2 d ⟨ts, some e⟩ = some (gT, ⟨ts, some e⟩) := by simp [refF]
theorem Z5z (f d : Nat) (acc : List Tree) (ts : List Tok) (e : Int × Nat) : refF (f + 1) (.params acc) d ⟨ts, some e⟩ = some (.mk 0 ByteArray.empty 0 acc, ⟨ts, some e⟩) := by simp [refF, Z48]
theorem Zcm (f d : Nat) (acc : List Tree) (ts : List Tok) (e : Int × Nat) : refF (f + 1) (.args acc) d ⟨ts, some e⟩ = some (.mk 0 ByteArray.empty 0 acc, ⟨ts, some e⟩) := by simp [refF, Z48]
theorem Z6t (f d : Nat) (acc : List Tree) (ts : List Tok) (e : Int × Nat) : refF (f + 1) (.props acc) d ⟨ts, some e⟩ = some (.mk 0 ByteArray.empty 0 acc, ⟨ts, some e⟩) := by simp [refF, Z48]
theorem Z6c (f d : Nat) (acc : List Tree) (ts : List Tok) (e : Int × Nat) : refF (f + 1) (.bracesL acc) d ⟨ts, some e⟩ = some (.mk 0 ByteArray.empty 0 acc, ⟨ts, some e⟩) := by simp [refF]
theorem Zh1 (f d : Nat) (acc : List Tree) (ts : List Tok) (e : Int × Nat) : refF (f + 1) (.prog acc) d ⟨ts, some e⟩ = some (.mk 0 ByteArray.empty 0 acc, ⟨ts, some e⟩) := by simp [refF]
theorem Z49 (f d : Nat) (b : Bool) (ts : List Tok) (e : Int × Nat) : refF (f + 2) (.braces b) d ⟨ts, some e⟩ = some (.mk 6 ByteArray.empty 0 [], ⟨ts, some e⟩) := by
 rw [refF, Z48, Z6c]; simp [Z03, Z48, Tree.kids]
theorem Z9w (f d lv : Nat) (x : Tree) (ts : List Tok) (e : Int × Nat) : refF (f + 1) (.pairsL lv x) d ⟨ts, some e⟩ = some (x, ⟨ts, some e⟩) := by simp [refF]
theorem Z6b (f d : Nat) (x : Tree) (ts : List Tok) (e : Int × Nat) : refF (f + 1) (.singleL x) d ⟨ts, some e⟩ = some (x, ⟨ts, some e⟩) := by simp [refF, Z4r]
theorem Zgz (f d : Nat) (k : Int) (s : ByteArray) (ts : List Tok) (e : Int × Nat) : Z18 (refF (f + 3) (.func k s) d ⟨ts, some e⟩) e := by
 rw [refF, Z48, Z5z];simp only [Z03];rw [Z49];exact ⟨_, _, rfl⟩
def Zj0 (t : Tok) : Prop := (t.kind = 2 → Z1l t.text = 0) ∧ (t.kind = 5 → Z2i t.text = 0)
def Zt (ts : List Tok) : Prop := ∀ t ∈ ts, Zj0 t
theorem Zt.tail {ts : List Tok} (h : Zt ts) : Zt ts.tail := fun t ht => h t (List.mem_of_mem_tail ht)
theorem Zt.hd {ts : List Tok} (h : Zt ts) : Zj0 (hdT ts) := by
 cases ts with
 | nil => exact ⟨fun h => by simp [hdT] at h, fun h => by simp [hdT] at h⟩
 | cons t l => exact h t (by simp)
def Agree (p : PR) (q : RR) : Prop :=
 match p with
 | none => True
 | some (.ok (t, ts)) => q = some (t, ⟨ts, none⟩) ∧ Zt ts
 | some (.error e) => Z18 q e
theorem Agree.ok {t : Tree} {ts : List Tok} (h : Zt ts) : Agree (okT t ts) (some (t, ⟨ts, none⟩)) := ⟨rfl, h⟩
theorem Agree.fail {k : Int} {t : Tree} {ts : List Tok} : Agree (Z2m k ts) (some (t, Z2q k ⟨ts, none⟩)) := ⟨_, _, rfl⟩
theorem Agree.bind {p : PR} {q : RR} {k : Tree → List Tok → PR} {m : Tree → RS → RR} (h : Agree p q) (hk : ∀ t ts, Zt ts → Agree (k t ts) (m t ⟨ts, none⟩)) (he : ∀ t ts e, Z18 (m t ⟨ts, some e⟩) e) :
 Agree (Zx p k) (Z03 q m) := by
 cases p with
 | none => trivial
 | some r =>
   cases r with
   | error e => obtain ⟨t, ts, rfl⟩ := h; exact he t ts e
   | ok x => obtain ⟨t, ts⟩ := x; obtain ⟨rfl, hg⟩ := h; exact hk t ts hg
theorem Agree.want {s : ByteArray} {ts : List Tok} {k : List Tok → PR} {m : RS → RR} (hg : Zt ts) (hk : Zt ts.tail → Agree (k ts.tail) (m ⟨ts.tail, none⟩)) (he : ∀ ts e, Z18 (m ⟨ts, some e⟩) e) :
 Agree (Z0u s ts k) (m (Z08 s ⟨ts, none⟩)) := by
 unfold Z0u Z08;by_cases h : isT s ts = true;·simp only [h, Option.isNone_none, if_true]; exact hk hg.tail
 ·simp only [h, Option.isNone_none, if_true]; exact he _ _
theorem Agree.name {ts : List Tok} {k : ByteArray → List Tok → PR} {m : ByteArray → RS → RR} (hg : Zt ts) (hk : ∀ s, Zt ts.tail → Agree (k s ts.tail) (m s ⟨ts.tail, none⟩)) (he : ∀ s ts e, Z18 (m s ⟨ts, some e⟩) e) :
 Agree (Z3b ts k) (m (Zj ⟨ts, none⟩).1 (Zj ⟨ts, none⟩).2) := by
 unfold Z3b Zj;by_cases h : (hdT ts).kind = 1;·simp only [h, Option.isNone_none, if_true]; exact hk _ hg.tail
 ·simp only [h, Option.isNone_none, if_true, if_false]; exact he _ _ _
theorem Agree.ite {c : Prop} [Decidable c] {c' : Bool} {p1 p2 : PR} {q1 q2 : RR} (h : c ↔ c' = true) (h1 : c → Agree p1 q1) (h2 : ¬ c → Agree p2 q2) : Agree (if c then p1 else p2) (if c' = true then q1 else q2) := by
 by_cases hc : c;·rw [if_pos hc, if_pos (h.1 hc)]; exact h1 hc
 ·rw [if_neg hc, if_neg (fun e => hc (h.2 e))]; exact h2 hc
theorem Agree.within {d : Nat} {ts : List Tok} {p : PR} {q : RR} {t : Tree} (h : d + 1 ≤ 30 → Agree p q) : Agree (Z0q d ts p) (if 30 < d + 1 then some (t, Z2q 4 ⟨ts, none⟩) else q) := by
 unfold Z0q;by_cases hd : 30 < d + 1;·rw [if_pos hd, if_pos hd]; exact Agree.fail
 ·rw [if_neg hd, if_neg hd]; exact h (by omega)
theorem Z0i (s : ByteArray) (ts : List Tok) : Zg s ⟨ts, none⟩ = isT s ts := by simp [Zg]
end Go.Proofs.YtgmnfgljkocnpaaGreatDoor
