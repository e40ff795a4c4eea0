/- The law HoistNames, walked. Package alpha: a node by its number. Package tree: how many kids a node has. A function's parameters, as the document has them. -/
import Derived.Test.YtgmnfgljkocnpaaGreatDoorJ01
import Derived.Test.YtgmnfgljkocnpaaGreatDoorJ21
import Derived.Test.YtgmnfgljkocnpaaGreatDoorJ46
import Derived.Test.YtgmnfgljkocnpaaGreatDoorJ13
import Derived.Maps.RangeRun
import Derived.Test.YtgmnfgljkocnpaaGreatDoorJ24
namespace Go.Proofs.YtgmnfgljkocnpaaGreatDoor
open Go Go.RowKit
set_option maxRecDepth 100000
set_option maxHeartbeats 20000000
set_option linter.unusedVariables false
theorem Zcp : ∀ (a x : ATree), x ∈ a.subs → x.many ≤ a.many := by
 have key : ∀ (n : Nat) (a x : ATree), a.many ≤ n → x ∈ a.subs → x.many ≤ a.many := by
  intro n;induction n with
  | zero => intro a x h; cases a; simp [ATree.many] at h
  | succ n ih =>
    intro a x h hx;obtain ⟨b, v, k, t, m, ks⟩ := a;simp only [ATree.subs, List.mem_cons] at hx;rcases hx with rfl | hx;·exact Nat.le_refl _
    ·have kk : ∀ l : List ATree, (∀ y ∈ l, y.many ≤ n) → x ∈ Z0x l → x.many ≤ Z20 l := by
      intro l;induction l with
      | nil => intro _ h; simp [Z0x] at h
      | cons y l ih2 =>
        intro hl h;simp only [Z0x, List.mem_append] at h;simp only [Z20];rcases h with h | h;·have := ih y x (hl y (by simp)) h; omega
        ·have := ih2 (fun z hz => hl z (List.mem_cons_of_mem _ hz)) h; omega
     have := kk ks (fun y hy => by have := Z3n (a := .mk b v k t m ks) hy; omega) hx;simp only [ATree.many];omega
 exact fun a x h => key a.many a x (Nat.le_refl _) h
mutual
theorem Zdb : ∀ (a b : ATree), a.tree = b.tree → ∀ l, Z2p Z2g a l = Z2p Z2g b l
 | .mk b1 v1 k1 t1 n1 ks1, .mk b2 v2 k2 t2 n2 ks2, h, l => by
   simp only [ATree.tree, Tree.mk.injEq] at h;obtain ⟨rfl, rfl, _, h⟩ := h;rw [Z5y, Z5y];have e1 : Z0m (.mk b1 v1 k1 t1 n1 ks1) = Z0m (.mk b2 v2 k1 t1 n2 ks2) := rfl;have e2 : ownV (.mk b1 v1 k1 t1 n1 ks1) l = ownV (.mk b2 v2 k1 t1 n2 ks2) l := rfl;rw [e1, e2];simp only [ATree.kids];rw [Z6h ks1 ks2 h]
theorem Z6h : ∀ (l1 l2 : List ATree), Z10 l1 = Z10 l2 → ∀ l, Z14 Z2g l1 l = Z14 Z2g l2 l
 | [], [], _, l => rfl
 | [], _ :: _, h, _ => by simp [Z10] at h
 | _ :: _, [], h, _ => by simp [Z10] at h
 | a :: l1, b :: l2, h, l => by
   simp only [Z10, List.cons.injEq] at h;simp only [Z14];rw [Zdb a b h.1, Z6h l1 l2 h.2]
end
theorem Ze1 {a b : ATree} (h : a.tree = b.tree) : Z4z a = Z4z b := Z6h _ _ (Z3k h).2.2.2 _
theorem Z4l (p : ATree → Bool) (hp : ∀ a b : ATree, a.kind = b.kind → p a = p b) : ∀ (l1 l2 : List ATree), Z10 l1 = Z10 l2 → (l1.filter p).map ATree.text = (l2.filter p).map ATree.text
 | [], [], _ => rfl
 | [], _ :: _, h => by simp [Z10] at h
 | _ :: _, [], h => by simp [Z10] at h
 | a :: l1, b :: l2, h => by
   simp only [Z10, List.cons.injEq] at h;have ih := Z4l p hp l1 l2 h.2;obtain ⟨e1, e2, _, _⟩ := Z3k h.1;have e3 := hp a b e1;simp only [List.filter_cons];rw [e3];split;·simp only [List.map_cons, ih, e2]
   ·exact ih
theorem Zc3 (a b : ATree) (h : a.kind = b.kind) : Z1o a = Z1o b := by unfold Z1o; rw [h]
theorem Z9r (a b : ATree) (h : a.kind = b.kind) : Z26 a = Z26 b := by unfold Z26; rw [h]
theorem Z3u (l : List ByteArray) (ks : List ATree) : Z0d l ks = (ks.map ATree.text).foldl addL l := by
 unfold Z0d;rw [List.foldl_map]
theorem Z8q {a b : ATree} (h : a.tree = b.tree) (body : Bool) : Z2f body a = Z2f body b := by
 have hk := (Z3k h).2.2.2;unfold Z2f;rw [Z3u, Z3u, Z3u, Z3u, Z4l Z1o Zc3 _ _ hk, Z4l Z26 Z9r _ _ hk, Ze1 h]
mutual
theorem Z6e : ∀ (a b : ATree), a.tree = b.tree → a.subs.map ATree.tree = b.subs.map ATree.tree
 | .mk b1 v1 k1 t1 n1 ks1, .mk b2 v2 k2 t2 n2 ks2, h => by
   simp only [ATree.subs, List.map_cons];rw [h];simp only [ATree.tree, Tree.mk.injEq] at h;rw [Z7v ks1 ks2 h.2.2.2]
theorem Z7v : ∀ (l1 l2 : List ATree), Z10 l1 = Z10 l2 → (Z0x l1).map ATree.tree = (Z0x l2).map ATree.tree
 | [], [], _ => rfl
 | [], _ :: _, h => by simp [Z10] at h
 | _ :: _, [], h => by simp [Z10] at h
 | a :: l1, b :: l2, h => by
   simp only [Z10, List.cons.injEq] at h;simp only [Z0x, List.map_append];rw [Z6e a b h.1, Z7v l1 l2 h.2]
end
theorem Zgf {a b x y : ATree} (h : a.tree = b.tree) {k : Nat} (hx : a.subs[k]? = some x) (hy : b.subs[k]? = some y) : x.tree = y.tree := by
 have := congrArg (fun r => r[k]?) (Z6e a b h);simp only [List.getElem?_map, hx, hy, Option.map_some, Option.some.injEq] at this;exact this
theorem Z7a {a b : ATree} (h : a.tree = b.tree) : a.subs.length = b.subs.length := by
 have := congrArg List.length (Z6e a b h);simpa using this
theorem Z0s.parts {w : World} {B : Nat} {v : Value} {l : List ATree} (h : Z0s w B v l) : ∃ p cp, v = .slice p l.length cp ∧ l.length ≤ cp ∧ cp ≤ 9223372036854775807 := by
 rcases h.form with ⟨h1, h2⟩ | ⟨g, cap, h1, h2, h3⟩;·exact ⟨none, 0, by rw [h1, h2]; rfl, by rw [h2]; exact Nat.le_refl _, by omega⟩
 ·unfold maxLen at h3; exact ⟨_, _, h1, h2, by omega⟩
theorem Zy.parts {w : World} {B : Nat} {v : Value} {l : List ByteArray} (h : Zy w B v l) : ∃ p cp, v = .slice p l.length cp ∧ l.length ≤ cp ∧ cp ≤ 9223372036854775807 := by
 rcases h.form with ⟨h1, h2⟩ | ⟨g, cap, h1, h2, h3⟩;·exact ⟨none, 0, by rw [h1, h2]; rfl, by rw [h2]; exact Nat.le_refl _, by omega⟩
 ·unfold maxLen at h3; exact ⟨_, _, h1, h2, by omega⟩
theorem Za5 (w : World) (B1 B2 : Nat) (v1 v2 : Value) (l : List ByteArray) (h1 : Zy w B1 v1 l) (h2 : Zy w B2 v2 l) :
 Calls Tryz.prog 7 #[v1, v2] w fun e w' => e = .returned (.bool true) ∧ Below w.heap.size w w' := by
 obtain ⟨p, cp, rfl, hge, hgm⟩ := h1.parts;obtain ⟨q, cq, rfl, hhe, hhm⟩ := h2.parts;obtain ⟨n, hn⟩ : ∃ n, n = l.length := ⟨_, rfl⟩
 have H1 := lh h1;have H2 := lh h2;rw [← hn] at hge hhe H1 H2 ⊢;have HN := lh hn;have hnn : ((n : Int) != (n : Int)) = false := by simp
 clear h1 h2 hn;go_enter Tryz.func7, Tryz.ntmps7
 go_wp2_with fail
 go_loopw [5] (fun i wr => ∃ k : Nat, k ≤ n ∧ i = .int .i64 k ∧ Hid (Below w.heap.size w wr)) (fun i _ => n - (intOf i).toNat)
 case atStart => exact ⟨0, Nat.zero_le _, rfl, lh (Below.refl _ _)⟩
 case round =>
  obtain ⟨k, hk, rfl, HB⟩ := hrel;by_cases hkn : k < n
  ·obtain ⟨x, hx⟩ : ∃ x, l[k]? = some x := ⟨_, List.getElem?_eq_getElem (by rw [← HN.out]; exact hkn)⟩
   obtain ⟨g0, hp⟩ : ∃ g, p = some ⟨g, 0, none⟩ := by
    rcases H1.out.form with ⟨_, h2⟩ | ⟨g, cap, h1, _⟩;·rw [h2] at hx; simp at hx
    ·simp only [Value.slice.injEq] at h1; exact ⟨g, h1.1⟩
   subst hp;obtain ⟨g1, hq⟩ : ∃ g, q = some ⟨g, 0, none⟩ := by
    rcases H2.out.form with ⟨_, h2⟩ | ⟨g, cap, h1, _⟩;·rw [h2] at hx; simp at hx
    ·simp only [Value.slice.injEq] at h1; exact ⟨g, h1.1⟩
   subst hq;have cx := (H1.out.bel HB.out).cells rfl hx;have cy := (H2.out.bel HB.out).cells rfl hx;have hb : (x.toList != x.toList) = false := by simp
   clear hx;go_wp2_with fail
   refine Z0 [(true, 0), (true, 1), (true, 2), (true, 3), (true, 4), (true, 5), (true, 6), (true, 7)] [8] (fun W => W.cell? ⟨g0, k, none⟩ = some (.string x) ∧ W.cell? ⟨g1, k, none⟩ = some (.string x)) (by kernel_rfl) (by kernel_rfl) (fun _ _ d _ _ h => by cases d <;> exact h) ⟨cx, cy⟩ (fun hS0 => ?_);simp only [Za, List.filterMap_cons, List.filterMap_nil, List.getElem?_toArray, List.getElem?_cons_zero, List.getElem?_cons_succ, Option.map_some]
   iterate 8
    first
     | (refine Z2 ?_ (by rfl) (fun w' hS' => ?_) ?_; rotate_left; (obtain ⟨s0, s1⟩ := hS'; go_simp; first | done | with_reducible rfl); simp only [Act.put, zA, zB, zC])
     | (refine Z1 (by rfl) ?_; simp only [Act.put, zA, zB, zC])
   refine Z5 ?_;go_wp2;go_roundw
   case rel => exact ⟨k + 1, by omega, by go_num, lh HB.out.drew⟩
   case measure => simp [intOf]; omega
  ·have hk2 : k = n := by omega
   subst hk2;go_wp2;go_ret;exact ⟨rfl, HB.out⟩
end Go.Proofs.YtgmnfgljkocnpaaGreatDoor
namespace Go.Proofs.YtgmnfgljkocnpaaGreatDoor
open Go Go.RowKit Go.ChangeMaps Go.MapKept
set_option maxRecDepth 100000
set_option maxHeartbeats 20000000
set_option linter.unusedVariables false
def nodeAt (a : ATree) (n : Int) : Option ATree := if n < 0 then none else a.subs[n.toNat]?
theorem Zgy (a : ATree) : (Z2p numG a []).length = a.subs.length := by
 have hk := congrArg List.length (Z9x a []);simpa using hk
theorem Zfl {a : ATree} {x : Nat × Nat} (h : x ∈ Z2p numG a []) : (a.subs.map ATree.b)[x.2]? = some x.1 := by
 have hk := Z9x a [];simp only [List.map_nil, List.nil_append] at hk;obtain ⟨i, hi⟩ := List.getElem?_of_mem h;have h1 := Z76 a [] (fun i x h => by simp at h) _ _ hi;rw [← hk, List.getElem?_map, h1, hi];rfl
theorem Zic {a x : ATree} {i : Nat} (hx : a.subs[i]? = some x) : (x.b, i) ∈ Z2p numG a [] := by
 have hl : i < (Z2p numG a []).length := by rw [Zgy]; exact (List.getElem?_eq_some_iff.1 hx).1
 obtain ⟨y, hy⟩ : ∃ y, (Z2p numG a [])[i]? = some y := ⟨_, List.getElem?_eq_getElem hl⟩
 have h1 := Z76 a [] (fun i x h => by simp at h) _ _ hy;have h2 := Zfl (List.mem_of_getElem? hy);rw [h1, List.getElem?_map, hx] at h2;have h4 : y = (x.b, i) := Prod.ext (Option.some.inj h2).symm h1;rw [← h4];exact List.mem_of_getElem? hy
theorem Zc7 {w : World} {b : Nat} (h : b < w.heap.size) (o : Obj) : (setBlock w b o).heap[b]? = some o := by simp [setBlock, h]
theorem Zam {w : World} {b i : Nat} (h : i ≠ b) (o : Obj) : (setBlock w b o).heap[i]? = w.heap[i]? := by
 simp only [setBlock];rw [Array.getElem?_setIfInBounds_ne (Ne.symm h)]
theorem Zf7 (w : World) (B : Nat) (a : ATree) (hT : TreeAt w B a) (hd : (a.subs.map (·.b)).Nodup) (n : Int) :
 Calls Tryz.prog 12 #[a.ptr, .int .i64 n] w fun e w' => e = .returned (.pointer ((nodeAt a n).map fun x => ⟨x.b, 0, none⟩)) ∧ Below w.heap.size w w' := by
 have HN := lh (Zea w B a hT hd);clear hT hd;unfold ATree.ptr at HN ⊢;go_enter Tryz.func12, Tryz.ntmps12
 go_wp2_with fail
 refine HN.out.mono ?_;rintro e w2 ⟨mb, rfl, hP, hb2, hmb⟩;obtain ⟨es, clock, hes, hk, hst⟩ := hP;have hml : mb < w2.heap.size := (Array.getElem?_eq_some_iff.1 hes).1;have hrg := run_range_map (P := Tryz.prog) w2 74 22 3 mb es clock Tryz.underlying74 hes;have HB2 := lh hb2;have HES := lh hes;have HKK := lh hk;have HST := lh hst;clear hb2 hes hk hst hmb HN;go_wp2_with fail
 go_loopw [] (fun wr => ∃ seen c0, Hid (Below w2.heap.size w2 wr) ∧ Hid (wr.heap[w2.heap.size]? = some (.mapIter (some mb) clock seen c0)) ∧ clock ≤ c0 ∧ Hid (∀ x ∈ es.toList, seen.contains x.born = true → x.val ≠ .int .i64 n)) (fun wr => (Go.leftOf es (wr.iterSeen w2.heap.size)).size)
 case atStart => exact ⟨#[], clock, lh ((Below.refl _ _).alloc (Nat.le_refl _) _), lh (heap_alloc_new _ _), Nat.le_refl _, lh (fun x _ h => by simp at h)⟩
 case round =>
  obtain ⟨seen, c0, HB, HR, hc, HNO⟩ := hrel;have law := run_next_at (P := Tryz.prog) wr 0 w2.heap.size mb clock c0 seen es clock HR.out ((HB.out.block mb hml).trans HES.out) HST.out.1 hc;rcases law with ⟨h0, hrun⟩ | ⟨e, he, w3, hw3, hrun⟩
  ·have hnx : ∀ ty, (Instr.next (.pointer (some ⟨w2.heap.size, 0, none⟩)) false ty).run Tryz.prog wr = _ := fun _ => hrun;have HAS := lh (all_seen es seen h0);clear hrun h0;go_wp2;go_ret;have hn : nodeAt a n = none := by
    unfold nodeAt;by_cases hn0 : n < 0;·rw [if_pos hn0]
    rw [if_neg hn0];cases hx : a.subs[n.toNat]? with
    | none => rfl
    | some x =>
      exfalso;have h1 := Zic hx;have h2 : (Z32 x.b, Value.int .i64 (n.toNat : Int)) ∈ es.toList.map (fun e => (e.key, e.val)) := by rw [HKK.out]; exact List.mem_map.2 ⟨_, h1, rfl⟩
      obtain ⟨e, he, h3⟩ := List.mem_map.1 h2;refine HNO.out e he (HAS.out e he) ?_;rw [show e.val = .int .i64 (n.toNat : Int) from congrArg Prod.snd h3];congr 1
      omega
   rw [hn];exact ⟨rfl, HB2.out.trans (HB.out.mono HB2.out.size)⟩
  ·have hm := (mem_left he).1;obtain ⟨x, hx, hkv⟩ : ∃ x ∈ Z2p numG a [], (Z32 x.1, Value.int .i64 (x.2 : Int)) = (e.key, e.val) := by
    have h2 : (e.key, e.val) ∈ es.toList.map (fun e => (e.key, e.val)) := List.mem_map.2 ⟨e, hm, rfl⟩;rw [HKK.out] at h2;exact List.mem_map.1 h2
   have hkey : e.key = .pointer (some ⟨x.1, 0, none⟩) := (congrArg Prod.fst hkv).symm;have hval : e.val = .int .i64 (x.2 : Int) := (congrArg Prod.snd hkv).symm;obtain ⟨w4, hw4⟩ : ∃ W, W = setBlock w3 w2.heap.size (.mapIter (some mb) clock (seen.push e.born) clock) := ⟨_, rfl⟩
   have hr3 : w3.heap[w2.heap.size]? = some (.mapIter (some mb) clock seen c0) := by rcases hw3 with rfl | rfl <;> exact HR.out
   have hb3 : Below w2.heap.size w2 w3 := by rcases hw3 with rfl | rfl <;> first | exact HB.out | exact HB.out.drew
   have hr4 : w4.heap[w2.heap.size]? = some (.mapIter (some mb) clock (seen.push e.born) clock) := by rw [hw4]; exact Zc7 (Array.getElem?_eq_some_iff.1 hr3).1 _
   have hb4 : Below w2.heap.size w2 w4 := by
    rw [hw4];exact ⟨hb3.os, hb3.tape, hb3.output, by have := hb3.size; simpa [setBlock] using this, fun k hk => (Zam (by omega) _).trans (hb3.block k hk)⟩
   have hen := run_entry_at (P := Tryz.prog) w4 w2.heap.size mb clock seen es clock e hr4 ((hb4.block mb hml).trans HES.out) hm HST.out.2.1;rw [← hw4] at hrun;rw [hkey, hval] at hrun hen;have hnx : ∀ ty, (Instr.next (.pointer (some ⟨w2.heap.size, 0, none⟩)) false ty).run Tryz.prog wr = _ := fun _ => hrun;have HE := lh he;have HX := lh hx;have HVAL := lh hval;have HR4 := lh hr4;have HB4 := lh hb4;clear hr3 hb3 hr4 hb4 hw4 hkey hval hkv hrun he hx hw3;by_cases hq : (x.2 : Int) = n
   ·have hqb : ((x.2 : Int) == n) = true := by simpa using hq
    go_wp2;go_ret;have h5 := Zfl HX.out;rw [List.getElem?_map] at h5;obtain ⟨y, hy, hyb⟩ := Option.map_eq_some_iff.1 h5;have hn : nodeAt a n = some y := by
     unfold nodeAt;rw [if_neg (by omega), show n.toNat = x.2 by omega];exact hy
    rw [hn];simp only [Option.map_some, hyb];exact ⟨rfl, HB2.out.trans (HB4.out.mono HB2.out.size)⟩
   ·have hqb : ((x.2 : Int) == n) = false := by simpa using hq
    go_wp2;go_roundw
    case rel =>
     refine ⟨seen.push e.born, clock, HB4, HR4, Nat.le_refl _, lh (fun z hz hc => ?_)⟩;rw [contains_push] at hc;rcases Bool.or_eq_true _ _ ▸ hc with h1 | h1;·exact HNO.out z hz h1
     ·have : z = e := born_inj HST.out.2.1 hz hm (beq_iff_eq.1 h1);subst this;rw [HVAL.out];intro e2;simp only [Value.int.injEq, true_and] at e2;exact hq e2
    case measure =>
     have e1 : w4.iterSeen w2.heap.size = seen.push e.born := by unfold World.iterSeen; rw [HR4.out]
     have e2 : wr.iterSeen w2.heap.size = seen := by unfold World.iterSeen; rw [HR.out]
     rw [e1, e2];exact left_shrinks es seen e HE.out
end Go.Proofs.YtgmnfgljkocnpaaGreatDoor
namespace Go.Proofs.YtgmnfgljkocnpaaGreatDoor
open Go Go.RowKit
set_option maxRecDepth 100000
set_option maxHeartbeats 20000000
set_option linter.unusedVariables false
structure Ar (k : Int) (n : Nat) : Prop where
 call : k = 35 → n ≠ 0
 two : k = 9 ∨ k = 8 ∨ k = 24 ∨ k = 5 ∨ k = 37 → n = 2
 if' : k = 7 → n = 2 ∨ n = 3
 one : k = 13 ∨ k = 34 → n = 1
theorem Ar.any {k : Int} {n : Nat} (h : k ≠ 35 ∧ k ≠ 9 ∧ k ≠ 8 ∧ k ≠ 24 ∧ k ≠ 5 ∧ k ≠ 37 ∧ k ≠ 7 ∧ k ≠ 13 ∧ k ≠ 34) : Ar k n := ⟨by omega, by omega, by omega, by omega⟩
mutual
def WT : Tree → Prop
 | .mk k _ _ l => Ar k l.length ∧ WTL l
def WTL : List Tree → Prop
 | [] => True
 | t :: l => WT t ∧ WTL l
end
theorem Z8y {l m : List Tree} (h : WTL l) (g : WTL m) : WTL (l ++ m) := by
 induction l with
 | nil => exact g
 | cons x l ih => exact ⟨h.1, ih h.2⟩
theorem WT.kids {t : Tree} (h : WT t) : WTL t.kids := by cases t; exact h.2
theorem WT.leaf {k : Int} {s : ByteArray} {n : Int} (h : k ≠ 35 ∧ k ≠ 9 ∧ k ≠ 8 ∧ k ≠ 24 ∧ k ≠ 5 ∧ k ≠ 37 ∧ k ≠ 7 ∧ k ≠ 13 ∧ k ≠ 34) : WT (.mk k s n []) := ⟨Ar.any h, trivial⟩
def Sh (p : PR) : Prop := ∀ t ts, p = some (.ok (t, ts)) → WT t
theorem Sh.fail {e : Int} {ts : List Tok} : Sh (Z2m e ts) := by intro t ts' h; cases h
theorem Sh.none : Sh none := by intro t ts' h; cases h
theorem Sh.err {e : Int × Nat} : Sh (some (.error e)) := by intro t ts' h; cases h
theorem Sh.ok {t : Tree} {ts : List Tok} (h : WT t) : Sh (okT t ts) := by
 intro t' ts' h';simp only [okT, Option.some.injEq, Except.ok.injEq, Prod.mk.injEq] at h';rw [← h'.1]; exact h
theorem Sh.bind {p : PR} {k : Tree → List Tok → PR} (hp : Sh p) (hk : ∀ t ts, WT t → Sh (k t ts)) : Sh (Zx p k) := by
 cases p with
 | none => exact Sh.none
 | some r =>
   cases r with
   | error e => exact Sh.err
   | ok x => obtain ⟨t, ts⟩ := x; exact hk t ts (hp t ts rfl)
theorem Sh.want {s : ByteArray} {ts : List Tok} {k : List Tok → PR} (hk : Sh (k ts.tail)) : Sh (Z0u s ts k) := by
 unfold Z0u;by_cases h : isT s ts = true;·rw [if_pos h]; exact hk
 ·rw [if_neg h]; exact Sh.fail
theorem Sh.name {ts : List Tok} {k : ByteArray → List Tok → PR} (hk : ∀ s, Sh (k s ts.tail)) : Sh (Z3b ts k) := by
 unfold Z3b;by_cases h : (hdT ts).kind = 1;·rw [if_pos h]; exact hk _
 ·rw [if_neg h]; exact Sh.fail
theorem Sh.within {d : Nat} {ts : List Tok} {p : PR} (h : Sh p) : Sh (Z0q d ts p) := by
 unfold Z0q;by_cases h' : 30 < d + 1;·rw [if_pos h']; exact Sh.fail
 ·rw [if_neg h']; exact h
theorem Sh.ite {c : Prop} [Decidable c] {p q : PR} (hp : c → Sh p) (hq : ¬ c → Sh q) : Sh (if c then p else q) := by
 by_cases h : c;·rw [if_pos h]; exact hp h
 ·rw [if_neg h]; exact hq h
theorem Sh.comma {c : Prop} [Decidable c] {ts : List Tok} {k : List Tok → PR} (hk : ∀ ts', Sh (k ts')) : Sh ((if c then Z0u Z0p ts else fun k => k ts) k) := by
 by_cases h : c;·rw [if_pos h]; exact Sh.want (hk _)
 ·rw [if_neg h]; exact hk _
theorem Sh.end' {t : Tree} {ts : List Tok} (h : WT t) : Sh (endT t ts) := Sh.want (Sh.ok h)
def Job.good : Job → Prop
 | .stmts kind acc => (kind = 1 ∨ kind = 6) ∧ WTL acc
 | .func kind _ => kind = 5 ∨ kind = 37
 | .params acc => WTL acc
 | .decl kind _ => kind = 2 ∨ kind = 3 ∨ kind = 4
 | .binLoop _ x => WT x
 | .postLoop x => WT x
 | .args acc => WTL acc ∧ acc ≠ []
 | .object acc => WTL acc
 | _ => True
theorem Zey (lv : Nat) (ts : List Tok) : Z21 lv ts = 0 ∨ (25 ≤ Z21 lv ts ∧ Z21 lv ts ≤ 31) := by
 unfold Z21;split <;> (try split) <;> (try split) <;> omega
theorem Zfi (ts : List Tok) : Z2z ts = 0 ∨ (32 ≤ Z2z ts ∧ Z2z ts ≤ 34) := by
 unfold Z2z;split <;> (try split) <;> (try split) <;> omega
theorem Zf5 (ts : List Tok) : Z3g ts = 0 ∨ (19 ≤ Z3g ts ∧ Z3g ts ≤ 22) := by
 unfold Z3g;split <;> (try split) <;> (try split) <;> (try split) <;> omega
theorem Z9n {k : Int} {s : ByteArray} {n : Int} {x y : Tree} (hx : WT x) (hy : WT y) (h : k ≠ 13 ∧ k ≠ 34) : WT (.mk k s n [x, y]) :=
 ⟨⟨fun _ => by simp, fun _ => rfl, fun _ => .inl rfl, fun h' => by omega⟩, hx, hy, trivial⟩
theorem Z6u {k : Int} {s : ByteArray} {n : Int} {x : Tree} (hx : WT x) (h : k ≠ 9 ∧ k ≠ 8 ∧ k ≠ 24 ∧ k ≠ 5 ∧ k ≠ 37 ∧ k ≠ 7) : WT (.mk k s n [x]) :=
 ⟨⟨fun _ => by simp, fun h' => by omega, fun h' => by omega, fun _ => rfl⟩, hx, trivial⟩
theorem Z7n {k : Int} {s : ByteArray} {n : Int} {l : List Tree} (hx : WTL l) (h : k ≠ 35 ∧ k ≠ 9 ∧ k ≠ 8 ∧ k ≠ 24 ∧ k ≠ 5 ∧ k ≠ 37 ∧ k ≠ 7 ∧ k ≠ 13 ∧ k ≠ 34) : WT (.mk k s n l) := ⟨Ar.any h, hx⟩
theorem Zc8 : ∀ (f : Nat) (job : Job) (d : Nat) (ts : List Tok), job.good → Sh (Z4 f job d ts) := by
 intro f;induction f with
 | zero => intro job d ts _; unfold Z4; exact Sh.none
 | succ f ih =>
   intro job d ts hg;cases job with
   | stmts kind acc =>
     unfold Z4;refine Sh.ite (fun _ => Sh.ok (Z7n hg.2 (by have := hg.1; omega))) fun _ => ?_;exact Sh.bind (Sh.within (ih .stmt _ _ trivial)) fun t ts' h => ih _ _ _ ⟨hg.1, Z8y hg.2 ⟨h, trivial⟩⟩
   | block body =>
     unfold Z4;refine Sh.want (Sh.bind (ih (.stmts 6 []) _ _ ⟨.inr rfl, trivial⟩) fun t ts' h' => Sh.want (Sh.ok ?_));by_cases hb : body = true;·rw [if_pos hb]; exact h'
     ·rw [if_neg hb]; exact Z7n h'.kids (by omega)
   | func kind text =>
     unfold Z4;exact Sh.want (Sh.bind (ih (.params []) _ _ trivial) fun t ts' h' => Sh.want (Sh.bind (ih (.block true) _ _ trivial) fun t ts' h3 => Sh.ok (Z9n h' h3 (by have : kind = 5 ∨ kind = 37 := hg; omega))))
   | params acc =>
     unfold Z4;refine Sh.ite (fun _ => Sh.ok (Z7n hg (by omega))) fun _ => ?_;exact Sh.comma fun ts' => Sh.ite (fun _ => Sh.fail) fun _ => Sh.name fun s => ih _ _ _ (Z8y hg ⟨WT.leaf (by omega), trivial⟩)
   | around =>
     unfold Z4;exact Sh.want (Sh.bind (ih .value _ _ trivial) fun t ts' h' => Sh.want (Sh.ok h'))
   | stmt =>
     unfold Z4;refine Sh.ite (fun h => ih _ _ _ trivial) fun _ => ?_;refine Sh.ite (fun h => Sh.ok (WT.leaf (by omega))) fun _ => ?_;refine Sh.ite (fun h => Sh.bind (ih (.decl 2 false) _ _ (.inl rfl)) fun t us h2 => Sh.end' h2) fun _ => ?_;refine Sh.ite (fun h => Sh.bind (ih (.decl 3 false) _ _ (.inr (.inl rfl))) fun t us h2 => Sh.end' h2) fun _ => ?_;refine Sh.ite (fun h => Sh.bind (ih (.decl 4 true) _ _ (.inr (.inr rfl))) fun t us h2 => Sh.end' h2) fun _ => ?_;refine Sh.ite (fun h => Sh.name fun s => ih _ _ _ (.inl rfl)) fun _ => ?_
     refine Sh.ite (fun h => Sh.bind (ih .around _ _ trivial) fun x us h2 => Sh.bind (Sh.within (ih .stmt _ _ trivial)) fun y vs h3 => Sh.ite (fun h4 => Sh.bind (Sh.within (ih .stmt _ _ trivial)) fun z xs h5 => Sh.ok ⟨⟨by omega, by omega, fun _ => .inr rfl, by omega⟩, h2, h3, h5, trivial⟩) fun _ => Sh.ok (Z9n h2 h3 (by omega))) fun _ => ?_;refine Sh.ite (fun h => Sh.bind (ih .around _ _ trivial) fun t us h2 => Sh.bind (Sh.within (ih .stmt _ _ trivial)) fun t vs h3 => Sh.ok (Z9n h2 h3 (by omega))) fun _ => ?_
     refine Sh.ite (fun h => Sh.bind (ih .around _ _ trivial) fun t us h2 => Sh.bind (Sh.within (ih .stmt _ _ trivial)) fun t vs h3 => Sh.ok (Z9n h2 h3 (by omega))) fun _ => ?_;refine Sh.ite (fun h => Sh.ite (fun h1 => Sh.end' (WT.leaf (by omega))) (fun _ => Sh.bind (ih .value _ _ trivial) fun t us h2 => Sh.end' (Z6u h2 (by omega)))) fun _ => ?_;refine Sh.ite (fun h => Sh.bind (ih .value _ _ trivial) fun t us h2 => Sh.end' (Z6u h2 (by omega))) fun _ => ?_;refine Sh.ite (fun h => ih _ _ _ trivial) fun _ => ?_;exact Sh.bind (ih .value _ _ trivial) fun t us h2 => Sh.end' (Z6u h2 (by omega))
   | decl kind must =>
     have hk : kind = 2 ∨ kind = 3 ∨ kind = 4 := hg;unfold Z4;exact Sh.name fun s => Sh.ite (fun _ => Sh.fail) fun _ => Sh.ite (fun h2 => Sh.bind (ih .value _ _ trivial) fun t us h3 => Sh.ok (Z6u h3 (by omega))) fun _ => Sh.ok (WT.leaf (by omega))
   | try_ =>
     unfold Z4;refine Sh.bind (ih (.block false) _ _ trivial) fun b us h => ?_;have hk : ∀ (l : List Tree) (vs : List Tok), WTL l → Sh (if isT Zz vs then Zx (Z4 f (.block false) d vs.tail) fun c ts => okT (.mk 12 ByteArray.empty 0 (l ++ [.mk 14 ByteArray.empty 0 [c]])) ts else if l.length = 1 then Z2m 3 vs else okT (.mk 12 ByteArray.empty 0 l) vs) := by
      intro l vs h2;exact Sh.ite (fun _ => Sh.bind (ih (.block false) _ _ trivial) fun t xs h3 => Sh.ok (Z7n (Z8y h2 ⟨Z6u h3 (by omega), trivial⟩) (by omega))) fun _ => Sh.ite (fun _ => Sh.fail) fun _ => Sh.ok (Z7n h2 (by omega))
     refine Sh.ite (fun h1 => ?_) fun _ => hk _ _ ⟨h, trivial⟩;exact Sh.want (Sh.name fun s => Sh.want (Sh.bind (ih (.block false) _ _ trivial) fun c vs h5 => hk _ _ ⟨h, Z6u h5 (by omega), trivial⟩))
   | value => unfold Z4; exact Sh.within (ih _ _ _ trivial)
   | assign =>
     unfold Z4;exact Sh.bind (ih (.bin 0) _ _ trivial) fun x us h => Sh.ite (fun h1 => Sh.ite (fun _ => Sh.bind (ih .value _ _ trivial) fun y vs h2 => Sh.ok (Z9n h h2 (by omega))) fun _ => Sh.err) fun _ => Sh.ok h
   | bin level =>
     unfold Z4;exact Sh.ite (fun _ => ih _ _ _ trivial) fun _ => Sh.bind (ih (.bin (level + 1)) _ _ trivial) fun x us h => ih _ _ _ h
   | binLoop level x =>
     unfold Z4;exact Sh.ite (fun _ => Sh.ok hg) fun h0 => Sh.bind (ih (.bin (level + 1)) _ _ trivial) fun y us h => ih _ _ _ (show Job.good (.binLoop level (.mk (Z21 level ts) ByteArray.empty 0 [x, y])) from Z9n (s := ByteArray.empty) (n := 0) hg h (by have := Zey level ts; omega))
   | unary =>
     unfold Z4;exact Sh.ite (fun _ => ih _ _ _ trivial) fun h0 => Sh.bind (Sh.within (ih .unary _ _ trivial)) fun x us h => Sh.ok (Z6u h (by have := Zfi ts; omega))
   | postfix_ =>
     unfold Z4;exact Sh.bind (ih .primary _ _ trivial) fun x us h => ih _ _ _ h
   | postLoop x =>
     unfold Z4;exact Sh.ite (fun _ => Sh.name fun s => ih _ _ _ (show Job.good (.postLoop (.mk 36 s 0 [x])) from Z6u (s := s) (n := 0) hg (by omega))) fun _ => Sh.ite (fun _ => Sh.bind (ih (.args [x]) _ _ ⟨⟨hg, trivial⟩, by simp⟩) fun n us h => ih _ _ _ h) fun _ => Sh.ok hg
   | args acc =>
     unfold Z4;refine Sh.ite (fun _ => Sh.ok ⟨⟨fun _ => by have := hg.2; simpa using this, by omega, by omega, by omega⟩, hg.1⟩) fun _ => ?_;exact Sh.comma fun ts' => Sh.ite (fun _ => Sh.fail) fun _ => Sh.bind (ih .value _ _ trivial) fun v us h => ih _ _ _ ⟨Z8y hg.1 ⟨h, trivial⟩, by simp⟩
   | primary =>
     unfold Z4;refine Sh.ite (fun h => Sh.ok (WT.leaf (by omega))) fun _ => ?_;refine Sh.ite (fun h => Sh.ok (WT.leaf (by omega))) fun _ => ?_;refine Sh.ite (fun h => Sh.ok (WT.leaf (by omega))) fun _ => ?_;refine Sh.ite (fun h => Sh.ok (WT.leaf (by have := Zf5 ts; omega))) fun _ => ?_;refine Sh.ite (fun h => ih _ _ _ trivial) fun _ => ?_;refine Sh.ite (fun h => Sh.ite (fun _ => ih _ _ _ (.inr rfl)) fun _ => ih _ _ _ (.inr rfl)) fun _ => ?_;exact Sh.ite (fun h => ih _ _ _ trivial) fun _ => Sh.fail
   | object acc =>
     unfold Z4;refine Sh.ite (fun _ => Sh.ok (Z7n hg (by omega))) fun _ => ?_;exact Sh.comma fun ts' => Sh.ite (fun _ => Sh.fail) fun _ => Sh.name fun s => Sh.want (Sh.bind (ih .value _ _ trivial) fun v us h => ih _ _ _ (Z8y hg ⟨Z6u h (by omega), trivial⟩))
theorem TreeAt.two {w : World} {B : Nat} {x p b : ATree} (h : TreeAt w B x) (hk : x.kids = [p, b]) : ∃ g cp, w.cell? ⟨x.b, 3, none⟩ = some (.slice (some ⟨g, 0, none⟩) 2 cp) ∧ w.cell? ⟨g, 0, none⟩ = some (.pointer (some ⟨p.b, 0, none⟩)) ∧ w.cell? ⟨g, 1, none⟩ = some (.pointer (some ⟨b.b, 0, none⟩)) ∧ 2 ≤ cp ∧ TreeAt w B p ∧ TreeAt w B b := by
 have h3 := h.c3;have hr : Z0s w B x.v x.kids := h.rowOf;rw [hk] at hr;rcases hr.form with ⟨_, h2⟩ | ⟨g, cap, h1, h2, _⟩;·cases h2
 ·rw [h1] at h3;exact ⟨g, cap, h3, hr.cell (b := g) (by rw [h1]; rfl) (j := 0) rfl, hr.cell (b := g) (by rw [h1]; rfl) (j := 1) rfl, h2, h.kid (by rw [hk]; simp), h.kid (by rw [hk]; simp)⟩
theorem Z5f {x p b : ATree} (hk : x.kids = [p, b]) : p.many + b.many < x.many := by
 obtain ⟨bb, v, k, t, n, ks⟩ := x;simp only [ATree.kids] at hk;subst hk;simp only [ATree.many, Z20];omega
theorem Zcg (w : World) (B0 : Nat) (x p b : ATree) (hT : TreeAt w B0 x) (hk : x.kids = [p, b]) (hmx : x.many ≤ 100000) :
 Calls Tryz.prog 21 #[x.ptr] w fun e w' => ∃ v, e = .returned v ∧ Zy w' w.heap.size v (Z0d [] p.kids) ∧ Below w.heap.size w w' := by
 obtain ⟨g, cp, c3, c4, c5, hcp, hP, hB⟩ := hT.two hk;have hmp : p.kids.length ≤ 100000 := by have h1 := Z5f hk; have h2 := Z24 p; omega
 have p3 := hP.c3;have hR : Z0s w B0 p.v p.kids := hP.rowOf;obtain ⟨q, cq, hv, hqe, hqm⟩ := hP.vOf;rw [hv] at p3 hR;have HR := lh hR;have HP := lh hP;obtain ⟨m, hm⟩ : ∃ m, m = p.kids.length := ⟨_, rfl⟩
 rw [← hm] at p3 HR hqe hmp;have HM := lh hm;unfold maxLen at hqm;unfold ATree.ptr;clear hP hB hR hv hm hT hk hmx c5;go_enter Tryz.func21, Tryz.ntmps21
 go_wp2_with fail
 go_loopw [3, 16] (fun v i wr => ∃ (k : Nat) (v' : Value), v' = v ∧ k ≤ m ∧ i = .int .i64 k ∧ Hid (Zy wr w.heap.size v' (Z0d [] (p.kids.take k))) ∧ Hid (Below w.heap.size w wr)) (fun _ i _ => m - (intOf i).toNat)
 case atStart => exact ⟨0, _, rfl, Nat.zero_le _, rfl, lh (Zy.nil _ _), lh (Below.refl _ _)⟩
 case round =>
  obtain ⟨k, v, rfl, hk, rfl, TX, HB⟩ := hrel;by_cases hkn : k < m
  ·obtain ⟨x, hx⟩ : ∃ x, p.kids[k]? = some x := ⟨_, List.getElem?_eq_getElem (by rw [← HM.out]; exact hkn)⟩
   have NO := HR.out.bel HB.out;obtain ⟨g0, hp⟩ : ∃ g, q = some ⟨g, 0, none⟩ := by
    rcases NO.form with ⟨_, h2⟩ | ⟨g, cap, h1, _⟩;·rw [h2] at hx; simp at hx
    ·simp only [Value.slice.injEq] at h1; exact ⟨g, h1.1⟩
   subst hp;have cx := NO.cell rfl hx;have x1 := ((HP.out.bel HB.out).kid (List.mem_of_getElem? hx)).c1;have HST := lh (Z30 (l := []) hx);have hlm : (Z0d [] (p.kids.take k)).length < 1099511627776 := by
    have h1 := Z16 [] (p.kids.take k);have h2 : (p.kids.take k).length ≤ p.kids.length := by rw [List.length_take]; omega
    have h3 := HM.out;simp only [List.length_nil] at h1;omega
   have HA := lh (Z3o wr w.heap.size v _ x.text TX.out HB.out.size hlm);clear NO hx hlm c3 c4 p3;go_wp2_with fail
   refine HA.out.mono ?_;rintro e w1 ⟨v1, rfl, ht, hb⟩;rw [← HST.out] at ht;have TX1 := lh ht;have HB1 := lh (HB.out.trans (hb.mono HB.out.size));clear ht hb HA;go_wp2;go_roundw
   case rel => exact ⟨k + 1, _, rfl, by omega, by go_num, TX1, HB1⟩
   case measure => simp [intOf]; omega
  ·have hk2 : k = m := by omega
   subst hk2;have hend := TX.out;rw [List.take_of_length_le (by rw [← HM.out]; exact Nat.le_refl _)] at hend;have TE := lh hend;clear hend TX c3 c4 p3;go_wp2;go_ret;exact ⟨_, rfl, TE.out, HB.out⟩
end Go.Proofs.YtgmnfgljkocnpaaGreatDoor
