/- The law HoistNames, walked. What a listed variable gives a walk: rows of texts. What a listed variable gives a walk: an array of rows of texts, second on the list. -/
import Derived.Test.YtfappndicnneoaaGreatDoorJ01
import Derived.Test.YtfappndicnneoaaGreatDoorJ21
import Derived.Test.YtfappndicnneoaaGreatDoorJ46
import Derived.Test.YtfappndicnneoaaGreatDoorProg
import Derived.Lib.LaidTab
import Derived.LaidMore
import Derived.Stop.Joined
import Derived.WalkKit
namespace Go.Proofs.YtfappndicnneoaaGreatDoor
open Go Go.RowKit
set_option maxRecDepth 100000
set_option linter.unusedVariables false
theorem sub_many : ∀ (a x : ATree), x ∈ a.subs → x.many ≤ a.many := by
 have key : ∀ (n : Nat) (a x : ATree), a.many ≤ n → x ∈ a.subs → x.many ≤ a.many := by
  intro n
  induction n with
  | zero => intro a x h; cases a; simp [ATree.many] at h
  | succ n ih =>
    intro a x h hx
    obtain ⟨b, v, k, t, m, ks⟩ := a
    simp only [ATree.subs, List.mem_cons] at hx
    rcases hx with rfl | hx
    ·exact Nat.le_refl _
    ·have kk : ∀ l : List ATree, (∀ y ∈ l, y.many ≤ n) → x ∈ subsL l → x.many ≤ manyLA l := by
      intro l
      induction l with
      | nil => intro _ h; simp [subsL] at h
      | cons y l ih2 =>
        intro hl h
        simp only [subsL, List.mem_append] at h
        simp only [manyLA]
        rcases h with h | h
        ·have := ih y x (hl y (by simp)) h; omega
        ·have := ih2 (fun z hz => hl z (List.mem_cons_of_mem _ hz)) h; omega
     have := kk ks (fun y hy => by have := many_kid (a := .mk b v k t m ks) hy; omega) hx
     simp only [ATree.many]
     omega
 exact fun a x h => key a.many a x (Nat.le_refl _) h
mutual
theorem walkV_tree : ∀ (a b : ATree), a.tree = b.tree → ∀ l, walkA varsG a l = walkA varsG b l
 | .mk b1 v1 k1 t1 n1 ks1, .mk b2 v2 k2 t2 n2 ks2, h, l => by
   simp only [ATree.tree, Tree.mk.injEq] at h
   obtain ⟨rfl, rfl, _, h⟩ := h
   rw [walkV_eq, walkV_eq]
   have e1 : isInner (.mk b1 v1 k1 t1 n1 ks1) = isInner (.mk b2 v2 k1 t1 n2 ks2) := rfl
   have e2 : ownV (.mk b1 v1 k1 t1 n1 ks1) l = ownV (.mk b2 v2 k1 t1 n2 ks2) l := rfl
   rw [e1, e2]
   simp only [ATree.kids]
   rw [walkVL_tree ks1 ks2 h]
theorem walkVL_tree : ∀ (l1 l2 : List ATree), treeL l1 = treeL l2 → ∀ l, walkL varsG l1 l = walkL varsG l2 l
 | [], [], _, l => rfl
 | [], _ :: _, h, _ => by simp [treeL] at h
 | _ :: _, [], h, _ => by simp [treeL] at h
 | a :: l1, b :: l2, h, l => by
   simp only [treeL, List.cons.injEq] at h
   simp only [walkL]
   rw [walkV_tree a b h.1, walkVL_tree l1 l2 h.2]
end
theorem varsF_tree {a b : ATree} (h : a.tree = b.tree) : varsF a = varsF b := walkVL_tree _ _ (tree_parts h).2.2.2 _
theorem filter_tree (p : ATree → Bool) (hp : ∀ a b : ATree, a.kind = b.kind → p a = p b) : ∀ (l1 l2 : List ATree), treeL l1 = treeL l2 → (l1.filter p).map ATree.text = (l2.filter p).map ATree.text
 | [], [], _ => rfl
 | [], _ :: _, h => by simp [treeL] at h
 | _ :: _, [], h => by simp [treeL] at h
 | a :: l1, b :: l2, h => by
   simp only [treeL, List.cons.injEq] at h
   have ih := filter_tree p hp l1 l2 h.2
   obtain ⟨e1, e2, _, _⟩ := tree_parts h.1
   have e3 := hp a b e1
   simp only [List.filter_cons]
   rw [e3]
   split
   ·simp only [List.map_cons, ih, e2]
   ·exact ih
theorem isFunc_kind (a b : ATree) (h : a.kind = b.kind) : isFunc a = isFunc b := by unfold isFunc; rw [h]
theorem isLet_kind (a b : ATree) (h : a.kind = b.kind) : isLet a = isLet b := by unfold isLet; rw [h]
theorem addsL_map (l : List ByteArray) (ks : List ATree) : addsL l ks = (ks.map ATree.text).foldl addL l := by
 unfold addsL
 rw [List.foldl_map]
theorem namesF_tree {a b : ATree} (h : a.tree = b.tree) (body : Bool) : namesF body a = namesF body b := by
 have hk := (tree_parts h).2.2.2
 unfold namesF
 rw [addsL_map, addsL_map, addsL_map, addsL_map, filter_tree isFunc isFunc_kind _ _ hk, filter_tree isLet isLet_kind _ _ hk, varsF_tree h]
theorem funcs_len {a b : ATree} (h : a.tree = b.tree) : (a.kids.filter isFunc).length = (b.kids.filter isFunc).length := by
 have := congrArg List.length (filter_tree isFunc isFunc_kind _ _ (tree_parts h).2.2.2)
 simpa using this
theorem lets_len {a b : ATree} (h : a.tree = b.tree) : (a.kids.filter isLet).length = (b.kids.filter isLet).length := by
 have := congrArg List.length (filter_tree isLet isLet_kind _ _ (tree_parts h).2.2.2)
 simpa using this
mutual
theorem subs_treeEq : ∀ (a b : ATree), a.tree = b.tree → a.subs.map ATree.tree = b.subs.map ATree.tree
 | .mk b1 v1 k1 t1 n1 ks1, .mk b2 v2 k2 t2 n2 ks2, h => by
   simp only [ATree.subs, List.map_cons]
   rw [h]
   simp only [ATree.tree, Tree.mk.injEq] at h
   rw [subsL_treeEq ks1 ks2 h.2.2.2]
theorem subsL_treeEq : ∀ (l1 l2 : List ATree), treeL l1 = treeL l2 → (subsL l1).map ATree.tree = (subsL l2).map ATree.tree
 | [], [], _ => rfl
 | [], _ :: _, h => by simp [treeL] at h
 | _ :: _, [], h => by simp [treeL] at h
 | a :: l1, b :: l2, h => by
   simp only [treeL, List.cons.injEq] at h
   simp only [subsL, List.map_append]
   rw [subs_treeEq a b h.1, subsL_treeEq l1 l2 h.2]
end
theorem subs_at {a b x y : ATree} (h : a.tree = b.tree) {k : Nat} (hx : a.subs[k]? = some x) (hy : b.subs[k]? = some y) : x.tree = y.tree := by
 have := congrArg (fun r => r[k]?) (subs_treeEq a b h)
 simp only [List.getElem?_map, hx, hy, Option.map_some, Option.some.injEq] at this
 exact this
theorem subs_lenEq {a b : ATree} (h : a.tree = b.tree) : a.subs.length = b.subs.length := by
 have := congrArg List.length (subs_treeEq a b h)
 simpa using this
theorem Nodes.parts {w : World} {B : Nat} {v : Value} {l : List ATree} (h : Nodes w B v l) : ∃ p cp, v = .slice p l.length cp ∧ l.length ≤ cp ∧ cp ≤ 9223372036854775807 := by
 rcases h.form with ⟨h1, h2⟩ | ⟨g, cap, h1, h2, h3⟩
 ·exact ⟨none, 0, by rw [h1, h2]; rfl, by rw [h2]; exact Nat.le_refl _, by omega⟩
 ·unfold maxLen at h3; exact ⟨_, _, h1, h2, by omega⟩
theorem Texts.parts {w : World} {B : Nat} {v : Value} {l : List ByteArray} (h : Texts w B v l) : ∃ p cp, v = .slice p l.length cp ∧ l.length ≤ cp ∧ cp ≤ 9223372036854775807 := by
 rcases h.form with ⟨h1, h2⟩ | ⟨g, cap, h1, h2, h3⟩
 ·exact ⟨none, 0, by rw [h1, h2]; rfl, by rw [h2]; exact Nat.le_refl _, by omega⟩
 ·unfold maxLen at h3; exact ⟨_, _, h1, h2, by omega⟩
set_option maxHeartbeats 4000000 in
theorem sametexts_any (w : World) (B1 B2 : Nat) (v1 v2 : Value) (l : List ByteArray) (h1 : Texts w B1 v1 l) (h2 : Texts w B2 v2 l) :
 Calls Tryz.prog 6 #[v1, v2] w fun e w' => e = .returned (.bool true) ∧ Below w.heap.size w w' := by
 obtain ⟨p, cp, rfl, hge, hgm⟩ := h1.parts
 obtain ⟨q, cq, rfl, hhe, hhm⟩ := h2.parts
 obtain ⟨n, hn⟩ : ∃ n, n = l.length := ⟨_, rfl⟩
 have H1 := lh h1
 have H2 := lh h2
 rw [← hn] at hge hhe H1 H2 ⊢
 have HN := lh hn
 have hnn : ((n : Int) != (n : Int)) = false := by simp
 clear h1 h2 hn
 go_enter Tryz.func6, Tryz.ntmps6
 go_wp2_with fail
 go_loopw [5] (fun i wr => ∃ k : Nat, k ≤ n ∧ i = .int .i64 k ∧ Hid (Below w.heap.size w wr)) (fun i _ => n - (intOf i).toNat)
 case atStart => exact ⟨0, Nat.zero_le _, rfl, lh (Below.refl _ _)⟩
 case round =>
  obtain ⟨k, hk, rfl, HB⟩ := hrel
  by_cases hkn : k < n
  ·obtain ⟨x, hx⟩ : ∃ x, l[k]? = some x := ⟨_, List.getElem?_eq_getElem (by rw [← HN.out]; exact hkn)⟩
   obtain ⟨g0, hp⟩ : ∃ g, p = some ⟨g, 0, none⟩ := by
    rcases H1.out.form with ⟨_, h2⟩ | ⟨g, cap, h1, _⟩
    ·rw [h2] at hx; simp at hx
    ·simp only [Value.slice.injEq] at h1; exact ⟨g, h1.1⟩
   subst hp
   obtain ⟨g1, hq⟩ : ∃ g, q = some ⟨g, 0, none⟩ := by
    rcases H2.out.form with ⟨_, h2⟩ | ⟨g, cap, h1, _⟩
    ·rw [h2] at hx; simp at hx
    ·simp only [Value.slice.injEq] at h1; exact ⟨g, h1.1⟩
   subst hq
   have cx := (H1.out.bel HB.out).cells rfl hx
   have cy := (H2.out.bel HB.out).cells rfl hx
   have hb : (x.toList != x.toList) = false := by simp
   clear hx
   go_wp2_with fail
   refine wp_region_plan [(true, 0), (true, 1), (true, 2), (true, 3), (true, 4), (true, 5), (true, 6), (true, 7)] [8] (fun W => W.cell? ⟨g0, k, none⟩ = some (.string x) ∧ W.cell? ⟨g1, k, none⟩ = some (.string x)) (by kernel_rfl) (by kernel_rfl) (fun _ _ d _ _ h => by cases d <;> exact h) ⟨cx, cy⟩ (fun hS0 => ?_)
   simp only [planOps, List.filterMap_cons, List.filterMap_nil, List.getElem?_toArray, List.getElem?_cons_zero, List.getElem?_cons_succ, Option.map_some]
   iterate 8
    first
     | (refine wpPlan_take ?_ (by rfl) (fun w' hS' => ?_) ?_; rotate_left; (obtain ⟨s0, s1⟩ := hS'; go_simp; first | done | with_reducible rfl); simp only [Act.put, zA, zB, zC])
     | (refine wpPlan_skip (by rfl) ?_; simp only [Act.put, zA, zB, zC])
   refine wpPlan_end ?_
   go_wp2
   go_roundw
   case rel => exact ⟨k + 1, by omega, by go_num, lh HB.out.drew⟩
   case measure => simp [intOf]; omega
  ·have hk2 : k = n := by omega
   subst hk2
   go_wp2
   go_ret
   exact ⟨rfl, HB.out⟩
set_option maxHeartbeats 16000000 in
theorem hoistnames_any (w : World) (text : ByteArray) (hW : Words w) (hL : Levels w w.heap.size) (hR : RWords w) (hF : FineAt w) :
 Calls Tryz.prog 3 #[.string text] w fun e w' => e = .returned (.bool true) ∧ Below w.heap.size w w' := by
 have HB := both_any w text hW hL hR hF
 cases hr : parseAll text with
 | error x =>
   rw [hr] at HB
   have HB := lh HB
   clear hr hW hL hR hF
   go_enter Tryz.func3, Tryz.ntmps3
   go_wp2_with fail
   refine HB.out.mono ?_
   rintro e w1 ⟨hb, rfl⟩
   have BEL := lh hb
   clear hb HB
   go_wp2
   go_ret
   exact ⟨rfl, BEL.out⟩
 | ok t =>
   rw [hr] at HB
   have HMN := lh (parseAll_many hr)
   have HB := lh HB
   clear hr hW hL hR hF
   go_enter Tryz.func3, Tryz.ntmps3
   go_wp2_with fail
   refine HB.out.mono ?_
   rintro e w1 ⟨hb, a, b, rfl, hA, hG⟩
   have A1 := lh hA
   have G1 := lh hG
   have B1 := lh hb
   have HTE := lh (hA.tree.trans hG.tree.symm)
   have hma : a.many ≤ 1500 := by have := many_tree (a := a); rw [hA.tree] at this; have := HMN.out; omega
   have hmb : b.many ≤ 1500 := by have := many_tree (a := b); rw [hG.tree] at this; have := HMN.out; omega
   have HMA := lh hma
   have HMB := lh hmb
   have HN1 := lh (all_any _ a (Nat.le_refl _) (by omega) w1 _ hA.at')
   unfold ATree.ptr at HN1 ⊢
   clear hb hA hG HB hma hmb
   go_wp2_with fail
   refine HN1.out.mono ?_
   rintro e w2 ⟨v2, rfl, hn2, hb2⟩
   have A2 := lh (A1.out.belowG hb2)
   have G2 := lh (G1.out.belowG hb2)
   have B2 := lh (B1.out.trans (hb2.mono B1.out.size))
   have N2 := lh hn2
   have HN3 := lh (all_any _ b (Nat.le_refl _) (by have := HMB.out; omega) w2 _ G2.out.at')
   unfold ATree.ptr at HN3
   clear hn2 hb2 HN1
   go_wp2_with fail
   refine HN3.out.mono ?_
   rintro e w3 ⟨v3, rfl, hn3, hb3⟩
   obtain ⟨p, cp, rfl, hge, hgm⟩ := N2.out.parts
   obtain ⟨q, cq, rfl, hhe, hhm⟩ := hn3.parts
   have hle := subs_lenEq HTE.out
   rw [← hle] at hhe hn3 ⊢
   have A3 := lh (A2.out.belowG hb3)
   have G3 := lh (G2.out.belowG hb3)
   have B3 := lh (B2.out.trans (hb3.mono B2.out.size))
   have NA := lh (N2.out.bel hb3)
   have NB := lh hn3
   obtain ⟨n, hn⟩ : ∃ n, n = a.subs.length := ⟨_, rfl⟩
   rw [← hn] at hge hhe NA NB ⊢
   have HN := lh hn
   have HLE := lh hle
   have hnn : ((n : Int) != (n : Int)) = false := by simp
   clear hn3 hb3 hle hn N2 HN3
   go_wp2_with fail
   go_loopw [8] (fun i wr => ∃ k : Nat, k ≤ n ∧ i = .int .i64 k ∧ Hid (Below w3.heap.size w3 wr)) (fun i _ => n - (intOf i).toNat)
   case atStart => exact ⟨0, Nat.zero_le _, rfl, lh (Below.refl _ _)⟩
   case round =>
    obtain ⟨k, hk, rfl, HB⟩ := hrel
    by_cases hkn : k < n
    ·obtain ⟨x, hx⟩ : ∃ x, a.subs[k]? = some x := ⟨_, List.getElem?_eq_getElem (by rw [← HN.out]; exact hkn)⟩
     obtain ⟨y, hy⟩ : ∃ y, b.subs[k]? = some y := ⟨_, List.getElem?_eq_getElem (by rw [← HLE.out, ← HN.out]; exact hkn)⟩
     obtain ⟨g0, hp⟩ : ∃ g, p = some ⟨g, 0, none⟩ := by
      rcases NA.out.form with ⟨_, h2⟩ | ⟨g, cap, h1, _⟩
      ·rw [h2] at hx; simp at hx
      ·simp only [Value.slice.injEq] at h1; exact ⟨g, h1.1⟩
     subst hp
     obtain ⟨g1, hq⟩ : ∃ g, q = some ⟨g, 0, none⟩ := by
      rcases NB.out.form with ⟨_, h2⟩ | ⟨g, cap, h1, _⟩
      ·rw [h2] at hy; simp at hy
      ·simp only [Value.slice.injEq] at h1; exact ⟨g, h1.1⟩
     subst hq
     have cx := (NA.out.bel HB.out).cell rfl hx
     have cy := (NB.out.bel HB.out).cell rfl hy
     have TX := lh ((subs_tree A3.out.at' (List.mem_of_getElem? hx)).bel HB.out)
     have TY := lh ((subs_tree G3.out.at' (List.mem_of_getElem? hy)).bel HB.out)
     have HXY := lh (subs_at HTE.out hx hy)
     have MX := lh (show x.many ≤ 1500 by have := sub_many a x (List.mem_of_getElem? hx); have := HMA.out; omega)
     have MY := lh (show y.many ≤ 1500 by have := sub_many b y (List.mem_of_getElem? hy); have := HMB.out; omega)
     have x0 := TX.out.c0
     obtain ⟨kd, hkd⟩ : ∃ kd, kd = x.kind := ⟨_, rfl⟩
     rw [← hkd] at x0
     clear hx hy hkd
     go_wp2_with fail
     refine wp_region_plan [(true, 0), (true, 1), (true, 2), (true, 3), (true, 4), (true, 5), (true, 6), (true, 7), (true, 8)] [9] (fun W => W.cell? ⟨g0, k, none⟩ = some (.pointer (some ⟨x.b, 0, none⟩)) ∧ W.cell? ⟨g1, k, none⟩ = some (.pointer (some ⟨y.b, 0, none⟩))) (by kernel_rfl) (by kernel_rfl) (fun _ _ d _ _ h => by cases d <;> exact h) ⟨cx, cy⟩ (fun hS0 => ?_)
     simp only [planOps, List.filterMap_cons, List.filterMap_nil, List.getElem?_toArray, List.getElem?_cons_zero, List.getElem?_cons_succ, Option.map_some]
     iterate 9
      first
       | (refine wpPlan_take ?_ (by rfl) (fun w' hS' => ?_) ?_; rotate_left; (obtain ⟨s0, s1⟩ := hS'; go_simp; first | done | with_reducible rfl); simp only [Act.put, zA, zB, zC])
       | (refine wpPlan_skip (by rfl) ?_; simp only [Act.put, zA, zB, zC])
     refine wpPlan_end ?_
     by_cases hkk : kd = 1 ∨ kd = 6
     ·have TX4 := lh (TX.out.bel (Below.refl _ _).drew)
      have TY4 := lh (TY.out.bel (Below.refl _ _).drew)
      have B4 := lh HB.out.drew
      clear cx cy
      rcases hkk with rfl | rfl
      all_goals
       have C4 := lh (vars_any wr.drew _ x TX4.out (by have := MX.out; omega))
       unfold ATree.ptr at C4
       go_wp2_with fail
       refine C4.out.mono ?_
       rintro e w5 ⟨v5, rfl, ht, hb, _⟩
       have T5 := lh ht
       have TX5 := lh (TX4.out.bel hb)
       have TY5 := lh (TY4.out.bel hb)
       have B5 := lh (B4.out.trans (hb.mono B4.out.size))
       have C5 := lh (rvars_any _ y (Nat.le_refl _) (by have := MY.out; omega) w5 _ TY5.out)
       unfold ATree.ptr at C5
       clear ht hb C4 TX4 TY4
       go_wp2_with fail
       refine C5.out.mono ?_
       rintro e w6 ⟨v6, rfl, ht, hb⟩
       rw [← varsF_tree HXY.out] at ht
       have TX6 := lh (TX5.out.bel hb)
       have TY6 := lh (TY5.out.bel hb)
       have B6 := lh (B5.out.trans (hb.mono B5.out.size))
       have C6 := lh (sametexts_any w6 _ _ v5 v6 _ (T5.out.bel hb) ht)
       clear ht hb C5 TX5 TY5 T5
       go_wp2_with fail
       refine C6.out.mono ?_
       rintro e w7 ⟨rfl, hb⟩
       have TX7 := lh (TX6.out.bel hb)
       have TY7 := lh (TY6.out.bel hb)
       have B7 := lh (B6.out.trans (hb.mono B6.out.size))
       clear hb C6 TX6 TY6
       have C7 := lh (funcs_any w7 _ x TX7.out (by have := kids_many x; have := MX.out; omega))
       unfold ATree.ptr at C7
       go_wp2_with fail
       refine C7.out.mono ?_
       rintro e w8 ⟨v8, rfl, hn, hb⟩
       obtain ⟨p8, c8, rfl, _, _⟩ := hn.parts
       obtain ⟨m8, hm8⟩ : ∃ m, m = (x.kids.filter isFunc).length := ⟨_, rfl⟩
       have HM8 := lh hm8
       rw [← hm8]
       have TX8 := lh (TX7.out.bel hb)
       have TY8 := lh (TY7.out.bel hb)
       have B8 := lh (B7.out.trans (hb.mono B7.out.size))
       have C8 := lh (rfuncs_any w8 _ y TY8.out (by have := MY.out; omega))
       unfold ATree.ptr at C8
       have hz8 : ((m8 : Int) != (m8 : Int)) = false := by simp
       clear hn hb hm8 C7 TX7 TY7
       go_wp2_with fail
       refine C8.out.mono ?_
       rintro e w9 ⟨v9, rfl, hn, hb⟩
       obtain ⟨p9, c9, rfl, _, _⟩ := hn.parts
       rw [← funcs_len HXY.out, ← HM8.out]
       have TX9 := lh (TX8.out.bel hb)
       have TY9 := lh (TY8.out.bel hb)
       have B9 := lh (B8.out.trans (hb.mono B8.out.size))
       clear hn hb C8 TX8 TY8
       have C9 := lh (lets_any w9 _ x TX9.out (by have := kids_many x; have := MX.out; omega))
       unfold ATree.ptr at C9
       go_wp2_with fail
       refine C9.out.mono ?_
       rintro e w10 ⟨v10, rfl, hn, hb⟩
       obtain ⟨p10, c10, rfl, _, _⟩ := hn.parts
       obtain ⟨m10, hm10⟩ : ∃ m, m = (x.kids.filter isLet).length := ⟨_, rfl⟩
       have HM10 := lh hm10
       rw [← hm10]
       have TX10 := lh (TX9.out.bel hb)
       have TY10 := lh (TY9.out.bel hb)
       have B10 := lh (B9.out.trans (hb.mono B9.out.size))
       have C10 := lh (rlets_any w10 _ y TY10.out (by have := MY.out; omega))
       unfold ATree.ptr at C10
       have hz10 : ((m10 : Int) != (m10 : Int)) = false := by simp
       clear hn hb hm10 C9 TX9 TY9
       go_wp2_with fail
       refine C10.out.mono ?_
       rintro e w11 ⟨v11, rfl, hn, hb⟩
       obtain ⟨p11, c11, rfl, _, _⟩ := hn.parts
       rw [← lets_len HXY.out, ← HM10.out]
       have TX11 := lh (TX10.out.bel hb)
       have TY11 := lh (TY10.out.bel hb)
       have B11 := lh (B10.out.trans (hb.mono B10.out.size))
       clear hn hb C10 TX10 TY10
       have C11 := lh (names_true w11 _ x TX11.out (by have := MX.out; omega))
       unfold ATree.ptr at C11
       go_wp2_with fail
       refine C11.out.mono ?_
       rintro e w12 ⟨v12, rfl, ht, hb⟩
       have T12 := lh ht
       have TX12 := lh (TX11.out.bel hb)
       have TY12 := lh (TY11.out.bel hb)
       have B12 := lh (B11.out.trans (hb.mono B11.out.size))
       have C12 := lh (rnames_true w12 _ y TY12.out (by have := MY.out; omega))
       unfold ATree.ptr at C12
       clear ht hb C11 TX11 TY11
       go_wp2_with fail
       refine C12.out.mono ?_
       rintro e w13 ⟨v13, rfl, ht, hb⟩
       rw [← namesF_tree HXY.out true] at ht
       have TX13 := lh (TX12.out.bel hb)
       have TY13 := lh (TY12.out.bel hb)
       have B13 := lh (B12.out.trans (hb.mono B12.out.size))
       have C13 := lh (sametexts_any w13 _ _ v12 v13 _ (T12.out.bel hb) ht)
       clear ht hb C12 TX12 TY12 T12
       go_wp2_with fail
       refine C13.out.mono ?_
       rintro e w14 ⟨rfl, hb⟩
       have TX14 := lh (TX13.out.bel hb)
       have TY14 := lh (TY13.out.bel hb)
       have B14 := lh (B13.out.trans (hb.mono B13.out.size))
       clear hb C13 TX13 TY13
       have C14 := lh (names_false w14 _ x TX14.out (by have := MX.out; omega))
       unfold ATree.ptr at C14
       go_wp2_with fail
       refine C14.out.mono ?_
       rintro e w15 ⟨v15, rfl, ht, hb⟩
       have T15 := lh ht
       have TX15 := lh (TX14.out.bel hb)
       have TY15 := lh (TY14.out.bel hb)
       have B15 := lh (B14.out.trans (hb.mono B14.out.size))
       have C15 := lh (rnames_false w15 _ y TY15.out (by have := MY.out; omega))
       unfold ATree.ptr at C15
       clear ht hb C14 TX14 TY14
       go_wp2_with fail
       refine C15.out.mono ?_
       rintro e w16 ⟨v16, rfl, ht, hb⟩
       rw [← namesF_tree HXY.out false] at ht
       have TX16 := lh (TX15.out.bel hb)
       have TY16 := lh (TY15.out.bel hb)
       have B16 := lh (B15.out.trans (hb.mono B15.out.size))
       have C16 := lh (sametexts_any w16 _ _ v15 v16 _ (T15.out.bel hb) ht)
       clear ht hb C15 TX15 TY15 T15
       go_wp2_with fail
       refine C16.out.mono ?_
       rintro e w17 ⟨rfl, hb⟩
       have TX17 := lh (TX16.out.bel hb)
       have TY17 := lh (TY16.out.bel hb)
       have B17 := lh (B16.out.trans (hb.mono B16.out.size))
       clear hb C16 TX16 TY16
       go_wp2
       go_roundw
       case rel => exact ⟨k + 1, by omega, by go_num, B17⟩
       case measure => simp [intOf]; omega
     ·have n1 : (kd != 1) = true := by simp; omega
      have n6 : (kd != 6) = true := by simp; omega
      clear hkk
      go_wp2
      go_roundw
      case rel => exact ⟨k + 1, by omega, by go_num, lh HB.out.drew⟩
      case measure => simp [intOf]; omega
    ·have hk2 : k = n := by omega
     subst hk2
     have V1 := lh (vars_nil wr)
     have BB := lh (B3.out.trans (HB.out.mono B3.out.size))
     go_wp2_with fail
     refine V1.out.mono ?_
     rintro e w4 ⟨rfl, hb4⟩
     have B4 := lh (BB.out.trans (hb4.mono BB.out.size))
     have V2 := lh (names_nil w4)
     clear hb4 V1
     go_wp2_with fail
     refine V2.out.mono ?_
     rintro e w5 ⟨rfl, hb5⟩
     have B5 := lh (B4.out.trans (hb5.mono B4.out.size))
     have V3 := lh (lets_nil w5)
     clear hb5 V2
     go_wp2_with fail
     refine V3.out.mono ?_
     rintro e w6 ⟨rfl, hb6⟩
     have B6 := lh (B5.out.trans (hb6.mono B5.out.size))
     have V4 := lh (funcs_nil w6)
     clear hb6 V3
     go_wp2_with fail
     refine V4.out.mono ?_
     rintro e w7 ⟨rfl, hb7⟩
     have B7 := lh (B6.out.trans (hb7.mono B6.out.size))
     clear hb7 V4
     go_wp2
     go_ret
     exact ⟨rfl, B7.out⟩
end Go.Proofs.YtfappndicnneoaaGreatDoor
namespace Go.Proofs.YtfappndicnneoaaGreatDoor
open Go Go.RowKit
set_option maxRecDepth 100000
theorem cells_of_texts {H : Type} {enc : TypeId × Value → H} {P : Program} {w : World} {base : Nat} {sp : Nat → Bool} {held : Bool} {fuel : Nat} {t e : TypeId} {n : Nat} {cs : List Value} {l : List (List UInt8)} {p : List MemPlace}
 (ht : P.underlying t = some (.array n e)) (he : P.underlying e = some .string) (hce : P.cellsOf e = 1) (hct : P.cellsOf t = n)
 (h : DataW.trod enc P w base sp held fuel t cs = some (.agg (l.map fun b => .lit (.string b)), p)) : cs = l.map fun b => Value.string ⟨b.toArray⟩ := by
 cases fuel with
 | zero => simp [DataW.trod] at h
 | succ fuel =>
   simp only [DataW.trod, ht, hce, hct, Nat.mul_one] at h
   split at h
   ·rename_i hl
    obtain ⟨xs, hm, hx⟩ := Option.map_eq_some_iff.1 h
    have hxs : xs.map (·.1) = l.map fun b => (DataW.lit (.string b) : DataW H) := by
     have := congrArg Prod.fst hx
     simpa using this
    have hxl : xs.length = n := by simpa using Lib.mapM_length hm
    have hzl : l.length = n := by
     have := congrArg List.length hxs
     simp at this
     omega
    apply List.ext_getElem?
    intro i
    by_cases hi : i < n
    ·obtain ⟨b, hb, hf⟩ := Lib.mapM_at hm i i (by simp [hi])
     obtain ⟨s, hc, rfl, _⟩ := DataW.trod_string he hf
     have h1 : cs[i]? = some (.string s) := by
      have := congrArg (·[0]?) hc
      simpa [List.getElem?_take, List.getElem?_drop] using this
     have h2 : (xs.map (·.1))[i]? = some (DataW.lit (.string s.data.toList) : DataW H) := by simp [hb]
     rw [hxs] at h2
     simp only [List.getElem?_map, Option.map_eq_some_iff, DataW.lit.injEq, Lit.string.injEq] at h2
     obtain ⟨z', hz', hzz⟩ := h2
     simp only [h1, List.getElem?_map, hz', Option.map_some, hzz]
    ·rw [List.getElem?_eq_none (by omega), List.getElem?_eq_none (by simp; omega)]
   ·cases h
theorem text_of {H : Type} {enc : TypeId × Value → H} {P : Program} {w : World} {base : Nat} {sp : Nat → Bool} {held : Bool} {fuel : Nat} {e : TypeId} {v : Value} {b : List UInt8} {q : List MemPlace} (he : P.underlying e = some .string)
 (h : DataW.trod enc P w base sp held fuel e [v] = some (.lit (.string b), q)) : v = .string ⟨b.toArray⟩ := by
 obtain ⟨s, hc, hx, _⟩ := DataW.trod_string he h
 simp only [List.cons.injEq, and_true] at hc
 simp only [Prod.mk.injEq, DataW.lit.injEq, Lit.string.injEq] at hx
 rw [hc, hx.1]
theorem texts_of_head {P : Program} {W : World} {name : String} {d : DataW Unit} {rest : List (String × DataW Unit)} {g : Nat} {t e : TypeId} {n : Nat} {l : List (List UInt8)}
 (hg : P.globalNamed name = some g) (hty : (P.globals[g]?).map (·.type) = some t) (ht : P.underlying t = some (.array n e)) (he : P.underlying e = some .string) (hce : P.cellsOf e = 1) (hct : P.cellsOf t = n)
 (hd : d = .agg (l.map fun b => .lit (.string b))) (h : laidMet P ((name, d) :: rest) W) (i : Nat) (b : List UInt8) (hi : l[i]? = some b) : W.cell? ⟨g, i, none⟩ = some (.string ⟨b.toArray⟩) := by
 obtain ⟨ps, ⟨g', t', cs, fuel, p, q, hg', ht', hvar, hd', _, _⟩, _⟩ := h
 obtain rfl := Option.some.inj (hg.symm.trans hg')
 obtain rfl := Option.some.inj (hty.symm.trans ht')
 rw [hd] at hd'
 have hc := cells_of_texts ht he hce hct hd'
 have := World.var?_cell hg hvar i
 rw [this]
 have hx : cs = (l.map fun b => Value.string ⟨b.toArray⟩).toArray := by rw [← hc]
 rw [hx]
 simp [hi]
theorem row_of_head {P : Program} {W : World} {name : String} {d : DataW Unit} {rest : List (String × DataW Unit)} {g : Nat} {t e : TypeId} {l : List (List UInt8)}
 (hg : P.globalNamed name = some g) (hty : (P.globals[g]?).map (·.type) = some t) (ht : P.underlying t = some (.slice e)) (he : P.underlying e = some .string) (hce : P.cellsOf e = 1)
 (hd : d = .slice (l.map fun b => .lit (.string b)) []) (hl : 0 < l.length) (h : laidMet P ((name, d) :: rest) W) :
 ∃ b off cap, W.cell? ⟨g, 0, none⟩ = some (.slice (some ⟨b, off, none⟩) l.length cap) ∧ l.length ≤ cap ∧ ∀ i x, l[i]? = some x → W.cell? ⟨b, off + i, none⟩ = some (.string ⟨x.toArray⟩) := by
 obtain ⟨ps, ⟨g', t', cs, fuel, p, q, hg', ht', hvar, hd', _, _⟩, _⟩ := h
 obtain rfl := Option.some.inj (hg.symm.trans hg')
 obtain rfl := Option.some.inj (hty.symm.trans ht')
 rw [hd] at hd'
 obtain ⟨a, cap, hcs, hcap, hel⟩ := open_row ht hce hd'
 rw [List.length_map] at hcs hcap
 obtain ⟨b, off, spot⟩ := a
 have hspot : spot = none := by
  obtain ⟨x, hx⟩ : ∃ x, l[0]? = some x := ⟨l[0], List.getElem?_eq_getElem hl⟩
  obtain ⟨v, n, q, hc, _⟩ := hel 0 _ (by rw [List.getElem?_map, hx]; rfl)
  simpa [Addr.add] using World.cell?_spot hc
 subst hspot
 refine ⟨b, off, cap, ?_, hcap, fun i x hx => ?_⟩
 ·have := World.var?_cell hg hvar 0
  rw [Array.eq_one_of_toList hcs] at this
  simpa using this
 ·obtain ⟨v, n, q, hc, hr⟩ := hel i _ (by rw [List.getElem?_map, hx]; rfl)
  rw [text_of he hr] at hc
  rwa [show ((⟨b, off, none⟩ : Addr).add i) = ⟨b, off + i, none⟩ by unfold Addr.add; split <;> simp_all] at hc
theorem rows_at {H : Type} {enc : TypeId × Value → H} {P : Program} {w : World} {base : Nat} {sp : Nat → Bool} {held : Bool} {fuel : Nat} {t e : TypeId} {n : Nat} {cs : List Value} {l : List (DataW H)} {p : List MemPlace}
 (ht : P.underlying t = some (.array n e)) (hce : P.cellsOf e = 1) (hct : P.cellsOf t = n)
 (h : DataW.trod enc P w base sp held fuel t cs = some (.agg l, p)) (i : Nat) (r : DataW H) (hi : l[i]? = some r) :
 ∃ fuel' q, DataW.trod enc P w base sp held fuel' e ((cs.drop i).take 1) = some (r, q) := by
 cases fuel with
 | zero => simp [DataW.trod] at h
 | succ fuel =>
   simp only [DataW.trod, ht, hce, hct, Nat.mul_one] at h
   split at h
   ·rename_i hl
    obtain ⟨xs, hm, hx⟩ := Option.map_eq_some_iff.1 h
    have hxs : xs.map (·.1) = l := by
     have := congrArg Prod.fst hx
     simpa using this
    have hxl : xs.length = n := by simpa using Lib.mapM_length hm
    have hin : i < n := by
     have h1 := (List.getElem?_eq_some_iff.1 hi).1
     rw [← hxs, List.length_map] at h1
     omega
    obtain ⟨b, hb, hf⟩ := Lib.mapM_at hm i i (by simp [hin])
    have h2 : (xs.map (·.1))[i]? = some b.1 := by simp [hb]
    rw [hxs, hi] at h2
    exact ⟨fuel, b.2, by rw [Option.some.inj h2]; exact hf⟩
   ·cases h
theorem rows_of_second {P : Program} {W : World} {n1 name : String} {d1 d : DataW Unit} {rest : List (String × DataW Unit)} {g : Nat} {t e f : TypeId} {n : Nat} {l : List (List (List UInt8))}
 (hg : P.globalNamed name = some g) (hty : (P.globals[g]?).map (·.type) = some t) (ht : P.underlying t = some (.array n e)) (he : P.underlying e = some (.slice f)) (hf : P.underlying f = some .string)
 (hce : P.cellsOf e = 1) (hcf : P.cellsOf f = 1) (hct : P.cellsOf t = n)
 (hd : d = .agg (l.map fun r => .slice (r.map fun b => .lit (.string b)) [])) (h : laidMet P ((n1, d1) :: (name, d) :: rest) W) (i : Nat) (r : List (List UInt8)) (hi : l[i]? = some r) (hr : 0 < r.length) :
 ∃ b off cap, W.cell? ⟨g, i, none⟩ = some (.slice (some ⟨b, off, none⟩) r.length cap) ∧ r.length ≤ cap ∧ ∀ j x, r[j]? = some x → W.cell? ⟨b, off + j, none⟩ = some (.string ⟨x.toArray⟩) := by
 obtain ⟨ps, ⟨_, _, _, _, _, _, _, _, _, _, h2, _⟩, _⟩ := h
 obtain ⟨g', t', cs, fuel, p, q, hg', ht', hvar, hd', _, _⟩ := h2
 obtain rfl := Option.some.inj (hg.symm.trans hg')
 obtain rfl := Option.some.inj (hty.symm.trans ht')
 rw [hd] at hd'
 obtain ⟨fuel', q', hrow⟩ := rows_at ht hce hct hd' i (.slice (r.map fun b => .lit (.string b)) []) (by rw [List.getElem?_map, hi]; rfl)
 obtain ⟨a, cap, hcs, hcap, hel⟩ := open_row he hcf hrow
 rw [List.length_map] at hcs hcap
 have hcell : W.cell? ⟨g, i, none⟩ = some (.slice (some a) r.length cap) := by
  rw [World.var?_cell hg hvar i]
  have := congrArg (·[0]?) hcs
  simpa [List.getElem?_take, List.getElem?_drop] using this
 obtain ⟨b, off, spot⟩ := a
 have hspot : spot = none := by
  obtain ⟨x, hx⟩ : ∃ x, r[0]? = some x := ⟨r[0], List.getElem?_eq_getElem hr⟩
  obtain ⟨v, n, q, hc, _⟩ := hel 0 _ (by rw [List.getElem?_map, hx]; rfl)
  simpa [Addr.add] using World.cell?_spot hc
 subst hspot
 refine ⟨b, off, cap, hcell, hcap, fun j x hx => ?_⟩
 obtain ⟨v, n, q, hc, hr⟩ := hel j _ (by rw [List.getElem?_map, hx]; rfl)
 rw [text_of hf hr] at hc
 rwa [show ((⟨b, off, none⟩ : Addr).add j) = ⟨b, off + j, none⟩ by unfold Addr.add; split <;> simp_all] at hc
end Go.Proofs.YtfappndicnneoaaGreatDoor
