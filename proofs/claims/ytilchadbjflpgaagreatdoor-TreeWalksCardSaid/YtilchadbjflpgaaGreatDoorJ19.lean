/- The document's All: a node and all within, as Walk comes to them. The document's Vars: what it tells is what package hoist's does. The document's kinds, Funcs, Lets. The document's Names; what is told of no node. Package lex: the tokens' shape. The document's parser: what else its tokens are. -/
import Derived.Test.YtilchadbjflpgaaGreatDoorJ01
import Derived.Test.YtilchadbjflpgaaGreatDoorJ11
import Derived.Test.YtilchadbjflpgaaGreatDoorJ14
import Derived.Test.YtilchadbjflpgaaGreatDoorJ18
import Derived.Test.YtilchadbjflpgaaGreatDoorJ03
import Derived.Test.YtilchadbjflpgaaGreatDoorJ12
namespace Go.Proofs.YtilchadbjflpgaaGreatDoor
open Go Go.RowKit
set_option maxRecDepth 100000
set_option linter.unusedVariables false
theorem kids_many (a : ATree) : a.kids.length < a.many := by
 have key : ∀ l : List ATree, l.length ≤ manyLA l := by
  intro l
  induction l with
  | nil => simp [manyLA]
  | cons x l ih =>
    simp only [manyLA, List.length_cons]
    have : 0 < x.many := by cases x; simp [ATree.many]
    omega
 obtain ⟨b, v, k, t, n, ks⟩ := a
 have := key ks
 simp only [ATree.kids, ATree.many]
 omega
theorem subsL_le {l : List ATree} {k : Nat} : (subsL (l.take k)).length ≤ (subsL l).length := by
 have e : subsL l = subsL (l.take k) ++ subsL (l.drop k) := by rw [← subsL_app, List.take_append_drop]
 rw [e, List.length_append]; omega
theorem subsL_next {l : List ATree} {k : Nat} {x : ATree} (h : l[k]? = some x) : subsL (l.take (k + 1)) = subsL (l.take k) ++ x.subs := by
 rw [take_succ_kid h, subsL_app]; simp [subsL]
theorem subs_pos (a : ATree) : 0 < a.subs.length := by rw [subs_eq]; simp
set_option maxHeartbeats 8000000 in
theorem all_any (n0 : Nat) : ∀ (a : ATree), a.many ≤ n0 → a.many ≤ 100000 → ∀ (w : World) (B0 : Nat), TreeAt w B0 a →
 Calls Tryz.prog 18 #[a.ptr] w fun e w' => ∃ v, e = .returned v ∧ Nodes w' w.heap.size v a.subs ∧ Below w.heap.size w w' := by
 induction n0 with
 | zero => intro a h; cases a; simp [ATree.many] at h
 | succ n0 ih =>
 intro a hn hmx w B0 hT
 obtain ⟨i0, hi, hz0, hz1, hz2⟩ := info_parts Tryz.infoPtr
 have HIH := lh ih
 have hblk := hT.blkOf
 have hrow := hT.rowOf
 obtain ⟨p, cp, hv, hge⟩ : ∃ p cp, a.v = .slice p a.kids.length cp ∧ a.kids.length ≤ cp := by
  rcases ownsRow_cases hrow with ⟨h1, h2⟩ | ⟨g0, cap0, h1, h2, _⟩
  ·exact ⟨none, 0, by rw [h1, h2], by omega⟩
  ·exact ⟨_, _, h1, h2⟩
 have c3 : w.cell? ⟨a.b, 3, none⟩ = some (.slice p a.kids.length cp) := by rw [← hv]; simp [World.cell?, hblk]
 have hkm := kids_many a
 have hlen : a.kids.length ≤ 100000 := by omega
 have hab : a.b < w.heap.size := hT.lt
 have HT := lh hT
 have HV := lh hv
 have HNN := lh hn
 have HMX := lh hmx
 have hsl : (a :: subsL a.kids).length ≤ 100000 := by rw [← subs_eq, subs_length]; exact hmx
 have HSL := lh hsl
 have ST := lh (show Nodes (w.alloc (.cells #[a.ptr] 22)) w.heap.size (.slice (some ⟨w.heap.size, 0, none⟩) 1 1) (a :: subsL (a.kids.take 0)) from row_new (l := [a]) (Nat.le_refl _) (by simp))
 have SB := lh ((Below.refl w.heap.size w).alloc (Nat.le_refl _) (.cells #[a.ptr] 22))
 unfold ATree.ptr at ST SB ⊢
 obtain ⟨n, hnn⟩ : ∃ n, n = a.kids.length := ⟨_, rfl⟩
 rw [← hnn] at c3 hlen hge
 have HN := lh hnn
 have HC3 := lh c3
 have c3' : (w.alloc (.cells #[.pointer (some ⟨a.b, 0, none⟩)] 22)).cell? ⟨a.b, 3, none⟩ = some (.slice p n cp) := (cell_old hab).trans c3
 clear hblk hrow hv hnn hT hkm hsl ih hn hmx
 go_enter Tryz.func18, Tryz.ntmps18
 go_wp2_with fail
 go_loopw [3, 15] (fun v i wr => ∃ (k : Nat) (v' : Value), v' = v ∧ k ≤ n ∧ i = .int .i64 k ∧ Hid (Nodes wr w.heap.size v' (a :: subsL (a.kids.take k))) ∧ Hid (Below w.heap.size w wr)) (fun _ i _ => n - (intOf i).toNat)
 case atStart => exact ⟨0, _, rfl, Nat.zero_le _, rfl, ST, SB⟩
 case round =>
  obtain ⟨k, v, rfl, hk, rfl, HR, HB⟩ := hrel
  clear ST SB
  by_cases hkn : k < n
  ·obtain ⟨x, hx⟩ : ∃ x, a.kids[k]? = some x := ⟨_, List.getElem?_eq_getElem (by rw [← HN.out]; exact hkn)⟩
   have hT2 := HT.out.bel HB.out
   have hrow := hT2.rowOf
   rcases ownsRow_cases hrow with ⟨_, h2⟩ | ⟨g0, cap0, hv0, _⟩
   ·rw [← HN.out] at h2; omega
   have hp : p = some ⟨g0, 0, none⟩ := by
    have := HV.out.symm.trans hv0
    simp only [Value.slice.injEq] at this
    exact this.1
   subst hp
   have cx := ownsRow_cell1 hrow (g := g0) (by rw [hv0]; rfl) (i := k) (x := x.ptr) (by rw [List.getElem?_map, hx]; rfl)
   unfold ATree.ptr at cx
   have hmem := List.mem_of_getElem? hx
   have hTx := hT2.kid hmem
   have hxm := many_kid hmem
   have HC := lh (HIH.out x (by have := HNN.out; omega) (by have := HMX.out; omega) wr B0 hTx)
   have HNX := lh (subsL_next hx)
   have HPO := lh (subs_pos x)
   have HL2 := lh (show (a :: subsL (a.kids.take (k + 1))).length ≤ 100000 from Nat.le_trans (by simp only [List.length_cons]; have := subsL_le (l := a.kids) (k := k + 1); omega) HSL.out)
   unfold ATree.ptr at HC
   clear hT2 hrow hv0 hTx hxm hmem hx
   go_wp2_with fail
   refine HC.out.mono ?_
   rintro e w1 ⟨vk, rfl, hNk, hB1⟩
   obtain ⟨L, hL⟩ : ∃ L, L = a :: subsL (a.kids.take k) := ⟨_, rfl⟩
   have hNR := HR.out
   rw [← hL] at hNR
   rcases hNk.form with ⟨_, h2⟩ | ⟨g1, cap1, rfl, hc1, hc2⟩
   ·have := HPO.out; rw [h2] at this; simp at this
   have hL2 := HL2.out
   have hLx : L ++ x.subs = a :: subsL (a.kids.take (k + 1)) := by rw [HNX.out, hL]; rfl
   rw [← hLx, List.length_append] at hL2
   have HLX := lh hLx
   have hR1 : Nodes w1 w.heap.size v L := ownsRow_block hNR fun j hj => hB1.block j (World.ownsRow.lt hNR j hj).2
   have hg1 : wr.heap.size ≤ g1 ∧ g1 < w1.heap.size := World.ownsRow.lt hNk g1 rfl
   have NEWS := lh (show ∀ (j : Nat) (u : Value), (x.subs.map ATree.ptr)[j]? = some u → w1.cell? ((⟨g1, 0, none⟩ : Addr).add j) = some u from fun j u hu => by
    have hadd : (⟨g1, 0, none⟩ : Addr).add j = ⟨g1, j, none⟩ := by unfold Addr.add; split <;> simp_all
    rw [hadd]
    exact ownsRow_cell1 hNk (g := g1) rfl hu)
   obtain ⟨m, hm⟩ : ∃ m, m = x.subs.length := ⟨_, rfl⟩
   have hm0 : 0 < m := by rw [hm]; exact HPO.out
   have hLm : L.length + m ≤ 100000 := by rw [hm]; exact hL2
   rw [← hm] at hc1 ⊢
   have HM := lh hm
   have HNR := lh hR1
   have HNR0 := lh hNR
   have HB1 := lh hB1
   have HNF := lh (show v.ownBlock ≠ some g1 from fun e => by have := (World.ownsRow.lt hNR g1 e).2; omega)
   have HG1 := lh hg1
   have hBS := HB.out.size
   have hB1s := hB1.size
   clear hNk hL hNR hL2 hLx hR1 hg1 hm hB1 HC HR HNX HL2
   go_wp2_with (at_builtin; go_must (refine wpList_append_lies _ rfl (.tmp 19) (.tmp 21) 27 rfl w.heap.size 22 i0 _ 1 8 Tryz.underlying27 hi hz0 hz1 hz2 rfl (by decide) v L.length (L.map ATree.ptr) rfl HNR.out ⟨g1, 0, none⟩ m cap1 (x.subs.map ATree.ptr) rfl (by simp [HM.out]) NEWS.out (fun u hu => by obtain ⟨z, _, rfl⟩ := List.mem_map.1 hu; rfl) (by omega) (by unfold maxLen; omega) (by omega) (by omega) w1.heap.size (by simp) ?_); intro gg cap w2 hown2 hgrow2 hat2 hgl2; have HG := lh hgrow2; have HW := lh hown2; clear hgrow2 hown2 hat2 hgl2)
   go_roundw
   case rel =>
    refine ⟨k + 1, _, rfl, by omega, by go_num, lh ?_, lh ?_⟩
    ·rw [← HLX.out]
     unfold Nodes
     rw [List.length_append, List.map_append, ← HM.out]
     exact HW.out
    ·exact (HB.out.trans (HB1.out.mono hBS)).grown HG.out (by omega) fun j hj => (World.ownsRow.lt HNR0.out j hj).1
   case measure => simp [intOf]; omega
  ·have hk2 : k = n := by omega
   subst hk2
   go_wp2
   go_ret
   refine ⟨_, rfl, ?_, HB.out⟩
   have := HR.out
   rwa [List.take_of_length_le (by rw [← HN.out]; exact Nat.le_refl _), ← subs_eq] at this
theorem tokAt_kind {text : ByteArray} {j k : Nat} {t : Tok} (h : tokAt text j = .ok (t, k)) : t.kind ≠ 6 ∧ (t.kind = 2 → isWordB t.text = true) ∧ (t.kind = 5 → t.text = text.extract j (j + signs3 text j) ∧ letterB (byteAt text j) = false) := by
 unfold tokAt at h
 simp only at h
 split at h
 ·rename_i hl
  split at h
  ·rename_i hw
   simp only [Except.ok.injEq, Prod.mk.injEq] at h
   obtain ⟨rfl, _⟩ := h
   exact ⟨by simp, fun _ => hw, (fun h => by simp at h)⟩
  ·split at h
   ·cases h
   ·simp only [Except.ok.injEq, Prod.mk.injEq] at h
    obtain ⟨rfl, _⟩ := h
    exact ⟨by simp, (fun h => by simp at h), (fun h => by simp at h)⟩
 ·rename_i hl
  split at h
  ·split at h
   ·cases h
   ·split at h
    ·cases h
    ·simp only [Except.ok.injEq, Prod.mk.injEq] at h
     obtain ⟨rfl, _⟩ := h
     exact ⟨by simp, (fun h => by simp at h), (fun h => by simp at h)⟩
  ·split at h
   ·split at h
    ·cases h
    ·split at h
     ·cases h
     ·simp only [Except.ok.injEq, Prod.mk.injEq] at h
      obtain ⟨rfl, _⟩ := h
      exact ⟨by simp, (fun h => by simp at h), (fun h => by simp at h)⟩
   ·split at h
    ·cases h
    ·simp only [Except.ok.injEq, Prod.mk.injEq] at h
     obtain ⟨rfl, _⟩ := h
     exact ⟨by simp, (fun h => by simp at h), fun _ => ⟨rfl, by simpa using hl⟩⟩
theorem word_sign {s : ByteArray} (h : isWordB s = true) : signK s = 0 := by
 refine Decidable.byContradiction fun hs => ?_
 have key : s = s_or ∨ s = s_and ∨ s = s_same ∨ s = s_less ∨ s = s_add ∨ s = s_sub ∨ s = s_mul := by
  unfold signK sameS at hs
  simp only [decide_eq_true_eq] at hs
  by_cases h1 : s = s_or
  ·exact .inl h1
  by_cases h2 : s = s_and
  ·exact .inr (.inl h2)
  by_cases h3 : s = s_same
  ·exact .inr (.inr (.inl h3))
  by_cases h4 : s = s_less
  ·exact .inr (.inr (.inr (.inl h4)))
  by_cases h5 : s = s_add
  ·exact .inr (.inr (.inr (.inr (.inl h5))))
  by_cases h6 : s = s_sub
  ·exact .inr (.inr (.inr (.inr (.inr (.inl h6)))))
  by_cases h7 : s = s_mul
  ·exact .inr (.inr (.inr (.inr (.inr (.inr h7)))))
  simp [h1, h2, h3, h4, h5, h6, h7] at hs
 have no : ∀ x, isWordB x = false → s = x → False := fun x h1 h2 => by rw [h2, h1] at h; cases h
 rcases key with e | e | e | e | e | e | e
 all_goals exact no _ (by kernel_rfl) e
theorem const_letter {s : ByteArray} (h : constK s ≠ 0) : letterB (byteAt s 0) = true ∧ 0 < s.size := by
 unfold constK at h
 by_cases h1 : sameS s s_true = true
 ·have : s = s_true := by simpa [sameS] using h1
  subst this; exact ⟨by kernel_rfl, by decide⟩
 by_cases h2 : sameS s s_false = true
 ·have : s = s_false := by simpa [sameS] using h2
  subst this; exact ⟨by kernel_rfl, by decide⟩
 by_cases h3 : sameS s s_null = true
 ·have : s = s_null := by simpa [sameS] using h3
  subst this; exact ⟨by kernel_rfl, by decide⟩
 by_cases h4 : sameS s s_undefined = true
 ·have : s = s_undefined := by simpa [sameS] using h4
  subst this; exact ⟨by kernel_rfl, by decide⟩
 simp [h1, h2, h3, h4] at h
theorem tokAt_good {text : ByteArray} {j k : Nat} {t : Tok} (hj : j < text.size) (h : tokAt text j = .ok (t, k)) : GoodT t := by
 obtain ⟨_, h2, h5⟩ := tokAt_kind h
 refine ⟨fun hk => word_sign (h2 hk), fun hk => ?_⟩
 obtain ⟨ht, hl⟩ := h5 hk
 refine Decidable.byContradiction fun hc => ?_
 obtain ⟨hb, hs⟩ := const_letter hc
 have hsz : 0 < signs3 text j := by
  unfold signs3
  split
  ·omega
  ·split
   ·omega
   ·split <;> omega
 have hp : byteAt t.text 0 = byteAt text j := by
  rw [ht]
  have hle : (text.extract j (j + signs3 text j)).size ≤ signs3 text j := by rw [ByteArray.size_extract]; omega
  by_cases hk : j + signs3 text j ≤ text.size
  ·rw [byteAt_extract text (by omega) hk]; rfl
  ·have e : text.extract j (j + signs3 text j) = text.extract j text.size := by
    apply ByteArray.ext
    simp only [ByteArray.data_extract]
    apply Array.ext
    ·simp only [Array.size_extract]
     have : text.size = text.data.size := rfl
     omega
    ·intro i h1 h2; simp only [Array.getElem_extract]
   rw [e, byteAt_extract text (by omega) (Nat.le_refl _)]; rfl
 rw [hp, hl] at hb
 cases hb
theorem stand_shape {text : ByteArray} : ∀ (r : List Tok) (i : Nat), i ≤ text.size → Stand text i r → (∃ l e, r = l ++ [e] ∧ e.kind = 6 ∧ ∀ t ∈ l, t.kind ≠ 6) ∧ r.length + i ≤ text.size + 1 ∧ Goods r := by
 intro r
 induction r with
 | nil => intro i _ h; exact h.elim
 | cons t r ih =>
   intro i hi h
   cases r with
   | nil =>
     obtain ⟨h1, h2⟩ := h
     refine ⟨⟨[], t, rfl, by rw [h2], fun t ht => by cases ht⟩, by simp; omega, fun x hx => ?_⟩
     simp only [List.mem_singleton] at hx
     subst hx
     rw [h2]
     exact ⟨fun h => by simp at h, fun h => by simp at h⟩
   | cons u r =>
     obtain ⟨k, h1, h2, h3⟩ := h
     obtain ⟨c1, c2, _⟩ := tokAt_cut text h1 h2
     obtain ⟨s1, _, _, _⟩ := spanEnd_spec blankB text (text.size - i) i (Nat.le_refl _) hi
     obtain ⟨⟨l, e, h4, h5, h6⟩, h7, h8⟩ := ih k c2 h3
     refine ⟨⟨t :: l, e, by rw [h4]; rfl, h5, fun x hx => ?_⟩, ?_, fun x hx => ?_⟩
     ·rcases List.mem_cons.1 hx with rfl | hx
      ·exact (tokAt_kind h2).1
      ·exact h6 x hx
     ·simp only [List.length_cons] at h7 ⊢; omega
     ·rcases List.mem_cons.1 hx with rfl | hx
      ·exact tokAt_good h1 h2
      ·exact h8 x hx
theorem quotedF_few (text : ByteArray) : ∀ (f i : Nat) (acc : List UInt8), (quotedF text f i acc).2.1 = 0 → (quotedF text f i acc).1.length ≤ 500 := by
 intro f
 induction f with
 | zero => intro i acc h; simp [quotedF] at h
 | succ f ih =>
   intro i acc h
   unfold quotedF at h ⊢
   by_cases c1 : text.size ≤ i ∨ byteAt text i = 10
   ·rw [if_pos c1] at h; simp at h
   rw [if_neg c1] at h ⊢
   by_cases c2 : byteAt text i = 39
   ·rw [if_pos c2] at h ⊢
    by_cases c3 : 500 < acc.length
    ·rw [if_pos c3] at h; simp at h
    ·rw [if_neg c3]; simp only; omega
   rw [if_neg c2] at h ⊢
   by_cases c4 : byteAt text i = 92
   ·rw [if_pos c4] at h ⊢
    by_cases c5 : i + 1 < text.size
    ·rw [if_pos c5] at h ⊢
     cases he : escOf (byteAt text (i + 1)) with
     | none => rw [he] at h; simp at h
     | some e => rw [he] at h; simp only at h ⊢; exact ih _ _ h
    ·rw [if_neg c5] at h; simp at h
   ·rw [if_neg c4] at h ⊢
    exact ih _ _ h
theorem extract_size_le (text : ByteArray) (a b : Nat) : (text.extract a b).size ≤ text.size := by
 rw [ByteArray.size_extract]; omega
theorem tokAt_sm {text : ByteArray} {j k : Nat} {t : Tok} (h : tokAt text j = .ok (t, k)) : t.text.size ≤ text.size + 500 := by
 have hx := extract_size_le text
 unfold tokAt at h
 simp only at h
 split at h
 ·split at h
  ·simp only [Except.ok.injEq, Prod.mk.injEq] at h
   obtain ⟨rfl, _⟩ := h
   have := hx j (spanEnd wordB text (text.size - j) j); simp only; omega
  ·split at h
   ·cases h
   ·simp only [Except.ok.injEq, Prod.mk.injEq] at h
    obtain ⟨rfl, _⟩ := h
    have := hx j (spanEnd wordB text (text.size - j) j); simp only; omega
 ·split at h
  ·split at h
   ·cases h
   ·split at h
    ·cases h
    ·simp only [Except.ok.injEq, Prod.mk.injEq] at h
     obtain ⟨rfl, _⟩ := h
     exact Nat.zero_le _
  ·split at h
   ·split at h
    ·cases h
    ·split at h
     ·cases h
     ·rename_i _ h2
      simp only [Except.ok.injEq, Prod.mk.injEq] at h
      obtain ⟨rfl, _⟩ := h
      have h3 := quotedF_few text (text.size + 1 - (j + 1)) (j + 1) [] (by simpa [quotedAt] using h2)
      have h4 : (⟨(quotedAt text (j + 1)).1.toArray⟩ : ByteArray).size = (quotedAt text (j + 1)).1.length := by
       show (quotedAt text (j + 1)).1.toArray.size = _
       simp
      simp only
      rw [h4]
      have h5 : (quotedAt text (j + 1)).1.length ≤ 500 := h3
      omega
   ·split at h
    ·cases h
    ·simp only [Except.ok.injEq, Prod.mk.injEq] at h
     obtain ⟨rfl, _⟩ := h
     have := hx j (j + signs3 text j); simp only; omega
theorem tokAt_pm {text : ByteArray} {j k : Nat} {t : Tok} (hj : j < text.size) (h : tokAt text j = .ok (t, k)) : t.kind = 5 → t.text ≠ ⟨#[43, 45]⟩ := by
 intro hk he
 obtain ⟨_, _, h5⟩ := tokAt_kind h
 obtain ⟨ht, hl⟩ := h5 hk
 have hle : (text.extract j (j + signs3 text j)).size ≤ signs3 text j := by rw [ByteArray.size_extract]; omega
 have hsz : t.text.size = 2 := by rw [he]; rfl
 have h2 : 2 ≤ signs3 text j := by rw [← ht] at hle; omega
 have hp : byteAt t.text 0 = byteAt text j := by
  rw [ht]
  by_cases hk : j + signs3 text j ≤ text.size
  ·rw [byteAt_extract text (by omega) hk]; rfl
  ·have e : text.extract j (j + signs3 text j) = text.extract j text.size := by
    apply ByteArray.ext
    simp only [ByteArray.data_extract]
    apply Array.ext
    ·simp only [Array.size_extract]
     have : text.size = text.data.size := rfl
     omega
    ·intro i h1 h2; simp only [Array.getElem_extract]
   rw [e, byteAt_extract text (by omega) (Nat.le_refl _)]; rfl
 have h43 : byteAt text j = 43 := by rw [← hp, he]; decide
 have h1 : signs3 text j = 1 := by
  unfold signs3
  rw [if_neg (by rw [h43]; intro h; exact absurd h.1 (by decide)), if_neg (by rw [h43]; intro h; exact absurd h.1 (by decide)), if_neg (by rw [h43]; intro h; exact absurd h.1 (by decide))]
 omega
theorem stand_more {text : ByteArray} : ∀ (r : List Tok) (i : Nat), i ≤ text.size → Stand text i r → (∀ t ∈ r, t.kind = 5 → t.text ≠ ⟨#[43, 45]⟩) ∧ ∀ t ∈ r, t.text.size ≤ text.size + 500 := by
 intro r
 induction r with
 | nil => intro i _ h; exact h.elim
 | cons t r ih =>
   intro i hi h
   cases r with
   | nil =>
     obtain ⟨h1, h2⟩ := h
     refine ⟨fun x hx => ?_, fun x hx => ?_⟩
     ·simp only [List.mem_singleton] at hx
      subst hx
      rw [h2]
      exact fun h => by simp at h
     ·simp only [List.mem_singleton] at hx
      subst hx
      rw [h2]
      exact Nat.zero_le _
   | cons u r =>
     obtain ⟨k, h1, h2, h3⟩ := h
     obtain ⟨c1, c2, _⟩ := tokAt_cut text h1 h2
     obtain ⟨h7, h8⟩ := ih k c2 h3
     refine ⟨fun x hx => ?_, fun x hx => ?_⟩
     ·rcases List.mem_cons.1 hx with rfl | hx
      ·exact tokAt_pm h1 h2
      ·exact h7 x hx
     ·rcases List.mem_cons.1 hx with rfl | hx
      ·exact tokAt_sm h2
      ·exact h8 x hx
end Go.Proofs.YtilchadbjflpgaaGreatDoor
