/- The law TreeWalks: its two closures. Package tree: every node's kind is small. -/
import Derived.Test.YtilchadbjflpgaaGreatDoorJ01
import Derived.Test.YtilchadbjflpgaaGreatDoorJ10
import Derived.Test.YtilchadbjflpgaaGreatDoorJ43
import Derived.Test.YtilchadbjflpgaaGreatDoorJ21
namespace Go.Proofs.YtilchadbjflpgaaGreatDoor
open Go Go.RowKit
set_option maxRecDepth 100000
set_option linter.unusedVariables false
def Ints (w : World) (B : Nat) (v : Value) (l : List Int) : Prop := w.ownsRow B 3 1 v l.length (l.map (Value.int .i64))
theorem Tryz.infoNum : (Tryz.prog.info? 3).map (fun i => (i.zero, i.size, i.bytes)) = some (some (.int .i64 0), 1, 8) := by kernel_rfl
structure IInv (w0 : World) (c : Nat) (l : List Int) (w : World) : Prop where
 cell : ∃ v, w.heap[c]? = some (.cells #[v] 25 (0, 0)) ∧ Ints w w0.heap.size v l
 fr : RFr w0 w c
def twG (stop : Int) (l : List Int) (x : ATree) : Bool × List Int := (x.kind != stop, l ++ [x.kind])
theorem Ints.app {w : World} {B g cap : Nat} {l : List Int} {k : Int} (h : w.ownsRow B 3 1 (.slice (some ⟨g, 0, none⟩) (l.length + 1) cap) (l.length + 1) (l.map (Value.int .i64) ++ [.int .i64 k])) : Ints w B (.slice (some ⟨g, 0, none⟩) (l.length + 1) cap) (l ++ [k]) := by
 unfold Ints
 rw [List.length_append, List.map_append]
 exact h
theorem IInv.lt {w0 w : World} {c : Nat} {l : List Int} (h : IInv w0 c l w) : c < w.heap.size := by obtain ⟨v, hb, _⟩ := h.cell; exact (Array.getElem?_eq_some_iff.1 hb).1
theorem IInv.drew {w0 w : World} {c : Nat} {l : List Int} (h : IInv w0 c l w) : IInv w0 c l w.drew := ⟨h.cell, h.fr.drew⟩
theorem IInv.push {w0 w w1 w2 : World} {c g cap : Nat} {v : Value} {l : List Int} {k : Int} (hc : c < w0.heap.size) (h : IInv w0 c l w) (hv : w.heap[c]? = some (.cells #[v] 25 (0, 0))) (hr : Ints w w0.heap.size v l) (hB : Below w.heap.size w w1) (hg : w1.grownBy w2 v.ownBlock)
 (hown : w2.ownsRow w0.heap.size 3 1 (.slice (some ⟨g, 0, none⟩) (l.length + 1) cap) (l.length + 1) (l.map (Value.int .i64) ++ [.int .i64 k])) :
 IInv w0 c (l ++ [k]) (w2.setCell ⟨c, 0, none⟩ (.slice (some ⟨g, 0, none⟩) (l.length + 1) cap)) := by
 have hvo : ∀ b, v.ownBlock = some b → w0.heap.size ≤ b ∧ b < w.heap.size := fun b e => World.ownsRow.lt hr b e
 have far : ∀ b, b < w.heap.size → v.ownBlock ≠ some b → w2.heap[b]? = w.heap[b]? := fun b hb hn => (hg.block b (Nat.lt_of_lt_of_le hb hB.size) (fun e => hn e.symm)).trans (hB.block b hb)
 have hcl := h.lt
 have hc2 : w2.heap[c]? = some (.cells #[v] 25 (0, 0)) := (far c hcl (fun e => by have := (hvo c e).1; omega)).trans hv
 refine ⟨⟨_, setCell_block (o := 0) _ hc2, Ints.app (ownsRow_block hown fun b hb => Below.heap_setCell _ _ _ _ ?_)⟩, ⟨?_, ?_, ?_, ?_, fun b hb hn => ?_⟩⟩
 ·have := (World.ownsRow.lt hown b hb).1
  simp only
  omega
 ·exact (hg.os.trans hB.os).trans h.fr.os
 ·exact (hg.tape.trans hB.tape).trans h.fr.tape
 ·exact (hg.output.trans hB.output).trans h.fr.output
 ·rw [World.size_setCell]
  exact Nat.le_trans h.fr.size (Nat.le_trans hB.size hg.size)
 ·have hs := h.fr.size
  exact (Below.heap_setCell _ _ _ _ hn).trans ((far b (by omega) (fun e => by have := (hvo b e).1; omega)).trans (h.fr.block b hb hn))
set_option maxHeartbeats 8000000 in
theorem tw1_any (w0 : World) (c sb : Nat) (stop : Int) (hc : c < w0.heap.size) (hsb : w0.heap[sb]? = some (.cells #[.int .i64 stop] 3 (0, 0))) (hne : sb ≠ c) (B : Nat) (x : ATree) (l : List Int) (hl : l.length ≤ 100000) (w : World) (hI : IInv w0 c l w) (hx : TreeAt w B x) :
 Calls Tryz.prog 6 #[x.ptr, .pointer (some ⟨c, 0, none⟩), .pointer (some ⟨sb, 0, none⟩)] w fun e w' => e = .returned (.bool (twG stop l x).1) ∧ IInv w0 c (twG stop l x).2 w' := by
 obtain ⟨i0, hi, hz0, hz1, hz2⟩ := info_parts Tryz.infoNum
 obtain ⟨v, hv, hr⟩ := hI.cell
 have c0 : w.cell? ⟨c, 0, none⟩ = some v := by simp [World.cell?, hv]
 have cz : w.frozen? ⟨c, 0, none⟩ = false := by simp [World.frozen?, hv]
 have k0 := hx.c0
 have hsw := (hI.fr.block sb (Array.getElem?_eq_some_iff.1 hsb).1 hne).trans hsb
 have s0 : w.cell? ⟨sb, 0, none⟩ = some (.int .i64 stop) := by simp [World.cell?, hsw]
 have hcl := hI.lt
 have hxl := hx.lt
 have hsl : sb < w.heap.size := (Array.getElem?_eq_some_iff.1 hsw).1
 unfold twG ATree.ptr
 obtain ⟨kd, hkd⟩ : ∃ kd, kd = x.kind := ⟨_, rfl⟩
 rw [← hkd] at k0 ⊢
 have HI := lh hI
 have HV := lh hv
 have HRO := lh hr
 have HX := lh hx
 have HC := lh hc
 have hfs := hI.fr.size
 have HVO := lh (show v.ownBlock ≠ some c ∧ v.ownBlock ≠ some sb from ⟨fun e => by have := (World.ownsRow.lt hr c e).1; omega, fun e => by have h1 := (World.ownsRow.lt hr sb e).1; have h2 := (Array.getElem?_eq_some_iff.1 hsb).1; omega⟩)
 have HXB := lh (show v.ownBlock ≠ some x.b from fun e => by
  obtain ⟨c1, f1, h1⟩ := Lib.ownsRow_kind hr x.b e
  rw [hx.blkOf] at h1
  simp only [Option.some.injEq, Obj.cells.injEq] at h1
  exact absurd h1.2.1 (by decide))
 unfold Ints at hr
 clear hI hv hx hsb hne hc hkd hsw
 go_enter Tryz.func6, Tryz.ntmps6
 go_wp2_with fail
 refine wp_region_plan [(true, 0), (true, 1), (true, 2), (true, 3), (true, 4), (false, 5)] [6, 7] (fun W => W.cell? ⟨c, 0, none⟩ = some v ∧ W.cell? ⟨x.b, 0, none⟩ = some (.int .i64 kd)) (by kernel_rfl) (by kernel_rfl) (fun _ _ d _ _ h => by cases d <;> exact h) ⟨c0, k0⟩ (fun hS0 => ?_)
 simp only [planOps, List.filterMap_cons, List.filterMap_nil, List.getElem?_toArray, List.getElem?_cons_zero, List.getElem?_cons_succ, Option.map_some]
 iterate 5
  first
   | (refine wpPlan_take ?_ (by rfl) (fun w' hS' => ?_) ?_; rotate_left; (obtain ⟨s0, s1⟩ := hS'; go_simp; first | done | with_reducible rfl); simp only [Act.put, zA, zB, zC])
   | (refine wpPlan_skip (by rfl) ?_; simp only [Act.put, zA, zB, zC])
 refine wpPlan_go (fun K hK => ?_)
 go_simp
 refine hK _ _ ⟨(cell_old hcl).trans c0, (cell_old hxl).trans k0⟩ ?_
 clear hK K
 refine wpPlan_end ?_
 refine wpList_append_lies _ rfl (.tmp 5) (.tmp 10) 25 rfl w0.heap.size 3 i0 (.int .i64 0) 1 8 Tryz.underlying25 hi hz0 hz1 hz2 rfl (by decide) v l.length (l.map (Value.int .i64)) rfl (hr.alloc _) ⟨w.heap.size, 0, none⟩ 1 1 [.int .i64 kd] rfl rfl (World.news_of_block (cs := #[.int .i64 kd]) (t := 3) (fr := (0, 0)) (heap_alloc_new w _)) (by intro u hu; simp at hu; subst hu; rfl) (by omega) (by unfold maxLen; omega) (by omega) (by simp; omega) (w.heap.size + 1) (by simp) ?_
 intro gg cap w4 hown4 hgrow4 hat4 hgl4
 have far : ∀ b, b < w.heap.size → v.ownBlock ≠ some b → w4.heap[b]? = w.heap[b]? := fun b hb hn => (hgrow4.block b (by simp; omega) (fun e => hn e.symm)).trans (Below.heap_alloc _ _ _ hb)
 have m4 : w4.cell? ⟨c, 0, none⟩ = some v := (World.cell?_of_block (far c hcl HVO.out.1)).trans c0
 have mz4 : w4.frozen? ⟨c, 0, none⟩ = false := (World.frozen?_of_block (far c hcl HVO.out.1)).trans cz
 have hpush := HI.out.push HC.out HV.out HRO.out (((Below.refl w.heap.size w).alloc (Nat.le_refl _) (.cells #[.int .i64 kd] 3)).drew) hgrow4 hown4
 obtain ⟨W5, hW5⟩ : ∃ W, W = w4.setCell ⟨c, 0, none⟩ (.slice (some ⟨gg, 0, none⟩) (l.length + 1) cap) := ⟨_, rfl⟩
 rw [← hW5] at hpush
 have hxc : x.b ≠ c := fun e => by
  have h1 := HX.out.blkOf
  rw [e, HV.out] at h1
  simp only [Option.some.injEq, Obj.cells.injEq] at h1
  exact absurd h1.2.1 (by decide)
 have k5 : W5.cell? ⟨x.b, 0, none⟩ = some (.int .i64 kd) := by
  rw [hW5]
  exact (World.cell?_of_block ((Below.heap_setCell _ _ _ _ hxc).trans (far x.b hxl HXB.out))).trans k0
 have s5 : W5.cell? ⟨sb, 0, none⟩ = some (.int .i64 stop) := by
  have hsc : sb ≠ c := fun e => by rw [e] at s0; rw [c0] at s0; simp only [Option.some.injEq] at s0; rcases HRO.out.2 with ⟨h, _⟩ | ⟨g, cc, cu, h, _⟩ <;> (rw [s0] at h; cases h)
  rw [hW5]
  exact (World.cell?_of_block ((Below.heap_setCell _ _ _ _ hsc).trans (far sb hsl HVO.out.2))).trans s0
 have HPU := lh hpush
 have HW5 := lh hW5
 clear hgrow4 hown4 hat4 hgl4 hpush far hW5 c0 cz k0 s0 hxc hr
 simp only [Act.put, zA, zB, zC]
 go_wp2_with fail
 rw [← HW5.out]
 refine wp_region_plan [(true, 0), (true, 1), (true, 2), (true, 3), (true, 4)] [5, 6] (fun W => W.cell? ⟨x.b, 0, none⟩ = some (.int .i64 kd) ∧ W.cell? ⟨sb, 0, none⟩ = some (.int .i64 stop)) (by kernel_rfl) (by kernel_rfl) (fun _ _ d _ _ h => by cases d <;> exact h) ⟨k5, s5⟩ (fun hS0 => ?_)
 simp only [planOps, List.filterMap_cons, List.filterMap_nil, List.getElem?_toArray, List.getElem?_cons_zero, List.getElem?_cons_succ, Option.map_some]
 iterate 5
  first
   | (refine wpPlan_take ?_ (by rfl) (fun w' hS' => ?_) ?_; rotate_left; (obtain ⟨s0, s1⟩ := hS'; go_simp; first | done | with_reducible rfl); simp only [Act.put, zA, zB, zC])
   | (refine wpPlan_skip (by rfl) ?_; simp only [Act.put, zA, zB, zC])
 refine wpPlan_end ?_
 go_wp2
 go_ret
 exact ⟨rfl, HPU.out.drew⟩
theorem twW_eq (stop : Int) (x : ATree) (l : List Int) : walkA (twG stop) x l = cond (x.kind != stop) (walkL (twG stop) x.kids (l ++ [x.kind])) (l ++ [x.kind]) := by
 rw [walkA_eq]
 have h1 : (twG stop l x).1 = (x.kind != stop) := rfl
 have h2 : (twG stop l x).2 = l ++ [x.kind] := rfl
 rw [h2]
 cases hi : (x.kind != stop) with
 | true => rw [if_pos (by rw [h1, hi])]; rfl
 | false => rw [if_neg (by rw [h1, hi]; decide)]; rfl
def SelfAt (w0 : World) (fb c sb : Nat) : Prop := w0.heap[fb]? = some (.cells #[.func (.func 7) #[] #[.pointer (some ⟨c, 0, none⟩), .pointer (some ⟨sb, 0, none⟩), .pointer (some ⟨fb, 0, none⟩)]] 31 (0, 0))
theorem twG_len (stop : Int) : ∀ (a : ATree) (l : List Int), (walkA (twG stop) a l).length ≤ l.length + a.many := by
 have key : ∀ (n : Nat) (a : ATree) (l : List Int), a.many ≤ n → (walkA (twG stop) a l).length ≤ l.length + a.many := by
  intro n
  induction n with
  | zero => intro a l h; cases a; simp [ATree.many] at h
  | succ n ih =>
    intro a l h
    have kk : ∀ (ks : List ATree) (l : List Int), (∀ y ∈ ks, y.many ≤ n) → (walkL (twG stop) ks l).length ≤ l.length + manyLA ks := by
     intro ks
     induction ks with
     | nil => intro l _; simp [walkL, manyLA]
     | cons y ks ih2 =>
       intro l hl
       simp only [walkL, manyLA]
       have h1 := ih y l (hl y (by simp))
       have h2 := ih2 (walkA (twG stop) y l) fun z hz => hl z (List.mem_cons_of_mem _ hz)
       omega
    obtain ⟨b, v, k, t, m, ks⟩ := a
    rw [twW_eq]
    simp only [ATree.kind, ATree.kids, ATree.many]
    have h1 := kk ks (l ++ [k]) fun y hy => by have := many_kid (a := .mk b v k t m ks) hy; omega
    rw [List.length_append] at h1
    simp only [List.length_cons, List.length_nil] at h1
    cases (k != stop) with
    | true => simp only [cond_true]; omega
    | false => simp only [cond_false, List.length_append, List.length_cons, List.length_nil]; omega
 exact fun a l => key a.many a l (Nat.le_refl _)
theorem twG_lenL (stop : Int) : ∀ (ks : List ATree) (l : List Int), (walkL (twG stop) ks l).length ≤ l.length + manyLA ks := by
 intro ks
 induction ks with
 | nil => intro l; simp [walkL, manyLA]
 | cons y ks ih =>
   intro l
   simp only [walkL, manyLA]
   have h1 := twG_len stop y l
   have h2 := ih (walkA (twG stop) y l)
   omega
theorem many_take {l : List ATree} {i : Nat} {k : ATree} (h : l[i]? = some k) : manyLA (l.take i) + k.many ≤ manyLA l := by
 have h1 := congrArg List.length (subsL_at h)
 simp only [List.length_append, subsL_len, subs_length] at h1
 omega
set_option maxHeartbeats 16000000 in
theorem tw2_any (w0 : World) (c sb fb : Nat) (stop : Int) (hc : c < w0.heap.size) (hsb : w0.heap[sb]? = some (.cells #[.int .i64 stop] 3 (0, 0))) (hne : sb ≠ c) (hfb : SelfAt w0 fb c sb) (hfc : fb ≠ c) (B : Nat) (n0 : Nat) :
 ∀ (x : ATree), x.many ≤ n0 → x.many ≤ 10000 → (∀ l w, IInv w0 c l w → TreeAt w B x) → ∀ (l : List Int), l.length + x.many ≤ 100000 → ∀ (w : World), IInv w0 c l w →
 Calls Tryz.prog 7 #[x.ptr, .pointer (some ⟨c, 0, none⟩), .pointer (some ⟨sb, 0, none⟩), .pointer (some ⟨fb, 0, none⟩)] w fun e w' => e = .returned (.tuple #[]) ∧ IInv w0 c (walkA (twG stop) x l) w' := by
 induction n0 with
 | zero => intro a h; exfalso; cases a; simp [ATree.many] at h
 | succ n0 ih =>
 intro x hn hmx hT l hl w hI
 have HIH := lh ih
 have HT := lh hT
 have HNN := lh hn
 have HMX := lh hmx
 have HLL := lh hl
 obtain ⟨i0, hi, hz0, hz1, hz2⟩ := info_parts Tryz.infoNum
 have hx := hT l w hI
 obtain ⟨v, hv, hr⟩ := hI.cell
 have c0 : w.cell? ⟨c, 0, none⟩ = some v := by simp [World.cell?, hv]
 have cz : w.frozen? ⟨c, 0, none⟩ = false := by simp [World.frozen?, hv]
 have k0 := hx.c0
 have hcl := hI.lt
 have hxl := hx.lt
 have hl2 : l.length ≤ 100000 := by omega
 obtain ⟨kd, hkd⟩ : ∃ kd, kd = x.kind := ⟨_, rfl⟩
 rw [← hkd] at k0
 have HKD := lh hkd
 have HI := lh hI
 have HV := lh hv
 have HRO := lh hr
 have HX := lh hx
 have HC := lh hc
 have HSB := lh hsb
 have HNE := lh hne
 have HFB := lh hfb
 have HFC := lh hfc
 have hfs := hI.fr.size
 have HVO := lh (show v.ownBlock ≠ some c from fun e => by have := (World.ownsRow.lt hr c e).1; omega)
 obtain ⟨p, cp, hvv, hge, hgm⟩ := hx.vOf
 have HVV := lh hvv
 obtain ⟨n, hnn⟩ : ∃ n, n = x.kids.length := ⟨_, rfl⟩
 rw [← hnn] at hge
 have HNK := lh hnn
 unfold maxLen at hgm
 unfold Ints at hr
 unfold ATree.ptr
 clear hI hv hx hsb hne hc hkd ih hT hn hmx hl hfb hfc hvv hnn
 go_enter Tryz.func7, Tryz.ntmps7
 go_wp2_with fail
 refine wp_region_plan [(true, 0), (true, 1), (true, 2), (true, 3), (true, 4), (false, 5)] [6, 7] (fun W => W.cell? ⟨c, 0, none⟩ = some v ∧ W.cell? ⟨x.b, 0, none⟩ = some (.int .i64 kd)) (by kernel_rfl) (by kernel_rfl) (fun _ _ d _ _ h => by cases d <;> exact h) ⟨c0, k0⟩ (fun hS0 => ?_)
 simp only [planOps, List.filterMap_cons, List.filterMap_nil, List.getElem?_toArray, List.getElem?_cons_zero, List.getElem?_cons_succ, Option.map_some]
 iterate 5
  first
   | (refine wpPlan_take ?_ (by rfl) (fun w' hS' => ?_) ?_; rotate_left; (obtain ⟨s0, s1⟩ := hS'; go_simp; first | done | with_reducible rfl); simp only [Act.put, zA, zB, zC])
   | (refine wpPlan_skip (by rfl) ?_; simp only [Act.put, zA, zB, zC])
 refine wpPlan_go (fun K hK => ?_)
 go_simp
 refine hK _ _ ⟨(cell_old hcl).trans c0, (cell_old hxl).trans k0⟩ ?_
 clear hK K
 refine wpPlan_end ?_
 refine wpList_append_lies _ rfl (.tmp 6) (.tmp 11) 25 rfl w0.heap.size 3 i0 (.int .i64 0) 1 8 Tryz.underlying25 hi hz0 hz1 hz2 rfl (by decide) v l.length (l.map (Value.int .i64)) rfl (hr.alloc _) ⟨w.heap.size, 0, none⟩ 1 1 [.int .i64 kd] rfl rfl (World.news_of_block (cs := #[.int .i64 kd]) (t := 3) (fr := (0, 0)) (heap_alloc_new w _)) (by intro u hu; simp at hu; subst hu; rfl) (by omega) (by unfold maxLen; omega) (by omega) (by simp; omega) (w.heap.size + 1) (by simp) ?_
 intro gg cap w4 hown4 hgrow4 hat4 hgl4
 have far : ∀ b, b < w.heap.size → v.ownBlock ≠ some b → w4.heap[b]? = w.heap[b]? := fun b hb hn => (hgrow4.block b (by simp; omega) (fun e => hn e.symm)).trans (Below.heap_alloc _ _ _ hb)
 have m4 : w4.cell? ⟨c, 0, none⟩ = some v := (World.cell?_of_block (far c hcl HVO.out)).trans c0
 have mz4 : w4.frozen? ⟨c, 0, none⟩ = false := (World.frozen?_of_block (far c hcl HVO.out)).trans cz
 have hpush := HI.out.push HC.out HV.out HRO.out (((Below.refl w.heap.size w).alloc (Nat.le_refl _) (.cells #[.int .i64 kd] 3)).drew) hgrow4 hown4
 obtain ⟨W5, hW5⟩ : ∃ W, W = w4.setCell ⟨c, 0, none⟩ (.slice (some ⟨gg, 0, none⟩) (l.length + 1) cap) := ⟨_, rfl⟩
 rw [← hW5] at hpush
 have HPU := lh hpush
 have HW5 := lh hW5
 clear hgrow4 hown4 hat4 hgl4 hpush far hW5 c0 cz k0 hr
 simp only [Act.put, zA, zB, zC]
 go_wp2_with fail
 rw [← HW5.out]
 have HX5 := HT.out _ _ HPU.out
 have k5 := HX5.c0
 have x3 := HX5.c3
 rw [← HKD.out] at k5
 rw [HVV.out, ← HNK.out] at x3
 have hsz5 := HPU.out.fr.size
 have s5 : W5.cell? ⟨sb, 0, none⟩ = some (.int .i64 stop) := by
  have := (HPU.out.fr.block sb (Array.getElem?_eq_some_iff.1 HSB.out).1 HNE.out).trans HSB.out
  simp [World.cell?, this]
 have hn5 : n ≤ 9223372036854775807 := by omega
 clear HX5 m4 mz4 hgm
 go_loopw [5] (fun i wr => ∃ k : Nat, k ≤ n ∧ i = .int .i64 k ∧ (kd = stop → k = 0) ∧ Hid (IInv w0 c (walkL (twG stop) (x.kids.take k) (l ++ [kd])) wr)) (fun i _ => n - (intOf i).toNat)
 case atStart => exact ⟨0, Nat.zero_le _, rfl, fun _ => rfl, lh (by simpa [walkL] using HPU.out)⟩
 case round =>
  obtain ⟨k, hk, rfl, hks0, HI2⟩ := hrel
  clear k5 x3 s5 hsz5
  have HX5 := HT.out _ _ HI2.out
  have k5 := HX5.c0
  have x3 := HX5.c3
  have hrow := HX5.rowOf
  rw [← HKD.out] at k5
  rw [HVV.out, ← HNK.out] at x3
  have s5 : wr.cell? ⟨sb, 0, none⟩ = some (.int .i64 stop) := by
   have := (HI2.out.fr.block sb (Array.getElem?_eq_some_iff.1 HSB.out).1 HNE.out).trans HSB.out
   simp [World.cell?, this]
  by_cases hks : kd = stop
  ·obtain rfl := hks0 hks
   have hb : (kd != stop) = false := by simp [hks]
   have HEQ := lh (show walkA (twG stop) x l = l ++ [kd] from by rw [twW_eq, ← HKD.out, hb]; rfl)
   have HFI := lh (show IInv w0 c (l ++ [kd]) wr from by simpa [walkL] using HI2.out)
   clear hks hks0 HX5 hrow
   by_cases hn0 : n = 0
   ·subst hn0
    go_wp2_with fail
    refine wp_region_plan [(true, 0), (true, 1), (true, 2), (true, 3), (true, 4), (true, 5), (true, 6), (true, 7), (true, 8), (true, 9), (true, 10), (true, 11), (true, 12)] [13, 14] (fun W => W.cell? ⟨x.b, 3, none⟩ = some (.slice p 0 cp) ∧ W.cell? ⟨x.b, 0, none⟩ = some (.int .i64 kd) ∧ W.cell? ⟨sb, 0, none⟩ = some (.int .i64 stop)) (by kernel_rfl) (by kernel_rfl) (fun _ _ d _ _ h => by cases d <;> exact h) ⟨x3, k5, s5⟩ (fun hS0 => ?_)
    simp only [planOps, List.filterMap_cons, List.filterMap_nil, List.getElem?_toArray, List.getElem?_cons_zero, List.getElem?_cons_succ, Option.map_some]
    iterate 13
     first
      | (refine wpPlan_take ?_ (by rfl) (fun w' hS' => ?_) ?_; rotate_left; (obtain ⟨s0, s1, s2⟩ := hS'; go_simp; first | done | with_reducible rfl); simp only [Act.put, zA, zB, zC])
      | (refine wpPlan_skip (by rfl) ?_; simp only [Act.put, zA, zB, zC])
    refine wpPlan_end ?_
    go_wp2
    go_end0
    exact ⟨rfl, by rw [HEQ.out]; exact HFI.out.drew⟩
   ·have hpos : 0 < n := by omega
    go_wp2_with fail
    refine wp_region_plan [(true, 0), (true, 1), (true, 2), (true, 3), (true, 4), (true, 5), (true, 6), (true, 7), (true, 8), (true, 9), (true, 10), (true, 11), (true, 12)] [13, 14] (fun W => W.cell? ⟨x.b, 3, none⟩ = some (.slice p n cp) ∧ W.cell? ⟨x.b, 0, none⟩ = some (.int .i64 kd) ∧ W.cell? ⟨sb, 0, none⟩ = some (.int .i64 stop)) (by kernel_rfl) (by kernel_rfl) (fun _ _ d _ _ h => by cases d <;> exact h) ⟨x3, k5, s5⟩ (fun hS0 => ?_)
    simp only [planOps, List.filterMap_cons, List.filterMap_nil, List.getElem?_toArray, List.getElem?_cons_zero, List.getElem?_cons_succ, Option.map_some]
    iterate 13
     first
      | (refine wpPlan_take ?_ (by rfl) (fun w' hS' => ?_) ?_; rotate_left; (obtain ⟨s0, s1, s2⟩ := hS'; go_simp; first | done | with_reducible rfl); simp only [Act.put, zA, zB, zC])
      | (refine wpPlan_skip (by rfl) ?_; simp only [Act.put, zA, zB, zC])
    refine wpPlan_end ?_
    go_wp2
    go_end0
    exact ⟨rfl, by rw [HEQ.out]; exact HFI.out.drew⟩
  ·have hb : (kd != stop) = true := by simpa using hks
   have HEQ := lh (show walkA (twG stop) x l = walkL (twG stop) x.kids (l ++ [kd]) from by rw [twW_eq, ← HKD.out, hb]; rfl)
   clear hks hks0
   by_cases hkn : k < n
   ·obtain ⟨y, hy⟩ : ∃ y, x.kids[k]? = some y := ⟨_, List.getElem?_eq_getElem (by rw [← HNK.out]; exact hkn)⟩
    rcases ownsRow_cases hrow with ⟨_, h2⟩ | ⟨g0, cap0, hv0, _⟩
    ·rw [← HNK.out] at h2; omega
    have hp : p = some ⟨g0, 0, none⟩ := by
     have := HVV.out.symm.trans hv0
     simp only [Value.slice.injEq] at this
     exact this.1
    subst hp
    have cy := ownsRow_cell1 hrow (g := g0) (by rw [hv0]; rfl) (i := k) (x := y.ptr) (by rw [List.getElem?_map, hy]; rfl)
    unfold ATree.ptr at cy
    have hmem := List.mem_of_getElem? hy
    have hym := many_kid hmem
    have f5 : wr.cell? ⟨fb, 0, none⟩ = some (.func (.func 7) #[] #[.pointer (some ⟨c, 0, none⟩), .pointer (some ⟨sb, 0, none⟩), .pointer (some ⟨fb, 0, none⟩)]) := by
     have h0 := HFB.out
     unfold SelfAt at h0
     have := (HI2.out.fr.block fb (Array.getElem?_eq_some_iff.1 h0).1 HFC.out).trans h0
     simp [World.cell?, this]
    have hml : (walkL (twG stop) (x.kids.take k) (l ++ [kd])).length + y.many ≤ 100000 := by
     have h1 := twG_lenL stop (x.kids.take k) (l ++ [kd])
     have h2 := many_take hy
     have h3 : manyLA x.kids < x.many := by obtain ⟨b, v, kk, t, m, ks⟩ := x; simp only [ATree.kids, ATree.many]; omega
     rw [List.length_append] at h1
     simp only [List.length_cons, List.length_nil] at h1
     have := HLL.out
     omega
    have HCALL := lh (fun (W : World) (hW : IInv w0 c (walkL (twG stop) (x.kids.take k) (l ++ [kd])) W) => HIH.out y (by have := HNN.out; omega) (by have := HMX.out; omega) (fun l w h => (HT.out l w h).kid hmem) _ hml W hW)
    have HNXT := lh (show walkL (twG stop) (x.kids.take (k + 1)) (l ++ [kd]) = walkA (twG stop) y (walkL (twG stop) (x.kids.take k) (l ++ [kd])) from by rw [take_succ_kid hy, walkL_snoc])
    unfold ATree.ptr at HCALL
    clear HX5 hrow hv0 hy hmem hym hml
    go_wp2_with fail
    refine wp_region_plan [(true, 0), (true, 1), (true, 2), (true, 3), (true, 4), (true, 5), (true, 6), (true, 7), (true, 8), (true, 9), (true, 10), (true, 11), (true, 12)] [13, 14] (fun W => W.cell? ⟨x.b, 3, none⟩ = some (.slice (some ⟨g0, 0, none⟩) n cp) ∧ W.cell? ⟨x.b, 0, none⟩ = some (.int .i64 kd) ∧ W.cell? ⟨sb, 0, none⟩ = some (.int .i64 stop)) (by kernel_rfl) (by kernel_rfl) (fun _ _ d _ _ h => by cases d <;> exact h) ⟨x3, k5, s5⟩ (fun hS0 => ?_)
    simp only [planOps, List.filterMap_cons, List.filterMap_nil, List.getElem?_toArray, List.getElem?_cons_zero, List.getElem?_cons_succ, Option.map_some]
    iterate 13
     first
      | (refine wpPlan_take ?_ (by rfl) (fun w' hS' => ?_) ?_; rotate_left; (obtain ⟨s0, s1, s2⟩ := hS'; go_simp; first | done | with_reducible rfl); simp only [Act.put, zA, zB, zC])
      | (refine wpPlan_skip (by rfl) ?_; simp only [Act.put, zA, zB, zC])
    refine wpPlan_end ?_
    go_wp2_with fail
    refine wp_region_plan [(true, 0), (true, 1), (true, 2), (true, 3), (true, 4), (true, 5), (true, 6), (true, 7)] [8] (fun W => W.cell? ⟨x.b, 3, none⟩ = some (.slice (some ⟨g0, 0, none⟩) n cp) ∧ W.cell? ⟨fb, 0, none⟩ = some (.func (.func 7) #[] #[.pointer (some ⟨c, 0, none⟩), .pointer (some ⟨sb, 0, none⟩), .pointer (some ⟨fb, 0, none⟩)]) ∧ W.cell? ⟨g0, k, none⟩ = some (.pointer (some ⟨y.b, 0, none⟩))) (by kernel_rfl) (by kernel_rfl) (fun _ _ d _ _ h => by cases d <;> exact h) ⟨x3, f5, cy⟩ (fun hS0 => ?_)
    simp only [planOps, List.filterMap_cons, List.filterMap_nil, List.getElem?_toArray, List.getElem?_cons_zero, List.getElem?_cons_succ, Option.map_some]
    iterate 8
     first
      | (refine wpPlan_take ?_ (by rfl) (fun w' hS' => ?_) ?_; rotate_left; (obtain ⟨s0, s1, s2⟩ := hS'; go_simp; first | done | with_reducible rfl); simp only [Act.put, zA, zB, zC])
      | (refine wpPlan_skip (by rfl) ?_; simp only [Act.put, zA, zB, zC])
    refine wpPlan_end ?_
    go_wp2_with fail
    refine (HCALL.out _ HI2.out.drew.drew).mono ?_
    rintro e w6 ⟨rfl, hI6⟩
    have HI6 := lh hI6
    clear hI6 HCALL
    go_wp2
    go_roundw
    case rel => exact ⟨k + 1, by omega, by go_num, fun h => (by rw [h] at hb; simp at hb), lh (by rw [HNXT.out]; exact HI6.out)⟩
    case measure => simp [intOf]; omega
   ·have hk2 : k = n := by omega
    subst hk2
    have HFI := lh (show IInv w0 c (walkL (twG stop) x.kids (l ++ [kd])) wr from by
     have := HI2.out
     rwa [List.take_of_length_le (by rw [← HNK.out]; exact Nat.le_refl _)] at this)
    clear HX5 hrow
    go_wp2_with fail
    refine wp_region_plan [(true, 0), (true, 1), (true, 2), (true, 3), (true, 4), (true, 5), (true, 6), (true, 7), (true, 8), (true, 9), (true, 10), (true, 11), (true, 12)] [13, 14] (fun W => W.cell? ⟨x.b, 3, none⟩ = some (.slice p k cp) ∧ W.cell? ⟨x.b, 0, none⟩ = some (.int .i64 kd) ∧ W.cell? ⟨sb, 0, none⟩ = some (.int .i64 stop)) (by kernel_rfl) (by kernel_rfl) (fun _ _ d _ _ h => by cases d <;> exact h) ⟨x3, k5, s5⟩ (fun hS0 => ?_)
    simp only [planOps, List.filterMap_cons, List.filterMap_nil, List.getElem?_toArray, List.getElem?_cons_zero, List.getElem?_cons_succ, Option.map_some]
    iterate 13
     first
      | (refine wpPlan_take ?_ (by rfl) (fun w' hS' => ?_) ?_; rotate_left; (obtain ⟨s0, s1, s2⟩ := hS'; go_simp; first | done | with_reducible rfl); simp only [Act.put, zA, zB, zC])
      | (refine wpPlan_skip (by rfl) ?_; simp only [Act.put, zA, zB, zC])
    refine wpPlan_end ?_
    go_wp2
    go_end0
    exact ⟨rfl, by rw [HEQ.out]; exact HFI.out.drew⟩
structure KAr (k : Int) (n : Nat) : Prop where
 lo : 0 ≤ k
 hi : k < 100
theorem KAr.any {k : Int} {n : Nat} (h : 0 ≤ k ∧ k < 100) : KAr k n := ⟨h.1, h.2⟩
mutual
def KT : Tree → Prop
 | .mk k _ _ l => KAr k l.length ∧ KTL l
def KTL : List Tree → Prop
 | [] => True
 | t :: l => KT t ∧ KTL l
end
theorem KTL_app {l m : List Tree} (h : KTL l) (g : KTL m) : KTL (l ++ m) := by
 induction l with
 | nil => exact g
 | cons x l ih => exact ⟨h.1, ih h.2⟩
theorem KT.kids {t : Tree} (h : KT t) : KTL t.kids := by cases t; exact h.2
theorem KT.leaf {k : Int} {s : ByteArray} {n : Int} (h : 0 ≤ k ∧ k < 100) : KT (.mk k s n []) := ⟨KAr.any h, trivial⟩
def Kh (p : PR) : Prop := ∀ t ts, p = some (.ok (t, ts)) → KT t
theorem Kh.fail {e : Int} {ts : List Tok} : Kh (failT e ts) := by intro t ts' h; cases h
theorem Kh.none : Kh none := by intro t ts' h; cases h
theorem Kh.err {e : Int × Nat} : Kh (some (.error e)) := by intro t ts' h; cases h
theorem Kh.ok {t : Tree} {ts : List Tok} (h : KT t) : Kh (okT t ts) := by
 intro t' ts' h'
 simp only [okT, Option.some.injEq, Except.ok.injEq, Prod.mk.injEq] at h'
 rw [← h'.1]; exact h
theorem Kh.bind {p : PR} {k : Tree → List Tok → PR} (hp : Kh p) (hk : ∀ t ts, KT t → Kh (k t ts)) : Kh (bindT p k) := by
 cases p with
 | none => exact Kh.none
 | some r =>
   cases r with
   | error e => exact Kh.err
   | ok x => obtain ⟨t, ts⟩ := x; exact hk t ts (hp t ts rfl)
theorem Kh.want {s : ByteArray} {ts : List Tok} {k : List Tok → PR} (hk : Kh (k ts.tail)) : Kh (wantT s ts k) := by
 unfold wantT
 by_cases h : isT s ts = true
 ·rw [if_pos h]; exact hk
 ·rw [if_neg h]; exact Kh.fail
theorem Kh.name {ts : List Tok} {k : ByteArray → List Tok → PR} (hk : ∀ s, Kh (k s ts.tail)) : Kh (nameT ts k) := by
 unfold nameT
 by_cases h : (hdT ts).kind = 1
 ·rw [if_pos h]; exact hk _
 ·rw [if_neg h]; exact Kh.fail
theorem Kh.within {d : Nat} {ts : List Tok} {p : PR} (h : Kh p) : Kh (withinT d ts p) := by
 unfold withinT
 by_cases h' : 30 < d + 1
 ·rw [if_pos h']; exact Kh.fail
 ·rw [if_neg h']; exact h
theorem Kh.ite {c : Prop} [Decidable c] {p q : PR} (hp : c → Kh p) (hq : ¬ c → Kh q) : Kh (if c then p else q) := by
 by_cases h : c
 ·rw [if_pos h]; exact hp h
 ·rw [if_neg h]; exact hq h
theorem Kh.comma {c : Prop} [Decidable c] {ts : List Tok} {k : List Tok → PR} (hk : ∀ ts', Kh (k ts')) : Kh ((if c then wantT s_comma ts else fun k => k ts) k) := by
 by_cases h : c
 ·rw [if_pos h]; exact Kh.want (hk _)
 ·rw [if_neg h]; exact hk _
theorem Kh.end' {t : Tree} {ts : List Tok} (h : KT t) : Kh (endT t ts) := Kh.want (Kh.ok h)
def Job.goodK : Job → Prop
 | .stmts kind acc => (kind = 1 ∨ kind = 6) ∧ KTL acc
 | .func kind _ => kind = 5 ∨ kind = 37
 | .params acc => KTL acc
 | .decl kind _ => kind = 2 ∨ kind = 3 ∨ kind = 4
 | .binLoop _ x => KT x
 | .postLoop x => KT x
 | .args acc => KTL acc ∧ acc ≠ []
 | .object acc => KTL acc
 | _ => True
theorem levelT_kv (lv : Nat) (ts : List Tok) : levelT lv ts = 0 ∨ (25 ≤ levelT lv ts ∧ levelT lv ts ≤ 31) := by
 unfold levelT
 split <;> (try split) <;> (try split) <;> omega
theorem unaryT_kv (ts : List Tok) : unaryT ts = 0 ∨ (32 ≤ unaryT ts ∧ unaryT ts ≤ 34) := by
 unfold unaryT
 split <;> (try split) <;> (try split) <;> omega
theorem constT_kv (ts : List Tok) : constT ts = 0 ∨ (19 ≤ constT ts ∧ constT ts ≤ 22) := by
 unfold constT
 split <;> (try split) <;> (try split) <;> (try split) <;> omega
theorem two_kv {k : Int} {s : ByteArray} {n : Int} {x y : Tree} (hx : KT x) (hy : KT y) (h : 0 ≤ k ∧ k < 100) : KT (.mk k s n [x, y]) := ⟨KAr.any h, hx, hy, trivial⟩
theorem one_kv {k : Int} {s : ByteArray} {n : Int} {x : Tree} (hx : KT x) (h : 0 ≤ k ∧ k < 100) : KT (.mk k s n [x]) := ⟨KAr.any h, hx, trivial⟩
theorem list_kv {k : Int} {s : ByteArray} {n : Int} {l : List Tree} (hx : KTL l) (h : 0 ≤ k ∧ k < 100) : KT (.mk k s n l) := ⟨KAr.any h, hx⟩
theorem parse_kinds : ∀ (f : Nat) (job : Job) (d : Nat) (ts : List Tok), job.goodK → Kh (parseF f job d ts) := by
 intro f
 induction f with
 | zero => intro job d ts _; unfold parseF; exact Kh.none
 | succ f ih =>
   intro job d ts hg
   cases job with
   | stmts kind acc =>
     unfold parseF
     refine Kh.ite (fun _ => Kh.ok (list_kv hg.2 (by have := hg.1; omega))) fun _ => ?_
     exact Kh.bind (Kh.within (ih .stmt _ _ trivial)) fun t ts' h => ih _ _ _ ⟨hg.1, KTL_app hg.2 ⟨h, trivial⟩⟩
   | block body =>
     unfold parseF
     refine Kh.want (Kh.bind (ih (.stmts 6 []) _ _ ⟨.inr rfl, trivial⟩) fun t ts' h' => Kh.want (Kh.ok ?_))
     by_cases hb : body = true
     ·rw [if_pos hb]; exact h'
     ·rw [if_neg hb]; exact list_kv h'.kids (by omega)
   | func kind text =>
     unfold parseF
     exact Kh.want (Kh.bind (ih (.params []) _ _ trivial) fun t ts' h' => Kh.want (Kh.bind (ih (.block true) _ _ trivial) fun t ts' h3 => Kh.ok (two_kv h' h3 (by have : kind = 5 ∨ kind = 37 := hg; omega))))
   | params acc =>
     unfold parseF
     refine Kh.ite (fun _ => Kh.ok (list_kv hg (by omega))) fun _ => ?_
     exact Kh.comma fun ts' => Kh.ite (fun _ => Kh.fail) fun _ => Kh.name fun s => ih _ _ _ (KTL_app hg ⟨KT.leaf (by omega), trivial⟩)
   | around =>
     unfold parseF
     exact Kh.want (Kh.bind (ih .value _ _ trivial) fun t ts' h' => Kh.want (Kh.ok h'))
   | stmt =>
     unfold parseF
     refine Kh.ite (fun h => ih _ _ _ trivial) fun _ => ?_
     refine Kh.ite (fun h => Kh.ok (KT.leaf (by omega))) fun _ => ?_
     refine Kh.ite (fun h => Kh.bind (ih (.decl 2 false) _ _ (.inl rfl)) fun t us h2 => Kh.end' h2) fun _ => ?_
     refine Kh.ite (fun h => Kh.bind (ih (.decl 3 false) _ _ (.inr (.inl rfl))) fun t us h2 => Kh.end' h2) fun _ => ?_
     refine Kh.ite (fun h => Kh.bind (ih (.decl 4 true) _ _ (.inr (.inr rfl))) fun t us h2 => Kh.end' h2) fun _ => ?_
     refine Kh.ite (fun h => Kh.name fun s => ih _ _ _ (.inl rfl)) fun _ => ?_
     refine Kh.ite (fun h => Kh.bind (ih .around _ _ trivial) fun x us h2 => Kh.bind (Kh.within (ih .stmt _ _ trivial)) fun y vs h3 => Kh.ite (fun h4 => Kh.bind (Kh.within (ih .stmt _ _ trivial)) fun z xs h5 => Kh.ok ⟨⟨by omega, by omega⟩, h2, h3, h5, trivial⟩) fun _ => Kh.ok (two_kv h2 h3 (by omega))) fun _ => ?_
     refine Kh.ite (fun h => Kh.bind (ih .around _ _ trivial) fun t us h2 => Kh.bind (Kh.within (ih .stmt _ _ trivial)) fun t vs h3 => Kh.ok (two_kv h2 h3 (by omega))) fun _ => ?_
     refine Kh.ite (fun h => Kh.bind (ih .around _ _ trivial) fun t us h2 => Kh.bind (Kh.within (ih .stmt _ _ trivial)) fun t vs h3 => Kh.ok (two_kv h2 h3 (by omega))) fun _ => ?_
     refine Kh.ite (fun h => Kh.ite (fun h1 => Kh.end' (KT.leaf (by omega))) (fun _ => Kh.bind (ih .value _ _ trivial) fun t us h2 => Kh.end' (one_kv h2 (by omega)))) fun _ => ?_
     refine Kh.ite (fun h => Kh.bind (ih .value _ _ trivial) fun t us h2 => Kh.end' (one_kv h2 (by omega))) fun _ => ?_
     refine Kh.ite (fun h => ih _ _ _ trivial) fun _ => ?_
     exact Kh.bind (ih .value _ _ trivial) fun t us h2 => Kh.end' (one_kv h2 (by omega))
   | decl kind must =>
     have hk : kind = 2 ∨ kind = 3 ∨ kind = 4 := hg
     unfold parseF
     exact Kh.name fun s => Kh.ite (fun _ => Kh.fail) fun _ => Kh.ite (fun h2 => Kh.bind (ih .value _ _ trivial) fun t us h3 => Kh.ok (one_kv h3 (by omega))) fun _ => Kh.ok (KT.leaf (by omega))
   | try_ =>
     unfold parseF
     refine Kh.bind (ih (.block false) _ _ trivial) fun b us h => ?_
     have hk : ∀ (l : List Tree) (vs : List Tok), KTL l → Kh (if isT s_finally vs then bindT (parseF f (.block false) d vs.tail) fun c ts => okT (.mk 12 ByteArray.empty 0 (l ++ [.mk 14 ByteArray.empty 0 [c]])) ts else if l.length = 1 then failT 3 vs else okT (.mk 12 ByteArray.empty 0 l) vs) := by
      intro l vs h2
      exact Kh.ite (fun _ => Kh.bind (ih (.block false) _ _ trivial) fun t xs h3 => Kh.ok (list_kv (KTL_app h2 ⟨one_kv h3 (by omega), trivial⟩) (by omega))) fun _ => Kh.ite (fun _ => Kh.fail) fun _ => Kh.ok (list_kv h2 (by omega))
     refine Kh.ite (fun h1 => ?_) fun _ => hk _ _ ⟨h, trivial⟩
     exact Kh.want (Kh.name fun s => Kh.want (Kh.bind (ih (.block false) _ _ trivial) fun c vs h5 => hk _ _ ⟨h, one_kv h5 (by omega), trivial⟩))
   | value => unfold parseF; exact Kh.within (ih _ _ _ trivial)
   | assign =>
     unfold parseF
     exact Kh.bind (ih (.bin 0) _ _ trivial) fun x us h => Kh.ite (fun h1 => Kh.ite (fun _ => Kh.bind (ih .value _ _ trivial) fun y vs h2 => Kh.ok (two_kv h h2 (by omega))) fun _ => Kh.err) fun _ => Kh.ok h
   | bin level =>
     unfold parseF
     exact Kh.ite (fun _ => ih _ _ _ trivial) fun _ => Kh.bind (ih (.bin (level + 1)) _ _ trivial) fun x us h => ih _ _ _ h
   | binLoop level x =>
     unfold parseF
     exact Kh.ite (fun _ => Kh.ok hg) fun h0 => Kh.bind (ih (.bin (level + 1)) _ _ trivial) fun y us h => ih _ _ _ (show Job.goodK (.binLoop level (.mk (levelT level ts) ByteArray.empty 0 [x, y])) from two_kv (s := ByteArray.empty) (n := 0) hg h (by have := levelT_kv level ts; omega))
   | unary =>
     unfold parseF
     exact Kh.ite (fun _ => ih _ _ _ trivial) fun h0 => Kh.bind (Kh.within (ih .unary _ _ trivial)) fun x us h => Kh.ok (one_kv h (by have := unaryT_kv ts; omega))
   | postfix_ =>
     unfold parseF
     exact Kh.bind (ih .primary _ _ trivial) fun x us h => ih _ _ _ h
   | postLoop x =>
     unfold parseF
     exact Kh.ite (fun _ => Kh.name fun s => ih _ _ _ (show Job.goodK (.postLoop (.mk 36 s 0 [x])) from one_kv (s := s) (n := 0) hg (by omega))) fun _ => Kh.ite (fun _ => Kh.bind (ih (.args [x]) _ _ ⟨⟨hg, trivial⟩, by simp⟩) fun n us h => ih _ _ _ h) fun _ => Kh.ok hg
   | args acc =>
     unfold parseF
     refine Kh.ite (fun _ => Kh.ok ⟨⟨by omega, by omega⟩, hg.1⟩) fun _ => ?_
     exact Kh.comma fun ts' => Kh.ite (fun _ => Kh.fail) fun _ => Kh.bind (ih .value _ _ trivial) fun v us h => ih _ _ _ ⟨KTL_app hg.1 ⟨h, trivial⟩, by simp⟩
   | primary =>
     unfold parseF
     refine Kh.ite (fun h => Kh.ok (KT.leaf (by omega))) fun _ => ?_
     refine Kh.ite (fun h => Kh.ok (KT.leaf (by omega))) fun _ => ?_
     refine Kh.ite (fun h => Kh.ok (KT.leaf (by omega))) fun _ => ?_
     refine Kh.ite (fun h => Kh.ok (KT.leaf (by have := constT_kv ts; omega))) fun _ => ?_
     refine Kh.ite (fun h => ih _ _ _ trivial) fun _ => ?_
     refine Kh.ite (fun h => Kh.ite (fun _ => ih _ _ _ (.inr rfl)) fun _ => ih _ _ _ (.inr rfl)) fun _ => ?_
     exact Kh.ite (fun h => ih _ _ _ trivial) fun _ => Kh.fail
   | object acc =>
     unfold parseF
     refine Kh.ite (fun _ => Kh.ok (list_kv hg (by omega))) fun _ => ?_
     exact Kh.comma fun ts' => Kh.ite (fun _ => Kh.fail) fun _ => Kh.name fun s => Kh.want (Kh.bind (ih .value _ _ trivial) fun v us h => ih _ _ _ (KTL_app hg ⟨one_kv h (by omega), trivial⟩))
theorem parseAll_kinds {text : ByteArray} {t : Tree} (h : parseAll text = .ok t) : KT t := by
 unfold parseAll at h
 split at h
 ·cases h
 ·split at h
  ·cases h
  ·rename_i ts _
   split at h
   ·cases h
   ·cases h
   ·rename_i t' ts' hp
    split at h
    ·cases h
    ·have e : t' = t := by simpa using h
     subst e
     exact parse_kinds _ _ _ _ (show Job.goodK (.stmts 1 []) from ⟨.inl rfl, trivial⟩) _ _ hp
end Go.Proofs.YtilchadbjflpgaaGreatDoor
