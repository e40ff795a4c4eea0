/- Package where: the finder's node: block. Package where: the numbering; blocks apart. -/
import Derived.Test.YtgifgiipojedbaaDoorJ13
namespace Go.Proofs.YtgifgiipojedbaaDoor
open Go Go.RowKit
set_option maxRecDepth 100000
set_option linter.unusedVariables false

set_option maxHeartbeats 8000000 in
theorem node_block {w0 : World} {fb mb : Nat} {N : Nat → Nat} {L : List (Nat × Nat)} {Ok : ATree → Prop} {m : Nat} (hK : KidsSays w0 fb mb N L Ok m)
    (a : ATree) (B : Nat) (w : World) (S : List Sc) (sv : Value) (st : Bool) (out : List Us) (hm : a.many ≤ m + 1) (hok : ∀ k ∈ a.kids, Ok k) (hT : TreeAt w0 B a) (hnum : ∀ x ∈ a.subs, (x.b, N x.b) ∈ L) (hlen : out.length + a.many < 274877906944) (hF : FSt w0 fb mb N L out w) (hS : ScopeAt w w0.heap.size S sv)
    (h1 : a.kind = 6) :
    Calls Tryd.prog 92 #[.pointer (some ⟨fb, 0, none⟩), a.ptr, sv, .bool st] w fun e w' => e = .returned (.tuple #[]) ∧ FSt w0 fb mb N L (out ++ nodeF N a S st) w' ∧ FFr w w' ∧ (nodeF N a S st).length ≤ a.many := by
  have hTw : TreeAt w B a := hT.keep fun k _ hk => hF.bel.block k hk
  have hdef : nodeF N a S st = kidsF N a.kids (if namesF false a = [] then S else ⟨N a.b, namesF false a, false⟩ :: S) st := by
    obtain ⟨b, v, k, t, n, ks⟩ := a
    simp only [ATree.kind] at h1
    subst h1
    rw [nodeF.eq_def]
    rfl
  have HC := Lib.hid (fun w1 S' sv' h1 h2 => hK a B w1 S' sv' st out hm hok hT hnum hlen h1 h2)
  have hnm := names_any false w B a hTw (by omega)
  have d0 := hTw.c0
  rw [h1] at d0
  have f0 := hF.c0
  obtain ⟨pp, rfl⟩ := hS.ptr
  have HF := Lib.hid hF
  have HS := Lib.hid hS
  have HIN := Lib.hid (hnum a (subs_self a))
  obtain ⟨nm, hnmd⟩ : ∃ nm, nm = namesF false a := ⟨_, rfl⟩
  rw [← hnmd] at hnm hdef
  have HD := Lib.hid hdef
  unfold ATree.ptr at HC hnm ⊢
  have HNM := Lib.hid hnm
  clear hTw hdef hK hok hT hnum hF hS hm hlen h1 hnmd hnm
  go_enter Tryd.func92, Tryd.ntmps92
  go_wp2_with (at_lookup; go_must (refine wpList_lookup_node _ rfl _ _ rfl mb a.b (N a.b) L rfl rfl HF.out.map HF.out.number HF.out.nodup HIN.out ?_))
  refine HNM.out.mono ?_
  rintro e w1 ⟨v1, rfl, ht1, hb1⟩
  have HB1 := Lib.hid hb1
  rcases ht1.form with ⟨rfl, rfl⟩ | ⟨g, cap, rfl, hle, hmx⟩
  · have HS1 := Lib.hid (HS.out.bel hb1)
    clear HNM ht1 hb1
    go_wp2_with fail
    refine (HC.out _ S _ (HF.out.on HB1.out) HS1.out).mono ?_
    rintro e w2 ⟨rfl, hI1, hR1, hL1⟩
    have HI1 := Lib.hid hI1
    have HR1 := Lib.hid ((FFr.bel HB1.out).trans hR1)
    have HL1 := Lib.hid hL1
    clear hI1 hR1 hL1 HC
    go_wp2
    go_end0
    rw [HD.out, if_pos trivial]
    exact ⟨rfl, HI1.out, HR1.out, by have := HL1.out; omega⟩
  · by_cases hpos : 0 < nm.length
    · have hsc := (HS.out.bel hb1).new (s := ⟨N a.b, nm, false⟩) (ht1.base HF.out.bel.size)
      have hb2 : Below w.heap.size w (w1.alloc (.cells #[.pointer pp, .int .i64 (N a.b), .slice (some ⟨g, 0, none⟩) nm.length cap, .bool false] 146)) := hb1.alloc hb1.size _
      have HSC := Lib.hid hsc
      have HB2 := Lib.hid hb2
      have hposI : (0 : Int) < nm.length := by omega
      have HNE : Hid (nm ≠ []) := Lib.hid (by intro e; rw [e] at hpos; simp at hpos)
      obtain ⟨q, hq⟩ : ∃ q, q = nm.length := ⟨_, rfl⟩
      rw [← hq] at HSC HB2 hpos hposI ⊢
      clear HNM ht1 hb1 hsc hb2 hq
      go_wp2_with fail
      refine (HC.out _ (⟨N a.b, nm, false⟩ :: S) _ (HF.out.on HB2.out) HSC.out).mono ?_
      rintro e w2 ⟨rfl, hI1, hR1, hL1⟩
      have HI1 := Lib.hid hI1
      have HR1 := Lib.hid ((FFr.bel HB2.out).trans hR1)
      have HL1 := Lib.hid hL1
      clear hI1 hR1 hL1 HC
      go_wp2
      go_end0
      rw [HD.out, if_neg HNE.out]
      exact ⟨rfl, HI1.out, HR1.out, by have := HL1.out; omega⟩
    · have hn0 : nm = [] := List.eq_nil_of_length_eq_zero (by omega)
      subst hn0
      have HS1 := Lib.hid (HS.out.bel hb1)
      simp only [List.length_nil]
      clear HNM ht1 hb1 hpos
      go_wp2_with fail
      refine (HC.out _ S _ (HF.out.on HB1.out) HS1.out).mono ?_
      rintro e w2 ⟨rfl, hI1, hR1, hL1⟩
      have HI1 := Lib.hid hI1
      have HR1 := Lib.hid ((FFr.bel HB1.out).trans hR1)
      have HL1 := Lib.hid hL1
      clear hI1 hR1 hL1 HC
      go_wp2
      go_end0
      rw [HD.out, if_pos trivial]
      exact ⟨rfl, HI1.out, HR1.out, by have := HL1.out; omega⟩
end Go.Proofs.YtgifgiipojedbaaDoor

namespace Go.Proofs.YtgifgiipojedbaaDoor
open Go Go.RowKit
set_option maxRecDepth 100000
set_option linter.unusedVariables false

mutual
theorem subs_blocks : ∀ a : ATree, (a.subs.map ATree.b).Sublist a.blocks
  | .mk b v k t n ks => by
    simp only [ATree.subs, List.map_cons, ATree.b, ATree.blocks]
    exact List.Sublist.cons_cons _ ((subsL_blocks ks).trans (by first | exact List.Sublist.refl _ | exact List.sublist_append_right _ _))
theorem subsL_blocks : ∀ l : List ATree, ((subsL l).map ATree.b).Sublist (blocksL l)
  | [] => by simp [subsL]
  | a :: l => by
    simp only [subsL, blocksL, List.map_append]
    exact List.Sublist.append (subs_blocks a) (subsL_blocks l)
end
theorem Got.apart {w w' : World} {B : Nat} {a : ATree} {t : Tree} (h : Got w B w' a t) : (a.subs.map ATree.b).Nodup := h.nodup.sublist (subs_blocks a)
/-- each entry's number is its place -/
def Placed (l : List (Nat × Nat)) : Prop := ∀ (i : Nat) (x : Nat × Nat), l[i]? = some x → x.2 = i
theorem Placed.push {l : List (Nat × Nat)} (h : Placed l) (b : Nat) : Placed (l ++ [(b, l.length)]) := by
  intro i x hx
  rcases Nat.lt_or_ge i l.length with hi | hi
  · rw [List.getElem?_append_left hi] at hx
    exact h i x hx
  · rw [List.getElem?_append_right hi] at hx
    cases hd : i - l.length with
    | zero =>
      rw [hd] at hx
      simp only [List.getElem?_cons_zero, Option.some.injEq] at hx
      rw [← hx]
      simp only
      omega
    | succ n => rw [hd] at hx; simp at hx
mutual
theorem num_placed : ∀ (a : ATree) (l : List (Nat × Nat)), Placed l → Placed (walkA numG a l)
  | .mk b v k t n ks, l, h => by
    simp only [walkA, numG, if_true]
    exact num_placedL ks _ (h.push _)
theorem num_placedL : ∀ (ks : List ATree) (l : List (Nat × Nat)), Placed l → Placed (walkL numG ks l)
  | [], l, h => by simpa [walkL] using h
  | a :: ks, l, h => by
    simp only [walkL]
    exact num_placedL ks _ (num_placed a l h)
end
/-- a node's number -/
def numOf (a : ATree) (b : Nat) : Nat := (a.subs.map ATree.b).idxOf b
theorem numOf_mem (a x : ATree) (hx : x ∈ a.subs) : (x.b, numOf a x.b) ∈ walkA numG a [] := by
  have hk := num_keys a []
  simp only [List.map_nil, List.nil_append] at hk
  have hp := num_placed a [] (fun i x h => by simp at h)
  have hm : x.b ∈ a.subs.map ATree.b := List.mem_map.2 ⟨x, hx, rfl⟩
  have hi : numOf a x.b < (a.subs.map ATree.b).length := List.idxOf_lt_length_of_mem hm
  have hl : numOf a x.b < (walkA numG a []).length := by rw [← hk, List.length_map] at hi; exact hi
  obtain ⟨y, hy⟩ : ∃ y, (walkA numG a [])[numOf a x.b]? = some y := ⟨_, List.getElem?_eq_getElem hl⟩
  have h1 := hp _ _ hy
  have h2 : (a.subs.map ATree.b)[numOf a x.b]? = some y.1 := by rw [← hk, List.getElem?_map, hy]; rfl
  have h3 : (a.subs.map ATree.b)[numOf a x.b]? = some x.b := by
    exact (List.getElem?_eq_getElem hi).trans (congrArg some (List.getElem_idxOf hi))
  rw [h3] at h2
  have h4 : y = (x.b, numOf a x.b) := Prod.ext (Option.some.inj h2).symm h1
  rw [← h4]
  exact List.mem_of_getElem? hy
end Go.Proofs.YtgifgiipojedbaaDoor
