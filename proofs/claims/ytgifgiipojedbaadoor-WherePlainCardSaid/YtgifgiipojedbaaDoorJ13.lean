/- Package where: lets; the finder, as it stands. Package where: the finder as it stands; kids. Package where: the finder's node: what is no scope. Package where: the finder's node at a name. Package where: the finder's node: with, catch. Package where: the finder's node: catch. -/
import Derived.Test.YtgifgiipojedbaaDoorJ12
namespace Go.Proofs.YtgifgiipojedbaaDoor
open Go Go.RowKit
set_option maxRecDepth 100000
set_option linter.unusedVariables false

/-- a text behind others, in their own row -/
theorem texts_push {w2 : World} {B : Nat} {v2 : Value} {l : List ByteArray} {s : ByteArray} (h : w2.ownsRow B 9 1 v2 (l.length + 1) (l.map Value.string ++ [.string s])) : Texts w2 B v2 (l ++ [s]) := by
  unfold Texts
  rw [List.length_append, List.map_append]
  exact h

set_option maxHeartbeats 8000000 in
theorem wlets_any (w : World) (B0 : Nat) (a : ATree) (hT : TreeAt w B0 a) (hn : a.kids.length < 1099511627776) :
    Calls Tryd.prog 66 #[a.ptr] w fun e w' => ∃ v, e = .returned v ∧ Texts w' w.heap.size v ((a.kids.filter isLet).map ATree.text) ∧ Below w.heap.size w w' := by
  obtain ⟨i0, hi, hz0, hz1, hz2⟩ := info_parts Tryd.infoStr
  have HL := Lib.hid (lets_any w B0 a hT hn)
  have hle : (a.kids.filter isLet).length ≤ a.kids.length := List.length_filter_le _ _
  have hlk : ∀ x, x ∈ a.kids.filter isLet → x ∈ a.kids := fun x hx => (List.mem_filter.1 hx).1
  have HLK := Lib.hid hlk
  have HT := Lib.hid hT
  obtain ⟨Q, hQ⟩ : ∃ Q, Q = a.kids.filter isLet := ⟨_, rfl⟩
  rw [← hQ] at HL hle HLK ⊢
  clear hQ hlk hT
  unfold ATree.ptr at HL ⊢
  go_enter Tryd.func66, Tryd.ntmps66
  go_wp2_with fail
  refine HL.out.mono ?_
  rintro e w2 ⟨v2, rfl, hn2, hb2⟩
  obtain ⟨p2, cp2, rfl, hge2, hmx2⟩ : ∃ p cp, v2 = .slice p Q.length cp ∧ Q.length ≤ cp ∧ cp ≤ maxLen := by
    rcases hn2.form with ⟨h1, h2⟩ | ⟨g, cap, h1, h2, h3⟩
    · exact ⟨none, 0, by rw [h1, h2]; rfl, by rw [h2]; exact Nat.le_refl _, by unfold maxLen; omega⟩
    · exact ⟨_, _, h1, h2, h3⟩
  have HB2 := Lib.hid hb2
  have N2 := Lib.hid hn2
  obtain ⟨q, hq1⟩ : ∃ q, q = Q.length := ⟨_, rfl⟩
  have hqq : q ≤ 9223372036854775807 := by unfold maxLen at hmx2; omega
  rw [← hq1] at hge2 N2 hle ⊢
  have HQ1 := Lib.hid hq1
  clear hn2 hb2 hq1 HL
  go_wp2_with fail
  go_loopw [3, 9] (fun v i wr => ∃ (k : Nat) (v' : Value), v' = v ∧ k ≤ q ∧ i = .int .i64 k ∧ Hid (Texts wr w.heap.size v' ((Q.take k).map ATree.text)) ∧ Hid (Nodes wr w.heap.size (.slice p2 q cp2) Q) ∧ Hid (Below w.heap.size w wr)) (fun _ i _ => q - (intOf i).toNat)
  case atStart => exact ⟨0, _, rfl, Nat.zero_le _, rfl, Lib.hid (Texts.nil _ _), N2, HB2⟩
  case round =>
    obtain ⟨k, v, rfl, hk, rfl, TX, NO, HB⟩ := hrel
    clear N2 HB2
    by_cases hkn : k < q
    · obtain ⟨x, hx⟩ : ∃ x, Q[k]? = some x := ⟨_, List.getElem?_eq_getElem (by rw [← HQ1.out]; exact hkn)⟩
      obtain ⟨g0, hp⟩ : ∃ g, p2 = some ⟨g, 0, none⟩ := by
        rcases NO.out.form with ⟨h1, h2⟩ | ⟨g, cap, h1, _⟩
        · rw [h2] at hx; simp at hx
        · simp only [Value.slice.injEq] at h1; exact ⟨g, h1.1⟩
      subst hp
      have cx := NO.out.cell rfl hx
      have hTx := (HT.out.bel HB.out).kid (HLK.out x (List.mem_of_getElem? hx))
      have c1 := hTx.c1
      have hsz := HB.out.size
      have HX := Lib.hid hx
      obtain ⟨L, hL⟩ : ∃ L, L = (Q.take k).map ATree.text := ⟨_, rfl⟩
      have hll : L.length ≤ k := by rw [hL]; simp; omega
      rw [← hL] at TX
      have HLL := Lib.hid hL
      have TX2 := TX
      unfold Texts at TX
      clear hTx hx hL
      go_wp2_with (at_builtin; go_must (refine wpList_append_lies _ rfl (.tmp 13) (.tmp 18) 66 rfl w.heap.size 9 i0 (.string ByteArray.empty) 1 16 Tryd.underlying66 hi hz0 hz1 hz2 rfl (by decide) v L.length (L.map Value.string) rfl (TX.out.alloc _) ⟨wr.heap.size, 0, none⟩ 1 1 [.string x.text] rfl rfl (fun j u hu => cell_one_new wr _ _ j u hu) (by intro u hu; simp at hu; subst hu; rfl) (by first | omega | (simp; omega)) (by unfold maxLen; omega) (by first | omega | (simp; omega)) (by first | omega | (simp; omega)) (wr.heap.size + 1) (by simp) ?_); intro g cap w3 hown2 hgrow2 hat2 hgl2; have HG := Lib.hid hgrow2; have HW := Lib.hid hown2; clear hgrow2 hown2 hat2 hgl2)
      go_roundw
      case rel =>
        refine ⟨k + 1, _, rfl, by omega, by go_num, Lib.hid ?_, Lib.hid ?_, Lib.hid ?_⟩
        · rw [take_succ_kid HX.out, List.map_append, ← HLL.out]
          exact texts_push HW.out
        · exact NO.out.far TX2.out fun j hj hv => (HG.out.block j (by simp; omega) (fun e => hv e.symm)).trans (Below.heap_alloc _ _ _ hj)
        · exact (HB.out.alloc hsz _).grown HG.out (by simp; omega) fun j hj => (World.ownsRow.lt TX.out j hj).1
      case measure => simp [intOf]; omega
    · have hk2 : k = q := by omega
      subst hk2
      go_wp2
      go_ret
      refine ⟨_, rfl, ?_, HB.out⟩
      have := TX.out
      rwa [List.take_of_length_le (by rw [← HQ1.out]; exact Nat.le_refl _)] at this
end Go.Proofs.YtgifgiipojedbaaDoor

namespace Go.Proofs.YtgifgiipojedbaaDoor
open Go Go.RowKit
set_option maxRecDepth 100000
set_option linter.unusedVariables false

structure Us where
  at' : Int
  r : Int × Bool
def Us.cells (u : Us) : List Value := [.int .i64 u.at', .int .i64 u.r.1, .bool u.r.2]
def s_arguments : ByteArray := ⟨#[97, 114, 103, 117, 109, 101, 110, 116, 115]⟩
mutual
/-- what the finder tells of a program -/
def nodeF (N : Nat → Nat) : ATree → List Sc → Bool → List Us
  | .mk b v k t n ks, S, st =>
    if k = 23 then [⟨N b, lookF t S true⟩]
    else if k = 6 then kidsF N ks (if namesF false (.mk b v k t n ks) = [] then S else ⟨N b, namesF false (.mk b v k t n ks), false⟩ :: S) st
    else if k = 13 then kidsF N ks (⟨N b, [t], false⟩ :: S) st
    else if k = 9 then (match ks with
      | x :: y :: _ => nodeF N x S st ++ nodeF N y (⟨-2, [], true⟩ :: S) st
      | _ => [])
    else if k = 5 ∨ k = 37 then (match ks with
      | ps :: .mk b2 v2 k2 t2 n2 bks :: _ =>
        kidsF N bks (⟨N b, s_arguments :: (ps.kids.map ATree.text ++ namesF true (.mk b2 v2 k2 t2 n2 bks)), !(st || isStrict (.mk b2 v2 k2 t2 n2 bks)) && evalsF (.mk b2 v2 k2 t2 n2 bks)⟩ :: (if k = 37 ∧ t ≠ ByteArray.empty then ⟨N b, [t], false⟩ :: S else S)) (st || isStrict (.mk b2 v2 k2 t2 n2 bks))
      | _ => [])
    else kidsF N ks S st
def kidsF (N : Nat → Nat) : List ATree → List Sc → Bool → List Us
  | [], _, _ => []
  | a :: l, S, st => nodeF N a S st ++ kidsF N l S st
end
theorem kidsF_snoc (N : Nat → Nat) (l : List ATree) (a : ATree) (S : List Sc) (st : Bool) : kidsF N (l ++ [a]) S st = kidsF N l S st ++ nodeF N a S st := by
  induction l with
  | nil => simp [kidsF]
  | cons x l ih => simp only [List.cons_append, kidsF, ih, List.append_assoc]

/-- what the finder leaves alone -/
structure FFr (w w' : World) : Prop where
  size : w.heap.size ≤ w'.heap.size
  cells : ∀ (k : Nat) (c : Array Value) (t : TypeId) (f : Nat × Nat), w.heap[k]? = some (.cells c t f) → t ≠ 141 → t ≠ 82 → w'.heap[k]? = w.heap[k]?
  map : ∀ (k : Nat) (es : Array MapEntry) (c : Nat), w.heap[k]? = some (.map es c) → w'.heap[k]? = w.heap[k]?
theorem FFr.refl (w : World) : FFr w w := ⟨Nat.le_refl _, fun _ _ _ _ _ _ _ => rfl, fun _ _ _ _ => rfl⟩
theorem FFr.trans {w w1 w2 : World} (h : FFr w w1) (g : FFr w1 w2) : FFr w w2 :=
  ⟨Nat.le_trans h.size g.size, fun k c t f hk h1 h2 => (g.cells k c t f ((h.cells k c t f hk h1 h2).trans hk) h1 h2).trans (h.cells k c t f hk h1 h2),
    fun k es c hk => (g.map k es c ((h.map k es c hk).trans hk)).trans (h.map k es c hk)⟩
theorem FFr.bel {w w' : World} (h : Below w.heap.size w w') : FFr w w' :=
  ⟨h.size, fun k _ _ _ hk _ _ => h.block k (Array.getElem?_eq_some_iff.1 hk).1, fun k _ _ hk => h.block k (Array.getElem?_eq_some_iff.1 hk).1⟩
theorem Texts.ffr {w w' : World} {B : Nat} {v : Value} {l : List ByteArray} (h : Texts w B v l) (g : FFr w w') : Texts w' B v l := by
  refine ownsRow_block h fun k hk => ?_
  obtain ⟨c, f, hb⟩ := Lib.ownsRow_kind h k hk
  exact g.cells k _ _ _ hb (by decide) (by decide)
theorem ScopeAt.ffr {w w' : World} {B : Nat} {l : List Sc} {v : Value} (h : ScopeAt w B l v) (g : FFr w w') : ScopeAt w' B l v :=
  h.keep (fun k c t hk ht => by subst ht; exact g.cells k _ _ _ hk (by decide) (by decide)) fun v l h => h.ffr g
/-- the finder: its map of numbers, what it has told -/
structure FSt (w0 : World) (fb mb : Nat) (N : Nat → Nat) (L : List (Nat × Nat)) (out : List Us) (w : World) : Prop where
  bel : Below w0.heap.size w0 w
  cell : ∃ ov, w.heap[fb]? = some (.cells #[.map (some mb), ov] 141 (0, 0)) ∧ w.ownsRow w0.heap.size 82 3 ov out.length (out.flatMap Us.cells)
  le : w0.heap.size ≤ fb
  map : PMap w mb L
  has : ∀ x ∈ L, Cells w0 x.1
  nodup : (L.map (·.1)).Nodup
/-- a node's walk -/
def NodeSays (w0 : World) (fb mb : Nat) (N : Nat → Nat) (L : List (Nat × Nat)) (Ok : ATree → Prop) (m : Nat) : Prop :=
  ∀ (a : ATree) (B : Nat) (w : World) (S : List Sc) (sv : Value) (st : Bool) (out : List Us), a.many ≤ m → Ok a → TreeAt w0 B a → (∀ x ∈ a.subs, (x.b, N x.b) ∈ L) → out.length + a.many < 274877906944 → FSt w0 fb mb N L out w → ScopeAt w w0.heap.size S sv →
    Calls Tryd.prog 92 #[.pointer (some ⟨fb, 0, none⟩), a.ptr, sv, .bool st] w fun e w' => e = .returned (.tuple #[]) ∧ FSt w0 fb mb N L (out ++ nodeF N a S st) w' ∧ FFr w w' ∧ (nodeF N a S st).length ≤ a.many
def KidsSays (w0 : World) (fb mb : Nat) (N : Nat → Nat) (L : List (Nat × Nat)) (Ok : ATree → Prop) (m : Nat) : Prop :=
  ∀ (a : ATree) (B : Nat) (w : World) (S : List Sc) (sv : Value) (st : Bool) (out : List Us), a.many ≤ m + 1 → (∀ k ∈ a.kids, Ok k) → TreeAt w0 B a → (∀ x ∈ a.subs, (x.b, N x.b) ∈ L) → out.length + a.many < 274877906944 → FSt w0 fb mb N L out w → ScopeAt w w0.heap.size S sv →
    Calls Tryd.prog 65 #[.pointer (some ⟨fb, 0, none⟩), a.ptr, sv, .bool st] w fun e w' => e = .returned (.tuple #[]) ∧ FSt w0 fb mb N L (out ++ kidsF N a.kids S st) w' ∧ FFr w w' ∧ (kidsF N a.kids S st).length + 1 ≤ a.many
theorem manyLA_at {l : List ATree} {i : Nat} {k : ATree} (h : l[i]? = some k) : manyLA (l.take i) + k.many ≤ manyLA l := by
  have h1 := congrArg List.length (subsL_at h)
  simp only [List.length_append, subsL_len, subs_length] at h1
  omega

set_option maxHeartbeats 8000000 in
theorem kids_says {w0 : World} {fb mb : Nat} {N : Nat → Nat} {L : List (Nat × Nat)} {Ok : ATree → Prop} {m : Nat} (hN : NodeSays w0 fb mb N L Ok m) : KidsSays w0 fb mb N L Ok m := by
  intro a B w S sv st out hm hok hT hnum hlen hF hS
  have hTw : TreeAt w B a := hT.keep fun k _ hk => hF.bel.block k hk
  obtain ⟨p, cp, hv, hge, hmx⟩ := hTw.vOf
  have c3 : w.cell? ⟨a.b, 3, none⟩ = some (.slice p a.kids.length cp) := by rw [← hv]; exact hTw.c3
  have hlen2 : a.kids.length ≤ 9223372036854775807 := by unfold maxLen at hmx; omega
  obtain ⟨pp, rfl⟩ := hS.ptr
  have HNS := Lib.hid hN
  have HT := Lib.hid hT
  have HV := Lib.hid hv
  have HF := Lib.hid hF
  have HS := Lib.hid hS
  have HOK := Lib.hid hok
  have HNUM := Lib.hid hnum
  have hkl := kids_le a
  have hml : a.many = manyLA a.kids + 1 := by obtain ⟨b, v, k, t, n, ks⟩ := a; rfl
  unfold ATree.ptr
  obtain ⟨n, hnn⟩ : ∃ n, n = a.kids.length := ⟨_, rfl⟩
  rw [← hnn] at c3 hlen2 hge
  have HN := Lib.hid hnn
  have HML := Lib.hid hml
  have HM := Lib.hid hm
  have HLEN := Lib.hid hlen
  clear hTw hv hnn hT hN hF hS hok hnum hml hm hlen hkl
  go_enter Tryd.func65, Tryd.ntmps65
  go_wp2_with fail
  go_loopw [15] (fun i wr => ∃ (k : Nat), k ≤ n ∧ i = .int .i64 k ∧ Hid (FSt w0 fb mb N L (out ++ kidsF N (a.kids.take k) S st) wr) ∧ Hid (FFr w wr) ∧ Hid ((kidsF N (a.kids.take k) S st).length ≤ manyLA (a.kids.take k))) (fun i _ => n - (intOf i).toNat)
  case atStart => exact ⟨0, Nat.zero_le _, rfl, Lib.hid (by simpa [kidsF] using HF.out), Lib.hid (FFr.refl _), Lib.hid (by simp [kidsF])⟩
  case round =>
    obtain ⟨k, hk, rfl, HI, HR, HL⟩ := hrel
    by_cases hkn : k < n
    · obtain ⟨x, hx⟩ : ∃ x, a.kids[k]? = some x := ⟨_, List.getElem?_eq_getElem (by rw [← HN.out]; exact hkn)⟩
      have hT2 : TreeAt wr B a := HT.out.keep fun k _ hk => HI.out.bel.block k hk
      have hrow := hT2.rowOf
      rcases ownsRow_cases hrow with ⟨_, h2⟩ | ⟨g0, cap0, hv0, _⟩
      · rw [← HN.out] at h2; omega
      have hp : p = some ⟨g0, 0, none⟩ := by
        have := HV.out.symm.trans hv0
        simp only [Value.slice.injEq] at this
        exact this.1
      subst hp
      have cx := ownsRow_cell1 hrow (g := g0) (by rw [hv0]; rfl) (i := k) (x := x.ptr) (by rw [List.getElem?_map, hx]; rfl)
      have hmem : x ∈ a.kids := List.mem_of_getElem? hx
      have hma := manyLA_at hx
      have hcall := HNS.out x B wr S (.pointer pp) st _ (by have := many_kid hmem; have := HM.out; omega) (HOK.out x hmem) (HT.out.kid hmem) (fun y hy => HNUM.out y (subs_kid hmem hy)) (by rw [List.length_append]; have := HL.out; have := HML.out; have := HLEN.out; omega) HI.out (HS.out.ffr HR.out)
      unfold ATree.ptr at cx hcall
      have HCALL := Lib.hid hcall
      have HX := Lib.hid hx
      have HMA := Lib.hid hma
      clear hT2 hrow hv0 hx hcall hmem hma
      go_wp2_with fail
      refine HCALL.out.mono ?_
      rintro e w1 ⟨rfl, hI1, hR1, hL1⟩
      have HI1 := Lib.hid hI1
      have HR1 := Lib.hid (HR.out.trans hR1)
      have HL1 := Lib.hid hL1
      clear hI1 hR1 hL1 HCALL
      go_wp2
      go_roundw
      case rel =>
        refine ⟨k + 1, by omega, by go_num, Lib.hid ?_, HR1, Lib.hid ?_⟩
        · rw [take_succ_kid HX.out, kidsF_snoc, ← List.append_assoc]; exact HI1.out
        · rw [take_succ_kid HX.out, kidsF_snoc, List.length_append]
          have h1 := HL.out
          have h2 := HL1.out
          have h3 : manyLA (a.kids.take k ++ [x]) = manyLA (a.kids.take k) + x.many := by
            rw [← subsL_len, subsL_app, List.length_append, subsL_len]
            simp only [subsL, List.append_nil, subs_length]
          omega
      case measure => simp [intOf]; omega
    · have hk2 : k = n := by omega
      subst hk2
      have hall : a.kids.take k = a.kids := List.take_of_length_le (by rw [← HN.out]; exact Nat.le_refl _)
      have HALL := Lib.hid hall
      clear hall
      go_wp2
      go_end0
      have h1 := HI.out
      have h2 := HL.out
      rw [HALL.out] at h1 h2
      exact ⟨rfl, h1, HR.out, by have := HML.out; omega⟩
end Go.Proofs.YtgifgiipojedbaaDoor

namespace Go.Proofs.YtgifgiipojedbaaDoor
open Go Go.RowKit
set_option maxRecDepth 100000
set_option linter.unusedVariables false

theorem FSt.number {w0 w : World} {fb mb : Nat} {N : Nat → Nat} {L : List (Nat × Nat)} {out : List Us} (h : FSt w0 fb mb N L out w) : ∀ x ∈ L, Cells w x.1 := fun x hx => (h.has x hx).bel h.bel
theorem FSt.c0 {w0 w : World} {fb mb : Nat} {N : Nat → Nat} {L : List (Nat × Nat)} {out : List Us} (h : FSt w0 fb mb N L out w) : w.cell? ⟨fb, 0, none⟩ = some (.map (some mb)) := by
  obtain ⟨ov, hb, _⟩ := h.cell
  simp [World.cell?, hb]

set_option maxHeartbeats 8000000 in
/-- a node that makes no scope -/
theorem node_plain {w0 : World} {fb mb : Nat} {N : Nat → Nat} {L : List (Nat × Nat)} {Ok : ATree → Prop} {m : Nat} (hK : KidsSays w0 fb mb N L Ok m)
    (a : ATree) (B : Nat) (w : World) (S : List Sc) (sv : Value) (st : Bool) (out : List Us) (hm : a.many ≤ m + 1) (hok : ∀ k ∈ a.kids, Ok k) (hT : TreeAt w0 B a) (hnum : ∀ x ∈ a.subs, (x.b, N x.b) ∈ L) (hlen : out.length + a.many < 274877906944) (hF : FSt w0 fb mb N L out w) (hS : ScopeAt w w0.heap.size S sv)
    (h1 : a.kind ≠ 23) (h2 : a.kind ≠ 6) (h3 : a.kind ≠ 13) (h4 : a.kind ≠ 9) (h5 : a.kind ≠ 5) (h6 : a.kind ≠ 37) :
    Calls Tryd.prog 92 #[.pointer (some ⟨fb, 0, none⟩), a.ptr, sv, .bool st] w fun e w' => e = .returned (.tuple #[]) ∧ FSt w0 fb mb N L (out ++ nodeF N a S st) w' ∧ FFr w w' ∧ (nodeF N a S st).length ≤ a.many := by
  have hTw : TreeAt w B a := hT.keep fun k _ hk => hF.bel.block k hk
  have hdef : nodeF N a S st = kidsF N a.kids S st := by
    obtain ⟨b, v, k, t, n, ks⟩ := a
    simp only [ATree.kind] at h1 h2 h3 h4 h5 h6
    rw [nodeF.eq_def]
    simp only [h1, h2, h3, h4, h5, h6, if_false, or_self, ATree.kids]
  have HC := Lib.hid (hK a B w S sv st out hm hok hT hnum hlen hF hS)
  have HD := Lib.hid hdef
  have d0 := hTw.c0
  have f0 := hF.c0
  obtain ⟨pp, rfl⟩ := hS.ptr
  have HF := Lib.hid hF
  have HIN := Lib.hid (hnum a (subs_self a))
  unfold ATree.ptr at HC ⊢
  obtain ⟨kd, hkd⟩ : ∃ kd, kd = a.kind := ⟨_, rfl⟩
  rw [← hkd] at d0 h1 h2 h3 h4 h5 h6
  have n1 : (kd == 23) = false := by simpa using h1
  have n2 : (kd == 6) = false := by simpa using h2
  have n3 : (kd == 13) = false := by simpa using h3
  have n4 : (kd == 9) = false := by simpa using h4
  have n5 : (kd == 5) = false := by simpa using h5
  have n6 : (kd == 37) = false := by simpa using h6
  clear hTw hdef hK hok hT hnum hF hS hm hlen h1 h2 h3 h4 h5 h6 hkd
  go_enter Tryd.func92, Tryd.ntmps92
  go_wp2_with (at_lookup; go_must (refine wpList_lookup_node _ rfl _ _ rfl mb a.b (N a.b) L rfl rfl HF.out.map HF.out.number HF.out.nodup HIN.out ?_))
  refine HC.out.mono ?_
  rintro e w1 ⟨rfl, hI1, hR1, hL1⟩
  have HI1 := Lib.hid hI1
  have HR1 := Lib.hid hR1
  have HL1 := Lib.hid hL1
  clear hI1 hR1 hL1 HC
  go_wp2
  go_end0
  rw [HD.out]
  exact ⟨rfl, HI1.out, HR1.out, by have := HL1.out; omega⟩
end Go.Proofs.YtgifgiipojedbaaDoor

namespace Go.Proofs.YtgifgiipojedbaaDoor
open Go Go.RowKit
set_option maxRecDepth 100000
set_option linter.unusedVariables false

theorem FSt.told {w0 w w1 w2 : World} {fb mb : Nat} {N : Nat → Nat} {L : List (Nat × Nat)} {out : List Us} {u : Us} {ov v2 : Value} (h : FSt w0 fb mb N L out w) (hb : w.heap[fb]? = some (.cells #[.map (some mb), ov] 141 (0, 0)))
    (hrow : w.ownsRow w0.heap.size 82 3 ov out.length (out.flatMap Us.cells)) (hB : Below w.heap.size w w1) (hg : w1.grownBy w2 ov.ownBlock)
    (hown : w2.ownsRow w0.heap.size 82 3 v2 (out.length + 1) (out.flatMap Us.cells ++ u.cells)) :
    FSt w0 fb mb N L (out ++ [u]) (w2.setCell ⟨fb, 1, none⟩ v2) ∧ FFr w (w2.setCell ⟨fb, 1, none⟩ v2) := by
  have hfl := (Array.getElem?_eq_some_iff.1 hb).1
  have hne : ∀ k c t f, w.heap[k]? = some (.cells c t f) → t ≠ 82 → ov.ownBlock ≠ some k := fun k c t f hk ht e => by
    obtain ⟨c1, f1, h1⟩ := Lib.ownsRow_kind hrow k e
    rw [hk] at h1
    simp only [Option.some.injEq, Obj.cells.injEq] at h1
    exact ht h1.2.1
  have hnm : ∀ k es c, w.heap[k]? = some (.map es c) → ov.ownBlock ≠ some k := fun k es c hk e => by
    obtain ⟨c1, f1, h1⟩ := Lib.ownsRow_kind hrow k e
    rw [hk] at h1
    cases h1
  have step : ∀ k, k < w.heap.size → ov.ownBlock ≠ some k → w2.heap[k]? = w.heap[k]? := fun k hk hv => (hg.block k (Nat.lt_of_lt_of_le hk hB.size) (fun e => hv e.symm)).trans (hB.block k hk)
  have hb2 : w2.heap[fb]? = some (.cells #[.map (some mb), ov] 141 (0, 0)) := (step fb hfl (hne fb _ _ _ hb (by decide))).trans hb
  obtain ⟨es, clock, hm, hes⟩ := h.map
  have hmb : mb ≠ fb := fun e => by rw [e, hb] at hm; cases hm
  refine ⟨⟨?_, ⟨v2, setCell_block (o := 1) v2 hb2, ?_⟩, h.le, ⟨es, clock, ?_, hes⟩, h.has, h.nodup⟩, ⟨?_, ?_, ?_⟩⟩
  · refine Below.setCell (Below.grown (h.bel.trans (hB.mono h.bel.size)) hg (Nat.le_trans h.bel.size hB.size) ?_) (p := ⟨fb, 1, none⟩) h.le _
    exact fun k hk => (World.ownsRow.lt hrow k hk).1
  · rw [List.length_append, List.flatMap_append]
    refine ownsRow_block (by simpa using hown) fun k hk => Below.heap_setCell _ _ _ _ ?_
    intro e
    simp only at e
    obtain ⟨c1, f1, h1⟩ := Lib.ownsRow_kind hown k hk
    rw [e, hb2] at h1
    simp only [Option.some.injEq, Obj.cells.injEq] at h1
    exact absurd h1.2.1 (by decide)
  · exact (Below.heap_setCell _ _ _ _ hmb).trans ((step mb (Array.getElem?_eq_some_iff.1 hm).1 (hnm mb _ _ hm)).trans hm)
  · rw [World.size_setCell]; exact Nat.le_trans hB.size hg.size
  · intro k c t f hk h1 h2
    refine (Below.heap_setCell _ _ _ _ ?_).trans (step k (Array.getElem?_eq_some_iff.1 hk).1 (hne k c t f hk h2))
    intro e
    simp only at e
    rw [e, hb] at hk
    simp only [Option.some.injEq, Obj.cells.injEq] at hk
    exact h1 hk.2.1.symm
  · intro k es c hk
    refine (Below.heap_setCell _ _ _ _ ?_).trans (step k (Array.getElem?_eq_some_iff.1 hk).1 (hnm k es c hk))
    intro e
    simp only at e
    rw [e, hb] at hk
    cases hk
theorem Tryd.infoUse : (Tryd.prog.info? 82).map (fun i => (i.zero, i.size, i.bytes)) = some (some (.agg #[.int .i64 0, .int .i64 0, .bool false]), 3, 24) := by kernel_rfl

set_option maxHeartbeats 8000000 in
theorem node_name {w0 : World} {fb mb : Nat} {N : Nat → Nat} {L : List (Nat × Nat)}
    (a : ATree) (B : Nat) (w : World) (S : List Sc) (sv : Value) (st : Bool) (out : List Us) (hT : TreeAt w0 B a) (hnum : (a.b, N a.b) ∈ L) (hlen : out.length < 274877906944) (hF : FSt w0 fb mb N L out w) (hS : ScopeAt w w0.heap.size S sv)
    (h1 : a.kind = 23) :
    Calls Tryd.prog 92 #[.pointer (some ⟨fb, 0, none⟩), a.ptr, sv, .bool st] w fun e w' => e = .returned (.tuple #[]) ∧ FSt w0 fb mb N L (out ++ nodeF N a S st) w' ∧ FFr w w' ∧ (nodeF N a S st).length ≤ a.many := by
  obtain ⟨i0, hi, hz0, hz1, hz2⟩ := info_parts Tryd.infoUse
  have hTw : TreeAt w B a := hT.keep fun k _ hk => hF.bel.block k hk
  have hdef : nodeF N a S st = [⟨N a.b, lookF a.text S true⟩] := by
    obtain ⟨b, v, k, t, n, ks⟩ := a
    simp only [ATree.kind] at h1
    rw [nodeF.eq_def]
    simp only [h1, if_true, ATree.b, ATree.text]
  have hmany : 1 ≤ a.many := by obtain ⟨b, v, k, t, n, ks⟩ := a; simp [ATree.many]
  have d0 := hTw.c0
  have d1 := hTw.c1
  rw [h1] at d0
  rw [hdef]
  have f0 := hF.c0
  obtain ⟨ov, hb, hrow⟩ := hF.cell
  have f1 : w.cell? ⟨fb, 1, none⟩ = some ov := by simp [World.cell?, hb]
  have fz : w.frozen? ⟨fb, 1, none⟩ = false := by simp [World.frozen?, hb]
  obtain ⟨pp, rfl⟩ := hS.ptr
  have HS := Lib.hid hS
  have HF := Lib.hid hF
  have HIN := Lib.hid hnum
  have HB := Lib.hid hb
  have HR := Lib.hid hrow
  have HM := Lib.hid hmany
  have hal := hTw.lt
  have hfl := (Array.getElem?_eq_some_iff.1 hb).1
  have hne : ov.ownBlock ≠ some fb := fun e => by
    obtain ⟨c1, g1, h1⟩ := Lib.ownsRow_kind hrow fb e
    rw [hb] at h1
    simp only [Option.some.injEq, Obj.cells.injEq] at h1
    exact absurd h1.2.1 (by decide)
  have hna : ov.ownBlock ≠ some a.b := fun e => by
    obtain ⟨c1, g1, h1⟩ := Lib.ownsRow_kind hrow a.b e
    rw [hTw.blkOf] at h1
    simp only [Option.some.injEq, Obj.cells.injEq] at h1
    exact absurd h1.2.1 (by decide)
  have NE := Lib.hid hne
  have NA := Lib.hid hna
  have HBS := Lib.hid hF.bel.size
  unfold ATree.ptr
  obtain ⟨tx, htx⟩ : ∃ tx, tx = a.text := ⟨_, rfl⟩
  rw [← htx] at d1 ⊢
  have hlook := look_any w.drew w0.heap.size (N a.b) tx S (.pointer pp) (HS.out.keep (fun _ _ _ _ _ => rfl) fun _ _ h => h)
  obtain ⟨r, hr⟩ : ∃ r, r = lookF tx S true := ⟨_, rfl⟩
  rw [← hr] at hlook ⊢
  unfold useV at hlook
  have HLOOK := Lib.hid hlook
  clear hTw hdef hT hnum hF hS h1 hb hrow hne hna hmany htx hr hlook
  go_enter Tryd.func92, Tryd.ntmps92
  go_wp2_with (first | (at_lookup; go_must (refine wpList_lookup_node _ rfl _ _ rfl mb a.b (N a.b) L rfl rfl HF.out.map HF.out.number HF.out.nodup HIN.out ?_)) | fail)
  refine wp_region_plan [(true, 0), (true, 1), (true, 2), (true, 3), (true, 4), (true, 5), (true, 6), (true, 7), (true, 8), (true, 9), (true, 10), (false, 11), (false, 12), (false, 13)] [14, 15, 16] (fun W => W.cell? ⟨fb, 1, none⟩ = some ov ∧ W.cell? ⟨a.b, 1, none⟩ = some (.string tx)) (by kernel_rfl) (by kernel_rfl) (fun _ _ d _ _ h => by cases d <;> exact h) ⟨f1, d1⟩ (fun hS0 => ?_)
  simp only [planOps, List.filterMap_cons, List.filterMap_nil, List.getElem?_toArray, List.getElem?_cons_zero, List.getElem?_cons_succ, Option.map_some]
  iterate 11
    first
      | (refine wpPlan_take ?_ (by rfl) (fun w' hS' => ?_) ?_; rotate_left; (obtain ⟨s0, s1⟩ := hS'; go_simp; first | done | with_reducible rfl); simp only [Act.put, List.setIfInBounds_toArray, List.set_cons_zero, List.set_cons_succ])
      | (refine wpPlan_skip (by rfl) ?_; simp only [Act.put, List.setIfInBounds_toArray, List.set_cons_zero, List.set_cons_succ])
  refine wpPlan_go (fun K hK => ?_)
  go_simp
  refine HLOOK.out.mono ?_
  rintro e w1 ⟨rfl, hB1⟩
  have m1 : w1.cell? ⟨fb, 1, none⟩ = some ov := (World.cell?_of_block (hB1.block fb hfl)).trans f1
  have ma : w1.cell? ⟨a.b, 1, none⟩ = some (.string tx) := (World.cell?_of_block (hB1.block a.b hal)).trans d1
  have mz : w1.frozen? ⟨fb, 1, none⟩ = false := (World.frozen?_of_block (hB1.block fb hfl)).trans fz
  have hs1 : w.heap.size ≤ w1.heap.size := hB1.size
  have HB1 : Hid (Below w.heap.size w w1) := Lib.hid ⟨hB1.os, hB1.tape, hB1.output, hB1.size, hB1.block⟩
  have HR1 : Hid (w1.ownsRow w0.heap.size 82 3 ov out.length (out.flatMap Us.cells)) := Lib.hid (ownsRow_block HR.out fun k hk => hB1.block k (World.ownsRow.lt HR.out k hk).2)
  refine hK _ _ ⟨m1, ma⟩ ?_
  clear hK K hB1
  refine wpPlan_go (fun K hK => ?_)
  go_simp
  refine hK _ _ ⟨(cell_old (by show fb < _; omega)).trans m1, (cell_old (by show a.b < _; omega)).trans ma⟩ ?_
  clear hK K
  refine wpPlan_go (fun K hK => ?_)
  refine step_append_lies _ (by rfl) (.tmp 35) (.tmp 43) 79 (by rfl) w0.heap.size 82 i0 _ 3 24 Tryd.underlying79 hi hz0 hz1 hz2 rfl (by decide) ov out.length (out.flatMap Us.cells) (by rfl) (HR1.out.alloc _) ⟨w1.heap.size, 0, none⟩ 1 1 (Us.cells ⟨N a.b, r⟩) (by rfl) rfl (World.news_of_block (cs := (Us.cells ⟨N a.b, r⟩).toArray) (t := 82) (fr := (0, 0)) (heap_alloc_new w1 _)) (by simp [Us.cells, Value.oneCell']) (by decide) (by unfold maxLen; omega) (by omega) (by simp; have := HBS.out; omega) (w1.heap.size + 1) (by simp) ?_
  intro gg cap w2 hown2 hgrow2 hat2 hlt2
  have e1 : w2.cell? ⟨fb, 1, none⟩ = some ov := (hgrow2.cell_far ⟨fb, 1, none⟩ (by simp; omega) (fun e => NE.out e.symm)).trans ((cell_old (by show fb < _; omega)).trans m1)
  have ea : w2.cell? ⟨a.b, 1, none⟩ = some (.string tx) := (hgrow2.cell_far ⟨a.b, 1, none⟩ (by simp; omega) (fun e => NA.out e.symm)).trans ((cell_old (by show a.b < _; omega)).trans ma)
  have ez : w2.frozen? ⟨fb, 1, none⟩ = false := (hgrow2.frozen_far ⟨fb, 1, none⟩ (by simp; omega) (fun e => NE.out e.symm)).trans ((frozen_old (by show fb < _; omega)).trans mz)
  refine hK _ _ ⟨e1, ea⟩ ?_
  clear hK K
  simp only [Act.put, List.setIfInBounds_toArray, List.set_cons_zero, List.set_cons_succ]
  have hfin := HF.out.told (u := ⟨N a.b, r⟩) HB.out HR.out (HB1.out.alloc hs1 _) hgrow2 hown2
  have FIN := Lib.hid hfin
  clear hgrow2 hown2 hat2 hlt2 hfin
  refine wpPlan_end ?_
  go_wp2
  go_end0
  exact ⟨rfl, FIN.out.1, FIN.out.2, by have := HM.out; simpa using this⟩
end Go.Proofs.YtgifgiipojedbaaDoor

namespace Go.Proofs.YtgifgiipojedbaaDoor
open Go Go.RowKit
set_option maxRecDepth 100000
set_option linter.unusedVariables false

theorem FSt.on {w0 w w1 : World} {fb mb : Nat} {N : Nat → Nat} {L : List (Nat × Nat)} {out : List Us} (h : FSt w0 fb mb N L out w) (g : Below w.heap.size w w1) : FSt w0 fb mb N L out w1 := by
  obtain ⟨ov, hb, hrow⟩ := h.cell
  obtain ⟨es, clock, hm, hes⟩ := h.map
  exact ⟨h.bel.trans (g.mono h.bel.size), ⟨ov, (g.block fb (Array.getElem?_eq_some_iff.1 hb).1).trans hb, ownsRow_block hrow fun k hk => g.block k (World.ownsRow.lt hrow k hk).2⟩, h.le,
    ⟨es, clock, (g.block mb (Array.getElem?_eq_some_iff.1 hm).1).trans hm, hes⟩, h.has, h.nodup⟩
theorem ScopeAt.rank {w : World} {B : Nat} {l : List Sc} {v : Value} (h : ScopeAt w B l v) : rankP v ≤ w.heap.size := by
  cases l with
  | nil => have : v = .pointer none := h; rw [this]; simp [rankP]
  | cons s l =>
    obtain ⟨b, nv, ov, rfl, hb, _⟩ := h
    have := (Array.getElem?_eq_some_iff.1 hb).1
    simp only [rankP]
    omega
/-- a scope in a new block -/
theorem ScopeAt.new {w : World} {B : Nat} {l : List Sc} {v nv : Value} {s : Sc} (h : ScopeAt w B l v) (ht : Texts w B nv s.names) :
    ScopeAt (w.alloc (.cells #[v, .int .i64 s.at', nv, .bool s.op] 146)) B (s :: l) (.pointer (some ⟨w.heap.size, 0, none⟩)) :=
  ⟨w.heap.size, nv, v, rfl, (Go.MapKept.heap_alloc w _).1, ht.bel ((Below.refl _ _).alloc (Nat.le_refl _) _), by have := h.rank; omega, h.bel ((Below.refl _ _).alloc (Nat.le_refl _) _)⟩

set_option maxHeartbeats 8000000 in
theorem node_with {w0 : World} {fb mb : Nat} {N : Nat → Nat} {L : List (Nat × Nat)} {Ok : ATree → Prop} {m : Nat} (hN : NodeSays w0 fb mb N L Ok m)
    (a : ATree) (B : Nat) (w : World) (S : List Sc) (sv : Value) (st : Bool) (out : List Us) (hm : a.many ≤ m + 1) (hok : ∀ k ∈ a.kids, Ok k) (hT : TreeAt w0 B a) (hnum : ∀ x ∈ a.subs, (x.b, N x.b) ∈ L) (hlen : out.length + a.many < 274877906944) (hF : FSt w0 fb mb N L out w) (hS : ScopeAt w w0.heap.size S sv)
    (h1 : a.kind = 9) (x y : ATree) (hk : a.kids = [x, y]) :
    Calls Tryd.prog 92 #[.pointer (some ⟨fb, 0, none⟩), a.ptr, sv, .bool st] w fun e w' => e = .returned (.tuple #[]) ∧ FSt w0 fb mb N L (out ++ nodeF N a S st) w' ∧ FFr w w' ∧ (nodeF N a S st).length ≤ a.many := by
  have hTw : TreeAt w B a := hT.keep fun k _ hk => hF.bel.block k hk
  have hmem : x ∈ a.kids ∧ y ∈ a.kids := by rw [hk]; simp
  have hdef : nodeF N a S st = nodeF N x S st ++ nodeF N y (⟨-2, [], true⟩ :: S) st := by
    obtain ⟨b, v, k, t, n, ks⟩ := a
    simp only [ATree.kind, ATree.kids] at h1 hk
    subst hk
    rw [nodeF.eq_def]
    simp [h1]
  have hmany : a.many = x.many + y.many + 1 := by
    obtain ⟨b, v, k, t, n, ks⟩ := a
    simp only [ATree.kids] at hk
    subst hk
    simp only [ATree.many, manyLA]
    omega
  obtain ⟨p, cp, hv, hge, hmx⟩ := hTw.vOf
  have hrow := hTw.rowOf
  obtain ⟨g, hp⟩ : ∃ g, p = some ⟨g, 0, none⟩ := by
    rcases ownsRow_cases hrow with ⟨_, h2⟩ | ⟨g, cap, h1, _⟩
    · rw [hk] at h2; simp at h2
    · rw [hv] at h1; simp only [Value.slice.injEq] at h1; exact ⟨g, h1.1⟩
  subst hp
  have c3 : w.cell? ⟨a.b, 3, none⟩ = some (.slice (some ⟨g, 0, none⟩) 2 cp) := by rw [show (2 : Nat) = a.kids.length by rw [hk]; rfl, ← hv]; exact hTw.c3
  have cx := ownsRow_cell1 hrow (g := g) (by rw [hv]; rfl) (i := 0) (x := x.ptr) (by rw [hk]; rfl)
  have cy := ownsRow_cell1 hrow (g := g) (by rw [hv]; rfl) (i := 1) (x := y.ptr) (by rw [hk]; rfl)
  have hge2 : 2 ≤ cp := by rw [hk] at hge; exact hge
  unfold maxLen at hmx
  have hlg := (World.ownsRow.lt hrow g (by rw [hv]; rfl)).2
  have HX := Lib.hid (hN x B w S sv st out (by omega) (hok x hmem.1) (hT.kid hmem.1) (fun z hz => hnum z (subs_kid hmem.1 hz)) (by omega) hF hS)
  have HY := Lib.hid (fun w1 S' sv' out' h1 h2 h3 => hN y B w1 S' sv' st out' (by omega) (hok y hmem.2) (hT.kid hmem.2) (fun z hz => hnum z (subs_kid hmem.2 hz)) h1 h2 h3)
  have hkeep : ∀ w1, FFr w w1 → w1.cell? ⟨a.b, 3, none⟩ = some (.slice (some ⟨g, 0, none⟩) 2 cp) ∧ w1.cell? ⟨g, 1, none⟩ = some y.ptr := fun w1 h => by
    obtain ⟨c, f, hb⟩ := Lib.ownsRow_kind hrow g (by rw [hv]; rfl)
    exact ⟨(World.cell?_of_block (h.cells a.b _ _ _ hTw.blkOf (by decide) (by decide))).trans c3, (World.cell?_of_block (h.cells g _ _ _ hb (by decide) (by decide))).trans cy⟩
  have HKEEP := Lib.hid hkeep
  have HD := Lib.hid hdef
  have d0 := hTw.c0
  rw [h1] at d0
  have f0 := hF.c0
  obtain ⟨pp, rfl⟩ := hS.ptr
  have HF := Lib.hid hF
  have HS := Lib.hid hS
  have HIN := Lib.hid (hnum a (subs_self a))
  have HMANY := Lib.hid hmany
  have HLEN := Lib.hid hlen
  unfold ATree.ptr at HX HY HKEEP cx cy ⊢
  clear hTw hdef hN hok hT hnum hF hS hm hlen h1 hk hrow hv hkeep hmany hmem hge
  go_enter Tryd.func92, Tryd.ntmps92
  go_wp2_with (at_lookup; go_must (refine wpList_lookup_node _ rfl _ _ rfl mb a.b (N a.b) L rfl rfl HF.out.map HF.out.number HF.out.nodup HIN.out ?_))
  refine HX.out.mono ?_
  rintro e w1 ⟨rfl, hI1, hR1, hL1⟩
  obtain ⟨k3, ky⟩ := HKEEP.out w1 hR1
  have HI1 := Lib.hid hI1
  have HR1 := Lib.hid hR1
  have HL1 := Lib.hid hL1
  have HS1 := Lib.hid (HS.out.ffr hR1)
  clear hI1 hR1 hL1 HX HKEEP
  go_wp2_with fail
  have HB := Lib.hid ((Below.refl w1.heap.size w1).alloc (Nat.le_refl _) (.cells #[.pointer pp, .int .i64 (-2), .slice none 0 0, .bool true] 146))
  refine (HY.out _ (⟨-2, [], true⟩ :: S) _ _ (by rw [List.length_append]; have := HL1.out; have := HMANY.out; have := HLEN.out; omega) (HI1.out.on HB.out) (HS1.out.new (s := ⟨-2, [], true⟩) (Texts.nil _ _))).mono ?_
  rintro e w2 ⟨rfl, hI2, hR2, hL2⟩
  have HI2 := Lib.hid hI2
  have HR2 := Lib.hid (HR1.out.trans ((FFr.bel HB.out).trans hR2))
  have HL2 := Lib.hid hL2
  clear hI2 hR2 hL2 HY
  go_wp2
  go_end0
  rw [HD.out, ← List.append_assoc]
  exact ⟨rfl, HI2.out, HR2.out, by rw [List.length_append]; have := HL1.out; have := HL2.out; have := HMANY.out; omega⟩
end Go.Proofs.YtgifgiipojedbaaDoor

namespace Go.Proofs.YtgifgiipojedbaaDoor
open Go Go.RowKit
set_option maxRecDepth 100000
set_option linter.unusedVariables false

theorem Texts.one {w : World} {B : Nat} (hB : B ≤ w.heap.size) (s : ByteArray) : Texts (w.alloc (.cells #[.string s] 9)) B (.slice (some ⟨w.heap.size, 0, none⟩) 1 1) [s] := by
  unfold Texts
  refine ⟨rfl, .inr ⟨w.heap.size, 1, _, rfl, hB, (Go.MapKept.heap_alloc w _).1, by simp, by unfold maxLen; omega, by simp, ?_⟩⟩
  simp

set_option maxHeartbeats 8000000 in
theorem node_catch {w0 : World} {fb mb : Nat} {N : Nat → Nat} {L : List (Nat × Nat)} {Ok : ATree → Prop} {m : Nat} (hK : KidsSays w0 fb mb N L Ok m)
    (a : ATree) (B : Nat) (w : World) (S : List Sc) (sv : Value) (st : Bool) (out : List Us) (hm : a.many ≤ m + 1) (hok : ∀ k ∈ a.kids, Ok k) (hT : TreeAt w0 B a) (hnum : ∀ x ∈ a.subs, (x.b, N x.b) ∈ L) (hlen : out.length + a.many < 274877906944) (hF : FSt w0 fb mb N L out w) (hS : ScopeAt w w0.heap.size S sv)
    (h1 : a.kind = 13) :
    Calls Tryd.prog 92 #[.pointer (some ⟨fb, 0, none⟩), a.ptr, sv, .bool st] w fun e w' => e = .returned (.tuple #[]) ∧ FSt w0 fb mb N L (out ++ nodeF N a S st) w' ∧ FFr w w' ∧ (nodeF N a S st).length ≤ a.many := by
  have hTw : TreeAt w B a := hT.keep fun k _ hk => hF.bel.block k hk
  have hdef : nodeF N a S st = kidsF N a.kids (⟨N a.b, [a.text], false⟩ :: S) st := by
    obtain ⟨b, v, k, t, n, ks⟩ := a
    simp only [ATree.kind] at h1
    rw [nodeF.eq_def]
    simp [h1, ATree.b, ATree.text, ATree.kids]
  have HC := Lib.hid (fun w1 S' sv' h1 h2 => hK a B w1 S' sv' st out hm hok hT hnum hlen h1 h2)
  have HD := Lib.hid hdef
  have d0 := hTw.c0
  have d1 := hTw.c1
  rw [h1] at d0
  have f0 := hF.c0
  obtain ⟨pp, rfl⟩ := hS.ptr
  have HF := Lib.hid hF
  have HS := Lib.hid hS
  have HIN := Lib.hid (hnum a (subs_self a))
  unfold ATree.ptr at HC ⊢
  obtain ⟨tx, htx⟩ : ∃ tx, tx = a.text := ⟨_, rfl⟩
  rw [← htx] at d1 HD
  have hb1 : Below w.heap.size w (w.alloc (.cells #[.string tx] 9)) := (Below.refl w.heap.size w).alloc (Nat.le_refl _) _
  have hsc := (HS.out.bel hb1).new (s := ⟨N a.b, [tx], false⟩) (Texts.one HF.out.bel.size tx)
  have hb2 : Below w.heap.size w ((w.alloc (.cells #[.string tx] 9)).alloc (.cells #[.pointer pp, .int .i64 (N a.b), .slice (some ⟨w.heap.size, 0, none⟩) 1 1, .bool false] 146)) := hb1.alloc (by simp) _
  rw [World.size_alloc] at hsc
  have HSC := Lib.hid hsc
  have HB2 := Lib.hid hb2
  clear hTw hdef hK hok hT hnum hF hS hm hlen h1 htx hb1 hsc hb2
  go_enter Tryd.func92, Tryd.ntmps92
  go_wp2_with (at_lookup; go_must (refine wpList_lookup_node _ rfl _ _ rfl mb a.b (N a.b) L rfl rfl HF.out.map HF.out.number HF.out.nodup HIN.out ?_))
  refine (HC.out _ (⟨N a.b, [tx], false⟩ :: S) _ (HF.out.on HB2.out) HSC.out).mono ?_
  rintro e w1 ⟨rfl, hI1, hR1, hL1⟩
  have HI1 := Lib.hid hI1
  have HR1 := Lib.hid ((FFr.bel HB2.out).trans hR1)
  have HL1 := Lib.hid hL1
  clear hI1 hR1 hL1 HC
  go_wp2
  go_end0
  rw [HD.out]
  exact ⟨rfl, HI1.out, HR1.out, by have := HL1.out; omega⟩
end Go.Proofs.YtgifgiipojedbaaDoor
