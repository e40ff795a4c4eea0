/- Package where: the finder's node: functions. -/
import Derived.Test.YtgifgiipojedbaaDoorJ14
import Derived.Laws.AppendOwnNone
namespace Go.Proofs.YtgifgiipojedbaaDoor
open Go Go.RowKit
set_option maxRecDepth 100000
set_option linter.unusedVariables false

theorem run_append_empty {P : Program} (w : World) (base : Nat) (t ty e : TypeId) (i : TypeInfo) (size : Nat) (ht : P.underlying t = some (.slice e)) (hi : P.info? e = some i)
    (v : Value) (n : Nat) (xs : List Value) (hown : w.ownsRow base e size v n xs) (p : Option Addr) (c : Nat) :
    (Builtin.append_ #[t, t] ty #[v, .slice p 0 c]).run P w = .ok v w := by
  rcases hown.2 with ⟨rfl, rfl⟩ | ⟨g, cap, cur, rfl, _, _, hnc, _⟩
  · cases p <;> simp [Builtin.append_, run_underlying ht, sizeOf, typeInfo, hi, Builtin.lenOf, Builtin.firstCells, loadCells, loadCellsFrom, Result.andThen]
  · cases p <;> simp [Builtin.append_, run_underlying ht, sizeOf, typeInfo, hi, Builtin.lenOf, Builtin.firstCells, hnc, storeCells, loadCells, loadCellsFrom, Result.andThen]
/-- 'append' of a row of no length -/
theorem wpList_append_empty {P : Program} {w : World} {ops : Array Oper} {rest : List Oper} {o : Oper} {a : Act} {Q : Exit → Act → World → Prop} (hgd : o.guard = none) (s x : Operand) (t : TypeId)
    (ho : o.op = .call { callee := .builtin .append, args := #[s, x], argTypes := #[t, t] })
    (base : Nat) (e : TypeId) (i : TypeInfo) (size : Nat) (ht : P.underlying t = some (.slice e)) (hi : P.info? e = some i)
    (v : Value) (n : Nat) (xs : List Value) (hs : a.eval s = v) (hown : w.ownsRow base e size v n xs) (p : Option Addr) (c : Nat) (hx : a.eval x = .slice p 0 c)
    (h : wpList P ops Q rest (a.put o.dst v) w) : wpList P ops Q (o :: rest) a w := by
  refine wpList_plain hgd fun K hK => ?_
  have hrun := run_append_empty (P := P) w base t o.type e i size ht hi v n xs hown p c
  unfold Oper.wp
  simp [execOp, ho, resolve, invoke, builtin, hs, hx, hrun, Result.andThen]
  exact hK _ _ h
theorem Texts.join {w : World} {B : Nat} {v : Value} {l m : List ByteArray} (h : w.ownsRow B 9 1 v (l.length + m.length) (l.map Value.string ++ m.map Value.string)) : Texts w B v (l ++ m) := by
  unfold Texts
  rw [List.length_append, List.map_append]
  exact h

mutual
theorem vars_lenA : ∀ (a : ATree) (l : List ByteArray), (walkA varsG a l).length ≤ l.length + a.many
  | .mk b v k t n ks, l => by
    have h : (varsG l (.mk b v k t n ks)).2.length ≤ l.length + 1 := by
      unfold varsG
      simp only
      split
      · exact addL_len _ _
      · omega
    simp only [walkA, ATree.many]
    split
    · have := vars_lenL ks (varsG l (.mk b v k t n ks)).2
      omega
    · omega
theorem vars_lenL : ∀ (ks : List ATree) (l : List ByteArray), (walkL varsG ks l).length ≤ l.length + manyLA ks
  | [], l => by simp [walkL, manyLA]
  | a :: ks, l => by
    simp only [walkL, manyLA]
    have h1 := vars_lenL ks (walkA varsG a l)
    have h2 := vars_lenA a l
    omega
end
theorem namesF_len (a : ATree) : (namesF true a).length ≤ 3 * a.many := by
  unfold namesF
  simp only [if_true]
  have h1 := addsL_len (addsL (varsF a) (a.kids.filter isFunc)) (a.kids.filter isLet)
  have h2 := addsL_len (varsF a) (a.kids.filter isFunc)
  have h3 : (varsF a).length ≤ a.many := by
    have h := vars_lenL a.kids []
    have h4 : a.many = manyLA a.kids + 1 := by obtain ⟨b, v, k, t, n, ks⟩ := a; rfl
    have h5 : varsF a = walkL varsG a.kids [] := rfl
    rw [h5, h4]
    simpa using Nat.le_succ_of_le h
  have h4 : (a.kids.filter isFunc).length ≤ a.kids.length := List.length_filter_le _ _
  have h5 : (a.kids.filter isLet).length ≤ a.kids.length := List.length_filter_le _ _
  have h6 := kids_le a
  omega

set_option maxHeartbeats 16000000 in
theorem node_func_a {w0 : World} {fb mb : Nat} {N : Nat → Nat} {L : List (Nat × Nat)} {Ok : ATree → Prop} {m : Nat} (hK : KidsSays w0 fb mb N L Ok m)
    (a : ATree) (B : Nat) (w : World) (S : List Sc) (sv : Value) (out : List Us) (hm : a.many ≤ m + 1) (hT : TreeAt w0 B a) (hnum : ∀ x ∈ a.subs, (x.b, N x.b) ∈ L) (hlen : out.length + a.many < 274877906944) (hF : FSt w0 fb mb N L out w) (hS : ScopeAt w w0.heap.size S sv)
    (h1 : a.kind = 5) (ps bd : ATree) (hk : a.kids = [ps, bd]) (hok : ∀ k ∈ bd.kids, Ok k) (hcall : CallKids bd) :
    Calls Tryd.prog 92 #[.pointer (some ⟨fb, 0, none⟩), a.ptr, sv, .bool true] w fun e w' => e = .returned (.tuple #[]) ∧ FSt w0 fb mb N L (out ++ nodeF N a S true) w' ∧ FFr w w' ∧ (nodeF N a S true).length ≤ a.many := by
  obtain ⟨i0, hi, hz0, hz1, hz2⟩ := info_parts Tryd.infoStr
  have hTw : TreeAt w B a := hT.keep fun k _ hk => hF.bel.block k hk
  have hmem : ps ∈ a.kids ∧ bd ∈ a.kids := by rw [hk]; simp
  have hdef : nodeF N a S true = kidsF N bd.kids (⟨N a.b, (s_arguments :: ps.kids.map ATree.text) ++ namesF true bd, false⟩ :: S) (true) := by
    obtain ⟨b, v, k, t, n, ks⟩ := a
    obtain ⟨b2, v2, k2, t2, n2, ks2⟩ := bd
    obtain ⟨b1, v1, k1, t1, n1, ks1⟩ := ps
    simp only [ATree.kind, ATree.kids] at *
    subst hk
    subst h1
    rw [nodeF.eq_def]
    simp [ATree.b, ATree.kids]
  have hmany : a.many = ps.many + bd.many + 1 := by
    obtain ⟨b, v, k, t, n, ks⟩ := a
    simp only [ATree.kids] at hk
    subst hk
    simp only [ATree.many, manyLA]
    omega
  obtain ⟨p, cp, hv, hge, hmx⟩ := hTw.vOf
  have hrow := hTw.rowOf
  obtain ⟨g, hp⟩ : ∃ g, p = some ⟨g, 0, none⟩ := by
    rcases ownsRow_cases hrow with ⟨_, h2⟩ | ⟨g, cap, h1, _⟩
    · rw [hk] at h2; simp at h2
    · rw [hv] at h1; simp only [Value.slice.injEq] at h1; exact ⟨g, h1.1⟩
  subst hp
  have c3 : w.cell? ⟨a.b, 3, none⟩ = some (.slice (some ⟨g, 0, none⟩) 2 cp) := by rw [show (2 : Nat) = a.kids.length by rw [hk]; rfl, ← hv]; exact hTw.c3
  have cx := ownsRow_cell1 hrow (g := g) (by rw [hv]; rfl) (i := 0) (x := ps.ptr) (by rw [hk]; rfl)
  have cy := ownsRow_cell1 hrow (g := g) (by rw [hv]; rfl) (i := 1) (x := bd.ptr) (by rw [hk]; rfl)
  have hge2 : 2 ≤ cp := by rw [hk] at hge; exact hge
  unfold maxLen at hmx
  have hlg := (World.ownsRow.lt hrow g (by rw [hv]; rfl)).2
  have hTp := hTw.kid hmem.1
  obtain ⟨p2, cp2, hv2, hge3, hmx2⟩ := hTp.vOf
  have p3 : w.cell? ⟨ps.b, 3, none⟩ = some (.slice p2 ps.kids.length cp2) := by rw [← hv2]; exact hTp.c3
  have hkl := kids_le ps
  have hlen2 : ps.kids.length ≤ 9223372036854775807 := by unfold maxLen at hmx2; omega
  have hql : ps.kids.length < 274877906944 := by omega
  have HV2 := Lib.hid hv2
  have hkeep : ∀ W, Below w.heap.size w W → W.cell? ⟨a.b, 3, none⟩ = some (.slice (some ⟨g, 0, none⟩) 2 cp) ∧ W.cell? ⟨g, 0, none⟩ = some ps.ptr ∧ W.cell? ⟨g, 1, none⟩ = some bd.ptr ∧ W.cell? ⟨ps.b, 3, none⟩ = some (.slice p2 ps.kids.length cp2) := fun W h =>
    ⟨(World.cell?_of_block (h.block a.b hTw.lt)).trans c3, (World.cell?_of_block (h.block g hlg)).trans cx, (World.cell?_of_block (h.block g hlg)).trans cy, (World.cell?_of_block (h.block ps.b hTp.lt)).trans p3⟩
  have HC := Lib.hid (fun w1 S' sv' st' h1 h2 => hK bd B w1 S' sv' st' out (by omega) hok (hT.kid hmem.2) (fun z hz => hnum z (subs_kid hmem.2 hz)) (by omega) h1 h2)
  have HN := Lib.hid (fun wr (h : TreeAt wr B bd) => names_any true wr B bd h (by omega))
  have d0 := hTw.c0
  rw [h1] at d0
  have f0 := hF.c0
  obtain ⟨pp, rfl⟩ := hS.ptr
  have hb1 : Below w.heap.size w w := Below.refl _ _
  have hsc := hS
  obtain ⟨k3, _, ky, _⟩ := hkeep _ hb1
  obtain ⟨l3, lx, _, l4⟩ := hkeep (w.alloc (.cells #[.string ⟨#[97, 114, 103, 117, 109, 101, 110, 116, 115]⟩] 9)) (hb1.alloc hb1.size _)
  obtain ⟨z, hzz⟩ : ∃ z, z = w.heap.size := ⟨_, rfl⟩
  have hall : ∀ W, Below z w W → TreeAt W B ps ∧ TreeAt W B bd ∧ FSt w0 fb mb N L out W ∧ ScopeAt W w0.heap.size S (.pointer pp) ∧ FFr w W ∧ z ≤ W.heap.size ∧ w0.heap.size ≤ z := fun W hW => by
    rw [hzz] at hW
    have h2 : Below w.heap.size w W := hb1.trans (hW.mono hb1.size)
    exact ⟨hTp.bel h2, (hTw.kid hmem.2).bel h2, hF.on h2, hsc.bel hW, FFr.bel h2, by rw [hzz]; exact hW.size, by rw [hzz]; exact Nat.le_trans hF.bel.size hb1.size⟩
  have hst : Below z w (w.alloc (.cells #[.string ⟨#[97, 114, 103, 117, 109, 101, 110, 116, 115]⟩] 9)) := (Below.refl z _).alloc (by rw [hzz]; exact Nat.le_refl _) _
  have htx0 : Texts (w.alloc (.cells #[.string ⟨#[97, 114, 103, 117, 109, 101, 110, 116, 115]⟩] 9)) z (.slice (some ⟨w.heap.size, 0, none⟩) 1 1) [s_arguments] := Texts.one (by rw [hzz]; exact Nat.le_refl _) s_arguments
  have HALL := Lib.hid hall
  have HST0 := Lib.hid hst
  have HTX0 := Lib.hid htx0
  have HB1 := Lib.hid hb1
  have HD := Lib.hid hdef
  have HF := Lib.hid hF
  have HIN := Lib.hid (hnum a (subs_self a))
  have HMANY := Lib.hid hmany
  have HLEN := Lib.hid hlen
  unfold ATree.ptr at HC HN ky lx ⊢
  obtain ⟨q, hq⟩ : ∃ q, q = ps.kids.length := ⟨_, rfl⟩
  rw [← hq] at l4 hlen2 hge3 hql
  have HQ := Lib.hid hq
  have HZ := Lib.hid hzz
  clear hTw hdef hK hok hT hnum hF hS hm hlen h1 hk hrow hv hkeep hmany hmem hge hcall c3 cx cy p3 hTp hv2 hall hst htx0 hb1 hsc hq hkl hzz
  go_enter Tryd.func92, Tryd.ntmps92
  go_wp2_with (at_lookup; go_must (refine wpList_lookup_node _ rfl _ _ rfl mb a.b (N a.b) L rfl rfl HF.out.map HF.out.number HF.out.nodup HIN.out ?_))
  go_loopw [11, 149] (fun v i wr => ∃ (k : Nat) (v' : Value), v' = v ∧ k ≤ q ∧ i = .int .i64 k ∧ Hid (Texts wr z v' (s_arguments :: (ps.kids.take k).map ATree.text)) ∧ Hid (Below z w wr)) (fun _ i _ => q - (intOf i).toNat)
  case atStart => exact ⟨0, _, rfl, Nat.zero_le _, rfl, HTX0, HST0⟩
  case round =>
    obtain ⟨k, v, rfl, hk, rfl, TX, HB⟩ := hrel
    clear HTX0 HST0
    by_cases hkn : k < q
    · obtain ⟨x, hx⟩ : ∃ x, ps.kids[k]? = some x := ⟨_, List.getElem?_eq_getElem (by rw [← HQ.out]; exact hkn)⟩
      obtain ⟨hTp, _, _, _, _, hsz, _⟩ := HALL.out _ HB.out
      have hrow := hTp.rowOf
      rcases ownsRow_cases hrow with ⟨_, h2⟩ | ⟨g0, cap0, hv0, _⟩
      · rw [← HQ.out] at h2; omega
      have hp : p2 = some ⟨g0, 0, none⟩ := by
        have := HV2.out.symm.trans hv0
        simp only [Value.slice.injEq] at this
        exact this.1
      subst hp
      have cx := ownsRow_cell1 hrow (g := g0) (by rw [hv0]; rfl) (i := k) (x := x.ptr) (by rw [List.getElem?_map, hx]; rfl)
      unfold ATree.ptr at cx
      have c1 := (hTp.kid (List.mem_of_getElem? hx)).c1
      have HX := Lib.hid hx
      obtain ⟨L0, hL⟩ : ∃ L0, L0 = s_arguments :: (ps.kids.take k).map ATree.text := ⟨_, rfl⟩
      have hll : L0.length ≤ k + 1 := by rw [hL]; simp; omega
      rw [← hL] at TX
      have HLL := Lib.hid hL
      have TX2 := TX
      unfold Texts at TX
      clear hTp hrow hv0 hx hL
      go_wp2_with (at_builtin; go_must (refine wpList_append_lies _ rfl (.tmp 153) (.tmp 158) 66 rfl z 9 i0 (.string ByteArray.empty) 1 16 Tryd.underlying66 hi hz0 hz1 hz2 rfl (by decide) v L0.length (L0.map Value.string) rfl (TX.out.alloc _) ⟨wr.heap.size, 0, none⟩ 1 1 [.string x.text] rfl rfl (fun j u hu => cell_one_new wr _ _ j u hu) (by intro u hu; simp at hu; subst hu; rfl) (by first | omega | (simp; omega)) (by unfold maxLen; omega) (by first | omega | (simp; omega)) (by first | omega | (simp; omega)) (wr.heap.size + 1) (by simp) ?_); intro g cap w3 hown2 hgrow2 hat2 hgl2; have HG := Lib.hid hgrow2; have HW := Lib.hid hown2; clear hgrow2 hown2 hat2 hgl2)
      go_roundw
      case rel =>
        refine ⟨k + 1, _, rfl, by omega, by go_num, Lib.hid ?_, Lib.hid ?_⟩
        · rw [take_succ_kid HX.out, List.map_append, ← List.cons_append, ← HLL.out]
          exact texts_push HW.out
        · exact (HB.out.alloc hsz _).grown HG.out (by simp; omega) fun j hj => (World.ownsRow.lt TX.out j hj).1
      case measure => simp [intOf]; omega
    · have hk2 : k = q := by omega
      subst hk2
      have htx : Texts wr z v (s_arguments :: ps.kids.map ATree.text) := by
        have := TX.out
        rwa [List.take_of_length_le (by rw [← HQ.out]; exact Nat.le_refl _)] at this
      have TX1 := Lib.hid htx
      obtain ⟨L0, hL⟩ : ∃ L0, L0 = s_arguments :: ps.kids.map ATree.text := ⟨_, rfl⟩
      have hll : L0.length ≤ k + 1 := by rw [hL]; simp [HQ.out]
      rw [← hL] at TX1
      have HLL := Lib.hid hL
      clear htx hL TX
      go_wp2_with fail
      refine (HN.out wr (HALL.out _ HB.out).2.1).mono ?_
      rintro e w3 ⟨v3, rfl, ht3, hb3⟩
      have hsz3 := (HALL.out _ HB.out).2.2.2.2.2.1
      have HB3 := Lib.hid (HB.out.trans (hb3.mono hsz3))
      have TX3 := Lib.hid (TX1.out.bel hb3)
      obtain ⟨p3, cp3, rfl, hge4, hmx4⟩ : ∃ p cp, v3 = .slice p (namesF true bd).length cp ∧ (namesF true bd).length ≤ cp ∧ cp ≤ maxLen := by
        rcases ht3.form with ⟨h1, h2⟩ | ⟨g, cap, h1, h2, h3⟩
        · exact ⟨none, 0, by rw [h1, h2]; rfl, by rw [h2]; exact Nat.le_refl _, by unfold maxLen; omega⟩
        · exact ⟨_, _, h1, h2, h3⟩
      have hnl := namesF_len bd
      have hml2 := HMANY.out
      have hlen3 := HLEN.out
      obtain ⟨nm, hnm⟩ : ∃ nm, nm = namesF true bd := ⟨_, rfl⟩
      rw [← hnm] at ht3 hge4 hnl ⊢
      have HNMD := Lib.hid hnm
      have HT3 := Lib.hid ht3
      clear ht3 hnm hb3 TX1 HB
      have hend : ∀ (w4 : World) (v4 : Value), Hid (Texts w4 z v4 (L0 ++ nm)) → Hid (Below z w w4) → ∀ (op : Bool), Hid (ScopeAt (w4.alloc (.cells #[.pointer pp, .int .i64 (N a.b), v4, .bool op] 146)) w0.heap.size (⟨N a.b, L0 ++ nm, op⟩ :: S) (.pointer (some ⟨w4.heap.size, 0, none⟩)) ∧ FSt w0 fb mb N L out (w4.alloc (.cells #[.pointer pp, .int .i64 (N a.b), v4, .bool op] 146)) ∧ FFr w (w4.alloc (.cells #[.pointer pp, .int .i64 (N a.b), v4, .bool op] 146))) := fun w4 v4 h1 h2 op => Lib.hid (by
        obtain ⟨_, _, _, hs, _, hz, hz2⟩ := HALL.out _ h2.out
        have h3 := h2.out.alloc hz (.cells #[.pointer pp, .int .i64 (N a.b), v4, .bool op] 146)
        obtain ⟨_, _, hf, _, hr, _, _⟩ := HALL.out _ h3
        exact ⟨hs.new (s := ⟨N a.b, L0 ++ nm, op⟩) (h1.out.base hz2), hf, hr⟩)
      by_cases hpos : 0 < nm.length
      · obtain ⟨g4, hp⟩ : ∃ g, p3 = some ⟨g, 0, none⟩ := by
          rcases HT3.out.form with ⟨h1, h2⟩ | ⟨g, cap, h1, _, _⟩
          · rw [h2] at hpos; simp at hpos
          · simp only [Value.slice.injEq] at h1; exact ⟨g, h1.1⟩
        subst hp
        have hnews : Hid (∀ j u, (nm.map Value.string)[j]? = some u → w3.cell? ((⟨g4, 0, none⟩ : Addr).add j) = some u) := Lib.hid fun j u hu => World.ownsRow.cells HT3.out rfl j u hu
        have TX5 := TX3
        unfold Texts at TX5
        have hszz : Hid (z ≤ w3.heap.size) := Lib.hid (HALL.out _ HB3.out).2.2.2.2.2.1
        unfold maxLen at hmx4
        go_wp2_with (at_builtin; go_must (refine wpList_append_lies _ rfl (.tmp 161) (.tmp 163) 66 rfl z 9 i0 (.string ByteArray.empty) 1 16 Tryd.underlying66 hi hz0 hz1 hz2 rfl (by decide) v L0.length (L0.map Value.string) rfl TX5.out ⟨g4, 0, none⟩ nm.length cp3 (nm.map Value.string) rfl (by simp) hnews.out (by intro u hu; obtain ⟨x, _, rfl⟩ := List.mem_map.1 hu; rfl) hpos (by unfold maxLen; omega) (by omega) hszz.out w3.heap.size rfl ?_); intro g5 cap5 w4 hown4 hgrow4 hat4 hgl4; have HG := Lib.hid hgrow4; have HW := Lib.hid hown4; clear hgrow4 hown4 hat4 hgl4)
        have TX4 := Lib.hid (Texts.join HW.out)
        have HB4 := Lib.hid (HB3.out.grown HG.out hszz.out fun j hj => (World.ownsRow.lt TX5.out j hj).1)
        have HE := hend _ _ TX4 HB4 false
        clear hend
        refine (HC.out _ (⟨N a.b, L0 ++ nm, false⟩ :: S) _ true HE.out.2.1 HE.out.1).mono ?_
        rintro e w6 ⟨rfl, hI6, hR6, hL6⟩
        have HI6 := Lib.hid hI6
        have HR6 := Lib.hid (HE.out.2.2.trans hR6)
        have HL6 := Lib.hid hL6
        clear hI6 hR6 hL6 HC HE
        go_wp2
        go_end0
        rw [HD.out]
        rw [← HNMD.out, ← HLL.out]
        exact ⟨rfl, HI6.out, HR6.out, by have := HL6.out; have := HMANY.out; omega⟩
      · have hn0 : nm = [] := List.eq_nil_of_length_eq_zero (by omega)
        subst hn0
        obtain ⟨pv, nv, cv, rfl⟩ := TX3.out.slice
        have TX4 : Hid (Texts w3 z (.slice pv nv cv) (L0 ++ [])) := by rw [List.append_nil]; exact TX3
        have HB4 := HB3
        have TX5 := TX3
        unfold Texts at TX5
        simp only [List.length_nil]
        go_wp2_with (at_builtin; go_must (refine wpList_append_empty rfl (.tmp 161) (.tmp 163) 66 rfl z 9 i0 1 Tryd.underlying66 hi (.slice pv nv cv) L0.length (L0.map Value.string) rfl TX5.out p3 cp3 rfl ?_))
        have HE := hend _ _ TX4 HB4 false
        clear hend
        refine (HC.out _ (⟨N a.b, L0 ++ [], false⟩ :: S) _ true HE.out.2.1 HE.out.1).mono ?_
        rintro e w6 ⟨rfl, hI6, hR6, hL6⟩
        have HI6 := Lib.hid hI6
        have HR6 := Lib.hid (HE.out.2.2.trans hR6)
        have HL6 := Lib.hid hL6
        clear hI6 hR6 hL6 HC HE
        go_wp2
        go_end0
        rw [HD.out]
        rw [← HNMD.out, ← HLL.out]
        exact ⟨rfl, HI6.out, HR6.out, by have := HL6.out; have := HMANY.out; omega⟩

set_option maxHeartbeats 16000000 in
theorem node_func_b {w0 : World} {fb mb : Nat} {N : Nat → Nat} {L : List (Nat × Nat)} {Ok : ATree → Prop} {m : Nat} (hK : KidsSays w0 fb mb N L Ok m)
    (a : ATree) (B : Nat) (w : World) (S : List Sc) (sv : Value) (out : List Us) (hm : a.many ≤ m + 1) (hT : TreeAt w0 B a) (hnum : ∀ x ∈ a.subs, (x.b, N x.b) ∈ L) (hlen : out.length + a.many < 274877906944) (hF : FSt w0 fb mb N L out w) (hS : ScopeAt w w0.heap.size S sv)
    (h1 : a.kind = 5) (ps bd : ATree) (hk : a.kids = [ps, bd]) (hok : ∀ k ∈ bd.kids, Ok k) (hcall : CallKids bd) :
    Calls Tryd.prog 92 #[.pointer (some ⟨fb, 0, none⟩), a.ptr, sv, .bool false] w fun e w' => e = .returned (.tuple #[]) ∧ FSt w0 fb mb N L (out ++ nodeF N a S false) w' ∧ FFr w w' ∧ (nodeF N a S false).length ≤ a.many := by
  obtain ⟨i0, hi, hz0, hz1, hz2⟩ := info_parts Tryd.infoStr
  have hTw : TreeAt w B a := hT.keep fun k _ hk => hF.bel.block k hk
  have hmem : ps ∈ a.kids ∧ bd ∈ a.kids := by rw [hk]; simp
  have hdef : nodeF N a S false = kidsF N bd.kids (⟨N a.b, (s_arguments :: ps.kids.map ATree.text) ++ namesF true bd, (!isStrict bd && evalsF bd)⟩ :: S) (isStrict bd) := by
    obtain ⟨b, v, k, t, n, ks⟩ := a
    obtain ⟨b2, v2, k2, t2, n2, ks2⟩ := bd
    obtain ⟨b1, v1, k1, t1, n1, ks1⟩ := ps
    simp only [ATree.kind, ATree.kids] at *
    subst hk
    subst h1
    rw [nodeF.eq_def]
    simp [ATree.b, ATree.kids]
  have hmany : a.many = ps.many + bd.many + 1 := by
    obtain ⟨b, v, k, t, n, ks⟩ := a
    simp only [ATree.kids] at hk
    subst hk
    simp only [ATree.many, manyLA]
    omega
  obtain ⟨p, cp, hv, hge, hmx⟩ := hTw.vOf
  have hrow := hTw.rowOf
  obtain ⟨g, hp⟩ : ∃ g, p = some ⟨g, 0, none⟩ := by
    rcases ownsRow_cases hrow with ⟨_, h2⟩ | ⟨g, cap, h1, _⟩
    · rw [hk] at h2; simp at h2
    · rw [hv] at h1; simp only [Value.slice.injEq] at h1; exact ⟨g, h1.1⟩
  subst hp
  have c3 : w.cell? ⟨a.b, 3, none⟩ = some (.slice (some ⟨g, 0, none⟩) 2 cp) := by rw [show (2 : Nat) = a.kids.length by rw [hk]; rfl, ← hv]; exact hTw.c3
  have cx := ownsRow_cell1 hrow (g := g) (by rw [hv]; rfl) (i := 0) (x := ps.ptr) (by rw [hk]; rfl)
  have cy := ownsRow_cell1 hrow (g := g) (by rw [hv]; rfl) (i := 1) (x := bd.ptr) (by rw [hk]; rfl)
  have hge2 : 2 ≤ cp := by rw [hk] at hge; exact hge
  unfold maxLen at hmx
  have hlg := (World.ownsRow.lt hrow g (by rw [hv]; rfl)).2
  have hTp := hTw.kid hmem.1
  obtain ⟨p2, cp2, hv2, hge3, hmx2⟩ := hTp.vOf
  have p3 : w.cell? ⟨ps.b, 3, none⟩ = some (.slice p2 ps.kids.length cp2) := by rw [← hv2]; exact hTp.c3
  have hkl := kids_le ps
  have hlen2 : ps.kids.length ≤ 9223372036854775807 := by unfold maxLen at hmx2; omega
  have hql : ps.kids.length < 274877906944 := by omega
  have HV2 := Lib.hid hv2
  have hkeep : ∀ W, Below w.heap.size w W → W.cell? ⟨a.b, 3, none⟩ = some (.slice (some ⟨g, 0, none⟩) 2 cp) ∧ W.cell? ⟨g, 0, none⟩ = some ps.ptr ∧ W.cell? ⟨g, 1, none⟩ = some bd.ptr ∧ W.cell? ⟨ps.b, 3, none⟩ = some (.slice p2 ps.kids.length cp2) := fun W h =>
    ⟨(World.cell?_of_block (h.block a.b hTw.lt)).trans c3, (World.cell?_of_block (h.block g hlg)).trans cx, (World.cell?_of_block (h.block g hlg)).trans cy, (World.cell?_of_block (h.block ps.b hTp.lt)).trans p3⟩
  have HC := Lib.hid (fun w1 S' sv' st' h1 h2 => hK bd B w1 S' sv' st' out (by omega) hok (hT.kid hmem.2) (fun z hz => hnum z (subs_kid hmem.2 hz)) (by omega) h1 h2)
  have HN := Lib.hid (fun wr (h : TreeAt wr B bd) => names_any true wr B bd h (by omega))
  have HEV := Lib.hid (fun wr (h : TreeAt wr B bd) => evals_any wr B bd h hcall)
  have HST := Lib.hid (fun wr (h : TreeAt wr B bd) => strict_any wr B bd h)
  obtain ⟨sb, hsb⟩ : ∃ sb, sb = isStrict bd := ⟨_, rfl⟩
  rw [← hsb] at HST hdef
  clear hsb
  have d0 := hTw.c0
  rw [h1] at d0
  have f0 := hF.c0
  obtain ⟨pp, rfl⟩ := hS.ptr
  have hb1 : Below w.heap.size w w := Below.refl _ _
  have hsc := hS
  obtain ⟨k3, _, ky, _⟩ := hkeep _ hb1
  obtain ⟨l3, lx, _, l4⟩ := hkeep (w.alloc (.cells #[.string ⟨#[97, 114, 103, 117, 109, 101, 110, 116, 115]⟩] 9)) (hb1.alloc hb1.size _)
  obtain ⟨z, hzz⟩ : ∃ z, z = w.heap.size := ⟨_, rfl⟩
  have hall : ∀ W, Below z w W → TreeAt W B ps ∧ TreeAt W B bd ∧ FSt w0 fb mb N L out W ∧ ScopeAt W w0.heap.size S (.pointer pp) ∧ FFr w W ∧ z ≤ W.heap.size ∧ w0.heap.size ≤ z := fun W hW => by
    rw [hzz] at hW
    have h2 : Below w.heap.size w W := hb1.trans (hW.mono hb1.size)
    exact ⟨hTp.bel h2, (hTw.kid hmem.2).bel h2, hF.on h2, hsc.bel hW, FFr.bel h2, by rw [hzz]; exact hW.size, by rw [hzz]; exact Nat.le_trans hF.bel.size hb1.size⟩
  have hst : Below z w (w.alloc (.cells #[.string ⟨#[97, 114, 103, 117, 109, 101, 110, 116, 115]⟩] 9)) := (Below.refl z _).alloc (by rw [hzz]; exact Nat.le_refl _) _
  have htx0 : Texts (w.alloc (.cells #[.string ⟨#[97, 114, 103, 117, 109, 101, 110, 116, 115]⟩] 9)) z (.slice (some ⟨w.heap.size, 0, none⟩) 1 1) [s_arguments] := Texts.one (by rw [hzz]; exact Nat.le_refl _) s_arguments
  have HALL := Lib.hid hall
  have HST0 := Lib.hid hst
  have HTX0 := Lib.hid htx0
  have HB1 := Lib.hid hb1
  have HD := Lib.hid hdef
  have HF := Lib.hid hF
  have HIN := Lib.hid (hnum a (subs_self a))
  have HMANY := Lib.hid hmany
  have HLEN := Lib.hid hlen
  unfold ATree.ptr at HC HN ky lx HEV HST ⊢
  obtain ⟨q, hq⟩ : ∃ q, q = ps.kids.length := ⟨_, rfl⟩
  rw [← hq] at l4 hlen2 hge3 hql
  have HQ := Lib.hid hq
  have HZ := Lib.hid hzz
  clear hTw hdef hK hok hT hnum hF hS hm hlen h1 hk hrow hv hkeep hmany hmem hge hcall c3 cx cy p3 hTp hv2 hall hst htx0 hb1 hsc hq hkl hzz
  go_enter Tryd.func92, Tryd.ntmps92
  go_wp2_with (at_lookup; go_must (refine wpList_lookup_node _ rfl _ _ rfl mb a.b (N a.b) L rfl rfl HF.out.map HF.out.number HF.out.nodup HIN.out ?_))
  refine (HST.out _ (HALL.out _ (Below.refl _ _)).2.1).mono ?_
  rintro e w' ⟨rfl, hww⟩
  rw [hww]
  clear hww
  go_wp2_with fail
  go_loopw [11, 149] (fun v i wr => ∃ (k : Nat) (v' : Value), v' = v ∧ k ≤ q ∧ i = .int .i64 k ∧ Hid (Texts wr z v' (s_arguments :: (ps.kids.take k).map ATree.text)) ∧ Hid (Below z w wr)) (fun _ i _ => q - (intOf i).toNat)
  case atStart => exact ⟨0, _, rfl, Nat.zero_le _, rfl, HTX0, HST0⟩
  case round =>
    obtain ⟨k, v, rfl, hk, rfl, TX, HB⟩ := hrel
    clear HTX0 HST0
    by_cases hkn : k < q
    · obtain ⟨x, hx⟩ : ∃ x, ps.kids[k]? = some x := ⟨_, List.getElem?_eq_getElem (by rw [← HQ.out]; exact hkn)⟩
      obtain ⟨hTp, _, _, _, _, hsz, _⟩ := HALL.out _ HB.out
      have hrow := hTp.rowOf
      rcases ownsRow_cases hrow with ⟨_, h2⟩ | ⟨g0, cap0, hv0, _⟩
      · rw [← HQ.out] at h2; omega
      have hp : p2 = some ⟨g0, 0, none⟩ := by
        have := HV2.out.symm.trans hv0
        simp only [Value.slice.injEq] at this
        exact this.1
      subst hp
      have cx := ownsRow_cell1 hrow (g := g0) (by rw [hv0]; rfl) (i := k) (x := x.ptr) (by rw [List.getElem?_map, hx]; rfl)
      unfold ATree.ptr at cx
      have c1 := (hTp.kid (List.mem_of_getElem? hx)).c1
      have HX := Lib.hid hx
      obtain ⟨L0, hL⟩ : ∃ L0, L0 = s_arguments :: (ps.kids.take k).map ATree.text := ⟨_, rfl⟩
      have hll : L0.length ≤ k + 1 := by rw [hL]; simp; omega
      rw [← hL] at TX
      have HLL := Lib.hid hL
      have TX2 := TX
      unfold Texts at TX
      clear hTp hrow hv0 hx hL
      go_wp2_with (at_builtin; go_must (refine wpList_append_lies _ rfl (.tmp 153) (.tmp 158) 66 rfl z 9 i0 (.string ByteArray.empty) 1 16 Tryd.underlying66 hi hz0 hz1 hz2 rfl (by decide) v L0.length (L0.map Value.string) rfl (TX.out.alloc _) ⟨wr.heap.size, 0, none⟩ 1 1 [.string x.text] rfl rfl (fun j u hu => cell_one_new wr _ _ j u hu) (by intro u hu; simp at hu; subst hu; rfl) (by first | omega | (simp; omega)) (by unfold maxLen; omega) (by first | omega | (simp; omega)) (by first | omega | (simp; omega)) (wr.heap.size + 1) (by simp) ?_); intro g cap w3 hown2 hgrow2 hat2 hgl2; have HG := Lib.hid hgrow2; have HW := Lib.hid hown2; clear hgrow2 hown2 hat2 hgl2)
      go_roundw
      case rel =>
        refine ⟨k + 1, _, rfl, by omega, by go_num, Lib.hid ?_, Lib.hid ?_⟩
        · rw [take_succ_kid HX.out, List.map_append, ← List.cons_append, ← HLL.out]
          exact texts_push HW.out
        · exact (HB.out.alloc hsz _).grown HG.out (by simp; omega) fun j hj => (World.ownsRow.lt TX.out j hj).1
      case measure => simp [intOf]; omega
    · have hk2 : k = q := by omega
      subst hk2
      have htx : Texts wr z v (s_arguments :: ps.kids.map ATree.text) := by
        have := TX.out
        rwa [List.take_of_length_le (by rw [← HQ.out]; exact Nat.le_refl _)] at this
      have TX1 := Lib.hid htx
      obtain ⟨L0, hL⟩ : ∃ L0, L0 = s_arguments :: ps.kids.map ATree.text := ⟨_, rfl⟩
      have hll : L0.length ≤ k + 1 := by rw [hL]; simp [HQ.out]
      rw [← hL] at TX1
      have HLL := Lib.hid hL
      clear htx hL TX
      go_wp2_with fail
      refine (HN.out wr (HALL.out _ HB.out).2.1).mono ?_
      rintro e w3 ⟨v3, rfl, ht3, hb3⟩
      have hsz3 := (HALL.out _ HB.out).2.2.2.2.2.1
      have HB3 := Lib.hid (HB.out.trans (hb3.mono hsz3))
      have TX3 := Lib.hid (TX1.out.bel hb3)
      obtain ⟨p3, cp3, rfl, hge4, hmx4⟩ : ∃ p cp, v3 = .slice p (namesF true bd).length cp ∧ (namesF true bd).length ≤ cp ∧ cp ≤ maxLen := by
        rcases ht3.form with ⟨h1, h2⟩ | ⟨g, cap, h1, h2, h3⟩
        · exact ⟨none, 0, by rw [h1, h2]; rfl, by rw [h2]; exact Nat.le_refl _, by unfold maxLen; omega⟩
        · exact ⟨_, _, h1, h2, h3⟩
      have hnl := namesF_len bd
      have hml2 := HMANY.out
      have hlen3 := HLEN.out
      obtain ⟨nm, hnm⟩ : ∃ nm, nm = namesF true bd := ⟨_, rfl⟩
      rw [← hnm] at ht3 hge4 hnl ⊢
      have HNMD := Lib.hid hnm
      have HT3 := Lib.hid ht3
      clear ht3 hnm hb3 TX1 HB
      have hend : ∀ (w4 : World) (v4 : Value), Hid (Texts w4 z v4 (L0 ++ nm)) → Hid (Below z w w4) → ∀ (op : Bool), Hid (ScopeAt (w4.alloc (.cells #[.pointer pp, .int .i64 (N a.b), v4, .bool op] 146)) w0.heap.size (⟨N a.b, L0 ++ nm, op⟩ :: S) (.pointer (some ⟨w4.heap.size, 0, none⟩)) ∧ FSt w0 fb mb N L out (w4.alloc (.cells #[.pointer pp, .int .i64 (N a.b), v4, .bool op] 146)) ∧ FFr w (w4.alloc (.cells #[.pointer pp, .int .i64 (N a.b), v4, .bool op] 146))) := fun w4 v4 h1 h2 op => Lib.hid (by
        obtain ⟨_, _, _, hs, _, hz, hz2⟩ := HALL.out _ h2.out
        have h3 := h2.out.alloc hz (.cells #[.pointer pp, .int .i64 (N a.b), v4, .bool op] 146)
        obtain ⟨_, _, hf, _, hr, _, _⟩ := HALL.out _ h3
        exact ⟨hs.new (s := ⟨N a.b, L0 ++ nm, op⟩) (h1.out.base hz2), hf, hr⟩)
      cases sb
      · simp only [Bool.not_false, Bool.true_and] at HD
        by_cases hpos : 0 < nm.length
        · obtain ⟨g4, hp⟩ : ∃ g, p3 = some ⟨g, 0, none⟩ := by
            rcases HT3.out.form with ⟨h1, h2⟩ | ⟨g, cap, h1, _, _⟩
            · rw [h2] at hpos; simp at hpos
            · simp only [Value.slice.injEq] at h1; exact ⟨g, h1.1⟩
          subst hp
          have hnews : Hid (∀ j u, (nm.map Value.string)[j]? = some u → w3.cell? ((⟨g4, 0, none⟩ : Addr).add j) = some u) := Lib.hid fun j u hu => World.ownsRow.cells HT3.out rfl j u hu
          have TX5 := TX3
          unfold Texts at TX5
          have hszz : Hid (z ≤ w3.heap.size) := Lib.hid (HALL.out _ HB3.out).2.2.2.2.2.1
          unfold maxLen at hmx4
          go_wp2_with (at_builtin; go_must (refine wpList_append_lies _ rfl (.tmp 161) (.tmp 163) 66 rfl z 9 i0 (.string ByteArray.empty) 1 16 Tryd.underlying66 hi hz0 hz1 hz2 rfl (by decide) v L0.length (L0.map Value.string) rfl TX5.out ⟨g4, 0, none⟩ nm.length cp3 (nm.map Value.string) rfl (by simp) hnews.out (by intro u hu; obtain ⟨x, _, rfl⟩ := List.mem_map.1 hu; rfl) hpos (by unfold maxLen; omega) (by omega) hszz.out w3.heap.size rfl ?_); intro g5 cap5 w4 hown4 hgrow4 hat4 hgl4; have HG := Lib.hid hgrow4; have HW := Lib.hid hown4; clear hgrow4 hown4 hat4 hgl4)
          have TX4 := Lib.hid (Texts.join HW.out)
          have HB4 := Lib.hid (HB3.out.grown HG.out hszz.out fun j hj => (World.ownsRow.lt TX5.out j hj).1)
          refine (HEV.out _ (HALL.out _ HB4.out).2.1).mono ?_
          rintro e w5 ⟨rfl, hb5⟩
          have hsz5 := (HALL.out _ HB4.out).2.2.2.2.2.1
          have TX5 := Lib.hid (TX4.out.bel hb5)
          have HB5 := Lib.hid (HB4.out.trans (hb5.mono hsz5))
          obtain ⟨ev, hev⟩ : ∃ ev, ev = evalsF bd := ⟨_, rfl⟩
          rw [← hev] at HD ⊢
          have HE := hend _ _ TX5 HB5 ev
          clear hend hev hb5 hsz5 TX4 HB4
          go_wp2_with fail
          refine (HC.out _ (⟨N a.b, L0 ++ nm, ev⟩ :: S) _ false HE.out.2.1 HE.out.1).mono ?_
          rintro e w6 ⟨rfl, hI6, hR6, hL6⟩
          have HI6 := Lib.hid hI6
          have HR6 := Lib.hid (HE.out.2.2.trans hR6)
          have HL6 := Lib.hid hL6
          clear hI6 hR6 hL6 HC HE
          go_wp2
          go_end0
          rw [HD.out]
          rw [← HNMD.out, ← HLL.out]
          exact ⟨rfl, HI6.out, HR6.out, by have := HL6.out; have := HMANY.out; omega⟩
        · have hn0 : nm = [] := List.eq_nil_of_length_eq_zero (by omega)
          subst hn0
          obtain ⟨pv, nv, cv, rfl⟩ := TX3.out.slice
          have TX4 : Hid (Texts w3 z (.slice pv nv cv) (L0 ++ [])) := by rw [List.append_nil]; exact TX3
          have HB4 := HB3
          have TX5 := TX3
          unfold Texts at TX5
          simp only [List.length_nil]
          go_wp2_with (at_builtin; go_must (refine wpList_append_empty rfl (.tmp 161) (.tmp 163) 66 rfl z 9 i0 1 Tryd.underlying66 hi (.slice pv nv cv) L0.length (L0.map Value.string) rfl TX5.out p3 cp3 rfl ?_))
          refine (HEV.out _ (HALL.out _ HB4.out).2.1).mono ?_
          rintro e w5 ⟨rfl, hb5⟩
          have hsz5 := (HALL.out _ HB4.out).2.2.2.2.2.1
          have TX5 := Lib.hid (TX4.out.bel hb5)
          have HB5 := Lib.hid (HB4.out.trans (hb5.mono hsz5))
          obtain ⟨ev, hev⟩ : ∃ ev, ev = evalsF bd := ⟨_, rfl⟩
          rw [← hev] at HD ⊢
          have HE := hend _ _ TX5 HB5 ev
          clear hend hev hb5 hsz5 TX4 HB4
          go_wp2_with fail
          refine (HC.out _ (⟨N a.b, L0 ++ [], ev⟩ :: S) _ false HE.out.2.1 HE.out.1).mono ?_
          rintro e w6 ⟨rfl, hI6, hR6, hL6⟩
          have HI6 := Lib.hid hI6
          have HR6 := Lib.hid (HE.out.2.2.trans hR6)
          have HL6 := Lib.hid hL6
          clear hI6 hR6 hL6 HC HE
          go_wp2
          go_end0
          rw [HD.out]
          rw [← HNMD.out, ← HLL.out]
          exact ⟨rfl, HI6.out, HR6.out, by have := HL6.out; have := HMANY.out; omega⟩
      · simp only [Bool.not_true, Bool.false_and] at HD
        by_cases hpos : 0 < nm.length
        · obtain ⟨g4, hp⟩ : ∃ g, p3 = some ⟨g, 0, none⟩ := by
            rcases HT3.out.form with ⟨h1, h2⟩ | ⟨g, cap, h1, _, _⟩
            · rw [h2] at hpos; simp at hpos
            · simp only [Value.slice.injEq] at h1; exact ⟨g, h1.1⟩
          subst hp
          have hnews : Hid (∀ j u, (nm.map Value.string)[j]? = some u → w3.cell? ((⟨g4, 0, none⟩ : Addr).add j) = some u) := Lib.hid fun j u hu => World.ownsRow.cells HT3.out rfl j u hu
          have TX5 := TX3
          unfold Texts at TX5
          have hszz : Hid (z ≤ w3.heap.size) := Lib.hid (HALL.out _ HB3.out).2.2.2.2.2.1
          unfold maxLen at hmx4
          go_wp2_with (at_builtin; go_must (refine wpList_append_lies _ rfl (.tmp 161) (.tmp 163) 66 rfl z 9 i0 (.string ByteArray.empty) 1 16 Tryd.underlying66 hi hz0 hz1 hz2 rfl (by decide) v L0.length (L0.map Value.string) rfl TX5.out ⟨g4, 0, none⟩ nm.length cp3 (nm.map Value.string) rfl (by simp) hnews.out (by intro u hu; obtain ⟨x, _, rfl⟩ := List.mem_map.1 hu; rfl) hpos (by unfold maxLen; omega) (by omega) hszz.out w3.heap.size rfl ?_); intro g5 cap5 w4 hown4 hgrow4 hat4 hgl4; have HG := Lib.hid hgrow4; have HW := Lib.hid hown4; clear hgrow4 hown4 hat4 hgl4)
          have TX4 := Lib.hid (Texts.join HW.out)
          have HB4 := Lib.hid (HB3.out.grown HG.out hszz.out fun j hj => (World.ownsRow.lt TX5.out j hj).1)
          have HE := hend _ _ TX4 HB4 false
          clear hend
          refine (HC.out _ (⟨N a.b, L0 ++ nm, false⟩ :: S) _ true HE.out.2.1 HE.out.1).mono ?_
          rintro e w6 ⟨rfl, hI6, hR6, hL6⟩
          have HI6 := Lib.hid hI6
          have HR6 := Lib.hid (HE.out.2.2.trans hR6)
          have HL6 := Lib.hid hL6
          clear hI6 hR6 hL6 HC HE
          go_wp2
          go_end0
          rw [HD.out]
          rw [← HNMD.out, ← HLL.out]
          exact ⟨rfl, HI6.out, HR6.out, by have := HL6.out; have := HMANY.out; omega⟩
        · have hn0 : nm = [] := List.eq_nil_of_length_eq_zero (by omega)
          subst hn0
          obtain ⟨pv, nv, cv, rfl⟩ := TX3.out.slice
          have TX4 : Hid (Texts w3 z (.slice pv nv cv) (L0 ++ [])) := by rw [List.append_nil]; exact TX3
          have HB4 := HB3
          have TX5 := TX3
          unfold Texts at TX5
          simp only [List.length_nil]
          go_wp2_with (at_builtin; go_must (refine wpList_append_empty rfl (.tmp 161) (.tmp 163) 66 rfl z 9 i0 1 Tryd.underlying66 hi (.slice pv nv cv) L0.length (L0.map Value.string) rfl TX5.out p3 cp3 rfl ?_))
          have HE := hend _ _ TX4 HB4 false
          clear hend
          refine (HC.out _ (⟨N a.b, L0 ++ [], false⟩ :: S) _ true HE.out.2.1 HE.out.1).mono ?_
          rintro e w6 ⟨rfl, hI6, hR6, hL6⟩
          have HI6 := Lib.hid hI6
          have HR6 := Lib.hid (HE.out.2.2.trans hR6)
          have HL6 := Lib.hid hL6
          clear hI6 hR6 hL6 HC HE
          go_wp2
          go_end0
          rw [HD.out]
          rw [← HNMD.out, ← HLL.out]
          exact ⟨rfl, HI6.out, HR6.out, by have := HL6.out; have := HMANY.out; omega⟩

set_option maxHeartbeats 16000000 in
theorem node_func_c {w0 : World} {fb mb : Nat} {N : Nat → Nat} {L : List (Nat × Nat)} {Ok : ATree → Prop} {m : Nat} (hK : KidsSays w0 fb mb N L Ok m)
    (a : ATree) (B : Nat) (w : World) (S : List Sc) (sv : Value) (out : List Us) (hm : a.many ≤ m + 1) (hT : TreeAt w0 B a) (hnum : ∀ x ∈ a.subs, (x.b, N x.b) ∈ L) (hlen : out.length + a.many < 274877906944) (hF : FSt w0 fb mb N L out w) (hS : ScopeAt w w0.heap.size S sv)
    (h1 : a.kind = 37) (ht : a.text = ByteArray.empty) (ps bd : ATree) (hk : a.kids = [ps, bd]) (hok : ∀ k ∈ bd.kids, Ok k) (hcall : CallKids bd) :
    Calls Tryd.prog 92 #[.pointer (some ⟨fb, 0, none⟩), a.ptr, sv, .bool true] w fun e w' => e = .returned (.tuple #[]) ∧ FSt w0 fb mb N L (out ++ nodeF N a S true) w' ∧ FFr w w' ∧ (nodeF N a S true).length ≤ a.many := by
  obtain ⟨i0, hi, hz0, hz1, hz2⟩ := info_parts Tryd.infoStr
  have hTw : TreeAt w B a := hT.keep fun k _ hk => hF.bel.block k hk
  have hmem : ps ∈ a.kids ∧ bd ∈ a.kids := by rw [hk]; simp
  have hdef : nodeF N a S true = kidsF N bd.kids (⟨N a.b, (s_arguments :: ps.kids.map ATree.text) ++ namesF true bd, false⟩ :: S) (true) := by
    obtain ⟨b, v, k, t, n, ks⟩ := a
    obtain ⟨b2, v2, k2, t2, n2, ks2⟩ := bd
    obtain ⟨b1, v1, k1, t1, n1, ks1⟩ := ps
    simp only [ATree.kind, ATree.kids, ATree.text] at *
    subst hk
    subst h1
    rw [nodeF.eq_def]
    simp [ATree.b, ATree.kids, ht]
  have hmany : a.many = ps.many + bd.many + 1 := by
    obtain ⟨b, v, k, t, n, ks⟩ := a
    simp only [ATree.kids] at hk
    subst hk
    simp only [ATree.many, manyLA]
    omega
  obtain ⟨p, cp, hv, hge, hmx⟩ := hTw.vOf
  have hrow := hTw.rowOf
  obtain ⟨g, hp⟩ : ∃ g, p = some ⟨g, 0, none⟩ := by
    rcases ownsRow_cases hrow with ⟨_, h2⟩ | ⟨g, cap, h1, _⟩
    · rw [hk] at h2; simp at h2
    · rw [hv] at h1; simp only [Value.slice.injEq] at h1; exact ⟨g, h1.1⟩
  subst hp
  have c3 : w.cell? ⟨a.b, 3, none⟩ = some (.slice (some ⟨g, 0, none⟩) 2 cp) := by rw [show (2 : Nat) = a.kids.length by rw [hk]; rfl, ← hv]; exact hTw.c3
  have cx := ownsRow_cell1 hrow (g := g) (by rw [hv]; rfl) (i := 0) (x := ps.ptr) (by rw [hk]; rfl)
  have cy := ownsRow_cell1 hrow (g := g) (by rw [hv]; rfl) (i := 1) (x := bd.ptr) (by rw [hk]; rfl)
  have hge2 : 2 ≤ cp := by rw [hk] at hge; exact hge
  unfold maxLen at hmx
  have hlg := (World.ownsRow.lt hrow g (by rw [hv]; rfl)).2
  have hTp := hTw.kid hmem.1
  obtain ⟨p2, cp2, hv2, hge3, hmx2⟩ := hTp.vOf
  have p3 : w.cell? ⟨ps.b, 3, none⟩ = some (.slice p2 ps.kids.length cp2) := by rw [← hv2]; exact hTp.c3
  have hkl := kids_le ps
  have hlen2 : ps.kids.length ≤ 9223372036854775807 := by unfold maxLen at hmx2; omega
  have hql : ps.kids.length < 274877906944 := by omega
  have HV2 := Lib.hid hv2
  have hkeep : ∀ W, Below w.heap.size w W → W.cell? ⟨a.b, 3, none⟩ = some (.slice (some ⟨g, 0, none⟩) 2 cp) ∧ W.cell? ⟨g, 0, none⟩ = some ps.ptr ∧ W.cell? ⟨g, 1, none⟩ = some bd.ptr ∧ W.cell? ⟨ps.b, 3, none⟩ = some (.slice p2 ps.kids.length cp2) := fun W h =>
    ⟨(World.cell?_of_block (h.block a.b hTw.lt)).trans c3, (World.cell?_of_block (h.block g hlg)).trans cx, (World.cell?_of_block (h.block g hlg)).trans cy, (World.cell?_of_block (h.block ps.b hTp.lt)).trans p3⟩
  have HC := Lib.hid (fun w1 S' sv' st' h1 h2 => hK bd B w1 S' sv' st' out (by omega) hok (hT.kid hmem.2) (fun z hz => hnum z (subs_kid hmem.2 hz)) (by omega) h1 h2)
  have HN := Lib.hid (fun wr (h : TreeAt wr B bd) => names_any true wr B bd h (by omega))
  have d0 := hTw.c0
  rw [h1] at d0
  have f0 := hF.c0
  obtain ⟨pp, rfl⟩ := hS.ptr
  have d1 := hTw.c1
  rw [ht] at d1
  have hb1 : Below w.heap.size w w := Below.refl _ _
  have hsc := hS
  obtain ⟨k3, _, ky, _⟩ := hkeep _ hb1
  obtain ⟨l3, lx, _, l4⟩ := hkeep (w.alloc (.cells #[.string ⟨#[97, 114, 103, 117, 109, 101, 110, 116, 115]⟩] 9)) (hb1.alloc hb1.size _)
  obtain ⟨z, hzz⟩ : ∃ z, z = w.heap.size := ⟨_, rfl⟩
  have hall : ∀ W, Below z w W → TreeAt W B ps ∧ TreeAt W B bd ∧ FSt w0 fb mb N L out W ∧ ScopeAt W w0.heap.size S (.pointer pp) ∧ FFr w W ∧ z ≤ W.heap.size ∧ w0.heap.size ≤ z := fun W hW => by
    rw [hzz] at hW
    have h2 : Below w.heap.size w W := hb1.trans (hW.mono hb1.size)
    exact ⟨hTp.bel h2, (hTw.kid hmem.2).bel h2, hF.on h2, hsc.bel hW, FFr.bel h2, by rw [hzz]; exact hW.size, by rw [hzz]; exact Nat.le_trans hF.bel.size hb1.size⟩
  have hst : Below z w (w.alloc (.cells #[.string ⟨#[97, 114, 103, 117, 109, 101, 110, 116, 115]⟩] 9)) := (Below.refl z _).alloc (by rw [hzz]; exact Nat.le_refl _) _
  have htx0 : Texts (w.alloc (.cells #[.string ⟨#[97, 114, 103, 117, 109, 101, 110, 116, 115]⟩] 9)) z (.slice (some ⟨w.heap.size, 0, none⟩) 1 1) [s_arguments] := Texts.one (by rw [hzz]; exact Nat.le_refl _) s_arguments
  have HALL := Lib.hid hall
  have HST0 := Lib.hid hst
  have HTX0 := Lib.hid htx0
  have HB1 := Lib.hid hb1
  have HD := Lib.hid hdef
  have HF := Lib.hid hF
  have HIN := Lib.hid (hnum a (subs_self a))
  have HMANY := Lib.hid hmany
  have HLEN := Lib.hid hlen
  unfold ATree.ptr at HC HN ky lx ⊢
  obtain ⟨q, hq⟩ : ∃ q, q = ps.kids.length := ⟨_, rfl⟩
  rw [← hq] at l4 hlen2 hge3 hql
  have HQ := Lib.hid hq
  have HZ := Lib.hid hzz
  clear ht
  clear hTw hdef hK hok hT hnum hF hS hm hlen h1 hk hrow hv hkeep hmany hmem hge hcall c3 cx cy p3 hTp hv2 hall hst htx0 hb1 hsc hq hkl hzz
  go_enter Tryd.func92, Tryd.ntmps92
  go_wp2_with (at_lookup; go_must (refine wpList_lookup_node _ rfl _ _ rfl mb a.b (N a.b) L rfl rfl HF.out.map HF.out.number HF.out.nodup HIN.out ?_))
  go_loopw [11, 149] (fun v i wr => ∃ (k : Nat) (v' : Value), v' = v ∧ k ≤ q ∧ i = .int .i64 k ∧ Hid (Texts wr z v' (s_arguments :: (ps.kids.take k).map ATree.text)) ∧ Hid (Below z w wr)) (fun _ i _ => q - (intOf i).toNat)
  case atStart => exact ⟨0, _, rfl, Nat.zero_le _, rfl, HTX0, HST0⟩
  case round =>
    obtain ⟨k, v, rfl, hk, rfl, TX, HB⟩ := hrel
    clear HTX0 HST0
    by_cases hkn : k < q
    · obtain ⟨x, hx⟩ : ∃ x, ps.kids[k]? = some x := ⟨_, List.getElem?_eq_getElem (by rw [← HQ.out]; exact hkn)⟩
      obtain ⟨hTp, _, _, _, _, hsz, _⟩ := HALL.out _ HB.out
      have hrow := hTp.rowOf
      rcases ownsRow_cases hrow with ⟨_, h2⟩ | ⟨g0, cap0, hv0, _⟩
      · rw [← HQ.out] at h2; omega
      have hp : p2 = some ⟨g0, 0, none⟩ := by
        have := HV2.out.symm.trans hv0
        simp only [Value.slice.injEq] at this
        exact this.1
      subst hp
      have cx := ownsRow_cell1 hrow (g := g0) (by rw [hv0]; rfl) (i := k) (x := x.ptr) (by rw [List.getElem?_map, hx]; rfl)
      unfold ATree.ptr at cx
      have c1 := (hTp.kid (List.mem_of_getElem? hx)).c1
      have HX := Lib.hid hx
      obtain ⟨L0, hL⟩ : ∃ L0, L0 = s_arguments :: (ps.kids.take k).map ATree.text := ⟨_, rfl⟩
      have hll : L0.length ≤ k + 1 := by rw [hL]; simp; omega
      rw [← hL] at TX
      have HLL := Lib.hid hL
      have TX2 := TX
      unfold Texts at TX
      clear hTp hrow hv0 hx hL
      go_wp2_with (at_builtin; go_must (refine wpList_append_lies _ rfl (.tmp 153) (.tmp 158) 66 rfl z 9 i0 (.string ByteArray.empty) 1 16 Tryd.underlying66 hi hz0 hz1 hz2 rfl (by decide) v L0.length (L0.map Value.string) rfl (TX.out.alloc _) ⟨wr.heap.size, 0, none⟩ 1 1 [.string x.text] rfl rfl (fun j u hu => cell_one_new wr _ _ j u hu) (by intro u hu; simp at hu; subst hu; rfl) (by first | omega | (simp; omega)) (by unfold maxLen; omega) (by first | omega | (simp; omega)) (by first | omega | (simp; omega)) (wr.heap.size + 1) (by simp) ?_); intro g cap w3 hown2 hgrow2 hat2 hgl2; have HG := Lib.hid hgrow2; have HW := Lib.hid hown2; clear hgrow2 hown2 hat2 hgl2)
      go_roundw
      case rel =>
        refine ⟨k + 1, _, rfl, by omega, by go_num, Lib.hid ?_, Lib.hid ?_⟩
        · rw [take_succ_kid HX.out, List.map_append, ← List.cons_append, ← HLL.out]
          exact texts_push HW.out
        · exact (HB.out.alloc hsz _).grown HG.out (by simp; omega) fun j hj => (World.ownsRow.lt TX.out j hj).1
      case measure => simp [intOf]; omega
    · have hk2 : k = q := by omega
      subst hk2
      have htx : Texts wr z v (s_arguments :: ps.kids.map ATree.text) := by
        have := TX.out
        rwa [List.take_of_length_le (by rw [← HQ.out]; exact Nat.le_refl _)] at this
      have TX1 := Lib.hid htx
      obtain ⟨L0, hL⟩ : ∃ L0, L0 = s_arguments :: ps.kids.map ATree.text := ⟨_, rfl⟩
      have hll : L0.length ≤ k + 1 := by rw [hL]; simp [HQ.out]
      rw [← hL] at TX1
      have HLL := Lib.hid hL
      clear htx hL TX
      go_wp2_with fail
      refine (HN.out wr (HALL.out _ HB.out).2.1).mono ?_
      rintro e w3 ⟨v3, rfl, ht3, hb3⟩
      have hsz3 := (HALL.out _ HB.out).2.2.2.2.2.1
      have HB3 := Lib.hid (HB.out.trans (hb3.mono hsz3))
      have TX3 := Lib.hid (TX1.out.bel hb3)
      obtain ⟨p3, cp3, rfl, hge4, hmx4⟩ : ∃ p cp, v3 = .slice p (namesF true bd).length cp ∧ (namesF true bd).length ≤ cp ∧ cp ≤ maxLen := by
        rcases ht3.form with ⟨h1, h2⟩ | ⟨g, cap, h1, h2, h3⟩
        · exact ⟨none, 0, by rw [h1, h2]; rfl, by rw [h2]; exact Nat.le_refl _, by unfold maxLen; omega⟩
        · exact ⟨_, _, h1, h2, h3⟩
      have hnl := namesF_len bd
      have hml2 := HMANY.out
      have hlen3 := HLEN.out
      obtain ⟨nm, hnm⟩ : ∃ nm, nm = namesF true bd := ⟨_, rfl⟩
      rw [← hnm] at ht3 hge4 hnl ⊢
      have HNMD := Lib.hid hnm
      have HT3 := Lib.hid ht3
      clear ht3 hnm hb3 TX1 HB
      have hend : ∀ (w4 : World) (v4 : Value), Hid (Texts w4 z v4 (L0 ++ nm)) → Hid (Below z w w4) → ∀ (op : Bool), Hid (ScopeAt (w4.alloc (.cells #[.pointer pp, .int .i64 (N a.b), v4, .bool op] 146)) w0.heap.size (⟨N a.b, L0 ++ nm, op⟩ :: S) (.pointer (some ⟨w4.heap.size, 0, none⟩)) ∧ FSt w0 fb mb N L out (w4.alloc (.cells #[.pointer pp, .int .i64 (N a.b), v4, .bool op] 146)) ∧ FFr w (w4.alloc (.cells #[.pointer pp, .int .i64 (N a.b), v4, .bool op] 146))) := fun w4 v4 h1 h2 op => Lib.hid (by
        obtain ⟨_, _, _, hs, _, hz, hz2⟩ := HALL.out _ h2.out
        have h3 := h2.out.alloc hz (.cells #[.pointer pp, .int .i64 (N a.b), v4, .bool op] 146)
        obtain ⟨_, _, hf, _, hr, _, _⟩ := HALL.out _ h3
        exact ⟨hs.new (s := ⟨N a.b, L0 ++ nm, op⟩) (h1.out.base hz2), hf, hr⟩)
      by_cases hpos : 0 < nm.length
      · obtain ⟨g4, hp⟩ : ∃ g, p3 = some ⟨g, 0, none⟩ := by
          rcases HT3.out.form with ⟨h1, h2⟩ | ⟨g, cap, h1, _, _⟩
          · rw [h2] at hpos; simp at hpos
          · simp only [Value.slice.injEq] at h1; exact ⟨g, h1.1⟩
        subst hp
        have hnews : Hid (∀ j u, (nm.map Value.string)[j]? = some u → w3.cell? ((⟨g4, 0, none⟩ : Addr).add j) = some u) := Lib.hid fun j u hu => World.ownsRow.cells HT3.out rfl j u hu
        have TX5 := TX3
        unfold Texts at TX5
        have hszz : Hid (z ≤ w3.heap.size) := Lib.hid (HALL.out _ HB3.out).2.2.2.2.2.1
        unfold maxLen at hmx4
        go_wp2_with (at_builtin; go_must (refine wpList_append_lies _ rfl (.tmp 161) (.tmp 163) 66 rfl z 9 i0 (.string ByteArray.empty) 1 16 Tryd.underlying66 hi hz0 hz1 hz2 rfl (by decide) v L0.length (L0.map Value.string) rfl TX5.out ⟨g4, 0, none⟩ nm.length cp3 (nm.map Value.string) rfl (by simp) hnews.out (by intro u hu; obtain ⟨x, _, rfl⟩ := List.mem_map.1 hu; rfl) hpos (by unfold maxLen; omega) (by omega) hszz.out w3.heap.size rfl ?_); intro g5 cap5 w4 hown4 hgrow4 hat4 hgl4; have HG := Lib.hid hgrow4; have HW := Lib.hid hown4; clear hgrow4 hown4 hat4 hgl4)
        have TX4 := Lib.hid (Texts.join HW.out)
        have HB4 := Lib.hid (HB3.out.grown HG.out hszz.out fun j hj => (World.ownsRow.lt TX5.out j hj).1)
        have HE := hend _ _ TX4 HB4 false
        clear hend
        refine (HC.out _ (⟨N a.b, L0 ++ nm, false⟩ :: S) _ true HE.out.2.1 HE.out.1).mono ?_
        rintro e w6 ⟨rfl, hI6, hR6, hL6⟩
        have HI6 := Lib.hid hI6
        have HR6 := Lib.hid (HE.out.2.2.trans hR6)
        have HL6 := Lib.hid hL6
        clear hI6 hR6 hL6 HC HE
        go_wp2
        go_end0
        rw [HD.out]
        rw [← HNMD.out, ← HLL.out]
        exact ⟨rfl, HI6.out, HR6.out, by have := HL6.out; have := HMANY.out; omega⟩
      · have hn0 : nm = [] := List.eq_nil_of_length_eq_zero (by omega)
        subst hn0
        obtain ⟨pv, nv, cv, rfl⟩ := TX3.out.slice
        have TX4 : Hid (Texts w3 z (.slice pv nv cv) (L0 ++ [])) := by rw [List.append_nil]; exact TX3
        have HB4 := HB3
        have TX5 := TX3
        unfold Texts at TX5
        simp only [List.length_nil]
        go_wp2_with (at_builtin; go_must (refine wpList_append_empty rfl (.tmp 161) (.tmp 163) 66 rfl z 9 i0 1 Tryd.underlying66 hi (.slice pv nv cv) L0.length (L0.map Value.string) rfl TX5.out p3 cp3 rfl ?_))
        have HE := hend _ _ TX4 HB4 false
        clear hend
        refine (HC.out _ (⟨N a.b, L0 ++ [], false⟩ :: S) _ true HE.out.2.1 HE.out.1).mono ?_
        rintro e w6 ⟨rfl, hI6, hR6, hL6⟩
        have HI6 := Lib.hid hI6
        have HR6 := Lib.hid (HE.out.2.2.trans hR6)
        have HL6 := Lib.hid hL6
        clear hI6 hR6 hL6 HC HE
        go_wp2
        go_end0
        rw [HD.out]
        rw [← HNMD.out, ← HLL.out]
        exact ⟨rfl, HI6.out, HR6.out, by have := HL6.out; have := HMANY.out; omega⟩

set_option maxHeartbeats 16000000 in
theorem node_func_d {w0 : World} {fb mb : Nat} {N : Nat → Nat} {L : List (Nat × Nat)} {Ok : ATree → Prop} {m : Nat} (hK : KidsSays w0 fb mb N L Ok m)
    (a : ATree) (B : Nat) (w : World) (S : List Sc) (sv : Value) (out : List Us) (hm : a.many ≤ m + 1) (hT : TreeAt w0 B a) (hnum : ∀ x ∈ a.subs, (x.b, N x.b) ∈ L) (hlen : out.length + a.many < 274877906944) (hF : FSt w0 fb mb N L out w) (hS : ScopeAt w w0.heap.size S sv)
    (h1 : a.kind = 37) (ht : a.text = ByteArray.empty) (ps bd : ATree) (hk : a.kids = [ps, bd]) (hok : ∀ k ∈ bd.kids, Ok k) (hcall : CallKids bd) :
    Calls Tryd.prog 92 #[.pointer (some ⟨fb, 0, none⟩), a.ptr, sv, .bool false] w fun e w' => e = .returned (.tuple #[]) ∧ FSt w0 fb mb N L (out ++ nodeF N a S false) w' ∧ FFr w w' ∧ (nodeF N a S false).length ≤ a.many := by
  obtain ⟨i0, hi, hz0, hz1, hz2⟩ := info_parts Tryd.infoStr
  have hTw : TreeAt w B a := hT.keep fun k _ hk => hF.bel.block k hk
  have hmem : ps ∈ a.kids ∧ bd ∈ a.kids := by rw [hk]; simp
  have hdef : nodeF N a S false = kidsF N bd.kids (⟨N a.b, (s_arguments :: ps.kids.map ATree.text) ++ namesF true bd, (!isStrict bd && evalsF bd)⟩ :: S) (isStrict bd) := by
    obtain ⟨b, v, k, t, n, ks⟩ := a
    obtain ⟨b2, v2, k2, t2, n2, ks2⟩ := bd
    obtain ⟨b1, v1, k1, t1, n1, ks1⟩ := ps
    simp only [ATree.kind, ATree.kids, ATree.text] at *
    subst hk
    subst h1
    rw [nodeF.eq_def]
    simp [ATree.b, ATree.kids, ht]
  have hmany : a.many = ps.many + bd.many + 1 := by
    obtain ⟨b, v, k, t, n, ks⟩ := a
    simp only [ATree.kids] at hk
    subst hk
    simp only [ATree.many, manyLA]
    omega
  obtain ⟨p, cp, hv, hge, hmx⟩ := hTw.vOf
  have hrow := hTw.rowOf
  obtain ⟨g, hp⟩ : ∃ g, p = some ⟨g, 0, none⟩ := by
    rcases ownsRow_cases hrow with ⟨_, h2⟩ | ⟨g, cap, h1, _⟩
    · rw [hk] at h2; simp at h2
    · rw [hv] at h1; simp only [Value.slice.injEq] at h1; exact ⟨g, h1.1⟩
  subst hp
  have c3 : w.cell? ⟨a.b, 3, none⟩ = some (.slice (some ⟨g, 0, none⟩) 2 cp) := by rw [show (2 : Nat) = a.kids.length by rw [hk]; rfl, ← hv]; exact hTw.c3
  have cx := ownsRow_cell1 hrow (g := g) (by rw [hv]; rfl) (i := 0) (x := ps.ptr) (by rw [hk]; rfl)
  have cy := ownsRow_cell1 hrow (g := g) (by rw [hv]; rfl) (i := 1) (x := bd.ptr) (by rw [hk]; rfl)
  have hge2 : 2 ≤ cp := by rw [hk] at hge; exact hge
  unfold maxLen at hmx
  have hlg := (World.ownsRow.lt hrow g (by rw [hv]; rfl)).2
  have hTp := hTw.kid hmem.1
  obtain ⟨p2, cp2, hv2, hge3, hmx2⟩ := hTp.vOf
  have p3 : w.cell? ⟨ps.b, 3, none⟩ = some (.slice p2 ps.kids.length cp2) := by rw [← hv2]; exact hTp.c3
  have hkl := kids_le ps
  have hlen2 : ps.kids.length ≤ 9223372036854775807 := by unfold maxLen at hmx2; omega
  have hql : ps.kids.length < 274877906944 := by omega
  have HV2 := Lib.hid hv2
  have hkeep : ∀ W, Below w.heap.size w W → W.cell? ⟨a.b, 3, none⟩ = some (.slice (some ⟨g, 0, none⟩) 2 cp) ∧ W.cell? ⟨g, 0, none⟩ = some ps.ptr ∧ W.cell? ⟨g, 1, none⟩ = some bd.ptr ∧ W.cell? ⟨ps.b, 3, none⟩ = some (.slice p2 ps.kids.length cp2) := fun W h =>
    ⟨(World.cell?_of_block (h.block a.b hTw.lt)).trans c3, (World.cell?_of_block (h.block g hlg)).trans cx, (World.cell?_of_block (h.block g hlg)).trans cy, (World.cell?_of_block (h.block ps.b hTp.lt)).trans p3⟩
  have HC := Lib.hid (fun w1 S' sv' st' h1 h2 => hK bd B w1 S' sv' st' out (by omega) hok (hT.kid hmem.2) (fun z hz => hnum z (subs_kid hmem.2 hz)) (by omega) h1 h2)
  have HN := Lib.hid (fun wr (h : TreeAt wr B bd) => names_any true wr B bd h (by omega))
  have HEV := Lib.hid (fun wr (h : TreeAt wr B bd) => evals_any wr B bd h hcall)
  have HST := Lib.hid (fun wr (h : TreeAt wr B bd) => strict_any wr B bd h)
  obtain ⟨sb, hsb⟩ : ∃ sb, sb = isStrict bd := ⟨_, rfl⟩
  rw [← hsb] at HST hdef
  clear hsb
  have d0 := hTw.c0
  rw [h1] at d0
  have f0 := hF.c0
  obtain ⟨pp, rfl⟩ := hS.ptr
  have d1 := hTw.c1
  rw [ht] at d1
  have hb1 : Below w.heap.size w w := Below.refl _ _
  have hsc := hS
  obtain ⟨k3, _, ky, _⟩ := hkeep _ hb1
  obtain ⟨l3, lx, _, l4⟩ := hkeep (w.alloc (.cells #[.string ⟨#[97, 114, 103, 117, 109, 101, 110, 116, 115]⟩] 9)) (hb1.alloc hb1.size _)
  obtain ⟨z, hzz⟩ : ∃ z, z = w.heap.size := ⟨_, rfl⟩
  have hall : ∀ W, Below z w W → TreeAt W B ps ∧ TreeAt W B bd ∧ FSt w0 fb mb N L out W ∧ ScopeAt W w0.heap.size S (.pointer pp) ∧ FFr w W ∧ z ≤ W.heap.size ∧ w0.heap.size ≤ z := fun W hW => by
    rw [hzz] at hW
    have h2 : Below w.heap.size w W := hb1.trans (hW.mono hb1.size)
    exact ⟨hTp.bel h2, (hTw.kid hmem.2).bel h2, hF.on h2, hsc.bel hW, FFr.bel h2, by rw [hzz]; exact hW.size, by rw [hzz]; exact Nat.le_trans hF.bel.size hb1.size⟩
  have hst : Below z w (w.alloc (.cells #[.string ⟨#[97, 114, 103, 117, 109, 101, 110, 116, 115]⟩] 9)) := (Below.refl z _).alloc (by rw [hzz]; exact Nat.le_refl _) _
  have htx0 : Texts (w.alloc (.cells #[.string ⟨#[97, 114, 103, 117, 109, 101, 110, 116, 115]⟩] 9)) z (.slice (some ⟨w.heap.size, 0, none⟩) 1 1) [s_arguments] := Texts.one (by rw [hzz]; exact Nat.le_refl _) s_arguments
  have HALL := Lib.hid hall
  have HST0 := Lib.hid hst
  have HTX0 := Lib.hid htx0
  have HB1 := Lib.hid hb1
  have HD := Lib.hid hdef
  have HF := Lib.hid hF
  have HIN := Lib.hid (hnum a (subs_self a))
  have HMANY := Lib.hid hmany
  have HLEN := Lib.hid hlen
  unfold ATree.ptr at HC HN ky lx HEV HST ⊢
  obtain ⟨q, hq⟩ : ∃ q, q = ps.kids.length := ⟨_, rfl⟩
  rw [← hq] at l4 hlen2 hge3 hql
  have HQ := Lib.hid hq
  have HZ := Lib.hid hzz
  clear ht
  clear hTw hdef hK hok hT hnum hF hS hm hlen h1 hk hrow hv hkeep hmany hmem hge hcall c3 cx cy p3 hTp hv2 hall hst htx0 hb1 hsc hq hkl hzz
  go_enter Tryd.func92, Tryd.ntmps92
  go_wp2_with (at_lookup; go_must (refine wpList_lookup_node _ rfl _ _ rfl mb a.b (N a.b) L rfl rfl HF.out.map HF.out.number HF.out.nodup HIN.out ?_))
  refine (HST.out _ (HALL.out _ (Below.refl _ _)).2.1).mono ?_
  rintro e w' ⟨rfl, hww⟩
  rw [hww]
  clear hww
  go_wp2_with fail
  go_loopw [11, 149] (fun v i wr => ∃ (k : Nat) (v' : Value), v' = v ∧ k ≤ q ∧ i = .int .i64 k ∧ Hid (Texts wr z v' (s_arguments :: (ps.kids.take k).map ATree.text)) ∧ Hid (Below z w wr)) (fun _ i _ => q - (intOf i).toNat)
  case atStart => exact ⟨0, _, rfl, Nat.zero_le _, rfl, HTX0, HST0⟩
  case round =>
    obtain ⟨k, v, rfl, hk, rfl, TX, HB⟩ := hrel
    clear HTX0 HST0
    by_cases hkn : k < q
    · obtain ⟨x, hx⟩ : ∃ x, ps.kids[k]? = some x := ⟨_, List.getElem?_eq_getElem (by rw [← HQ.out]; exact hkn)⟩
      obtain ⟨hTp, _, _, _, _, hsz, _⟩ := HALL.out _ HB.out
      have hrow := hTp.rowOf
      rcases ownsRow_cases hrow with ⟨_, h2⟩ | ⟨g0, cap0, hv0, _⟩
      · rw [← HQ.out] at h2; omega
      have hp : p2 = some ⟨g0, 0, none⟩ := by
        have := HV2.out.symm.trans hv0
        simp only [Value.slice.injEq] at this
        exact this.1
      subst hp
      have cx := ownsRow_cell1 hrow (g := g0) (by rw [hv0]; rfl) (i := k) (x := x.ptr) (by rw [List.getElem?_map, hx]; rfl)
      unfold ATree.ptr at cx
      have c1 := (hTp.kid (List.mem_of_getElem? hx)).c1
      have HX := Lib.hid hx
      obtain ⟨L0, hL⟩ : ∃ L0, L0 = s_arguments :: (ps.kids.take k).map ATree.text := ⟨_, rfl⟩
      have hll : L0.length ≤ k + 1 := by rw [hL]; simp; omega
      rw [← hL] at TX
      have HLL := Lib.hid hL
      have TX2 := TX
      unfold Texts at TX
      clear hTp hrow hv0 hx hL
      go_wp2_with (at_builtin; go_must (refine wpList_append_lies _ rfl (.tmp 153) (.tmp 158) 66 rfl z 9 i0 (.string ByteArray.empty) 1 16 Tryd.underlying66 hi hz0 hz1 hz2 rfl (by decide) v L0.length (L0.map Value.string) rfl (TX.out.alloc _) ⟨wr.heap.size, 0, none⟩ 1 1 [.string x.text] rfl rfl (fun j u hu => cell_one_new wr _ _ j u hu) (by intro u hu; simp at hu; subst hu; rfl) (by first | omega | (simp; omega)) (by unfold maxLen; omega) (by first | omega | (simp; omega)) (by first | omega | (simp; omega)) (wr.heap.size + 1) (by simp) ?_); intro g cap w3 hown2 hgrow2 hat2 hgl2; have HG := Lib.hid hgrow2; have HW := Lib.hid hown2; clear hgrow2 hown2 hat2 hgl2)
      go_roundw
      case rel =>
        refine ⟨k + 1, _, rfl, by omega, by go_num, Lib.hid ?_, Lib.hid ?_⟩
        · rw [take_succ_kid HX.out, List.map_append, ← List.cons_append, ← HLL.out]
          exact texts_push HW.out
        · exact (HB.out.alloc hsz _).grown HG.out (by simp; omega) fun j hj => (World.ownsRow.lt TX.out j hj).1
      case measure => simp [intOf]; omega
    · have hk2 : k = q := by omega
      subst hk2
      have htx : Texts wr z v (s_arguments :: ps.kids.map ATree.text) := by
        have := TX.out
        rwa [List.take_of_length_le (by rw [← HQ.out]; exact Nat.le_refl _)] at this
      have TX1 := Lib.hid htx
      obtain ⟨L0, hL⟩ : ∃ L0, L0 = s_arguments :: ps.kids.map ATree.text := ⟨_, rfl⟩
      have hll : L0.length ≤ k + 1 := by rw [hL]; simp [HQ.out]
      rw [← hL] at TX1
      have HLL := Lib.hid hL
      clear htx hL TX
      go_wp2_with fail
      refine (HN.out wr (HALL.out _ HB.out).2.1).mono ?_
      rintro e w3 ⟨v3, rfl, ht3, hb3⟩
      have hsz3 := (HALL.out _ HB.out).2.2.2.2.2.1
      have HB3 := Lib.hid (HB.out.trans (hb3.mono hsz3))
      have TX3 := Lib.hid (TX1.out.bel hb3)
      obtain ⟨p3, cp3, rfl, hge4, hmx4⟩ : ∃ p cp, v3 = .slice p (namesF true bd).length cp ∧ (namesF true bd).length ≤ cp ∧ cp ≤ maxLen := by
        rcases ht3.form with ⟨h1, h2⟩ | ⟨g, cap, h1, h2, h3⟩
        · exact ⟨none, 0, by rw [h1, h2]; rfl, by rw [h2]; exact Nat.le_refl _, by unfold maxLen; omega⟩
        · exact ⟨_, _, h1, h2, h3⟩
      have hnl := namesF_len bd
      have hml2 := HMANY.out
      have hlen3 := HLEN.out
      obtain ⟨nm, hnm⟩ : ∃ nm, nm = namesF true bd := ⟨_, rfl⟩
      rw [← hnm] at ht3 hge4 hnl ⊢
      have HNMD := Lib.hid hnm
      have HT3 := Lib.hid ht3
      clear ht3 hnm hb3 TX1 HB
      have hend : ∀ (w4 : World) (v4 : Value), Hid (Texts w4 z v4 (L0 ++ nm)) → Hid (Below z w w4) → ∀ (op : Bool), Hid (ScopeAt (w4.alloc (.cells #[.pointer pp, .int .i64 (N a.b), v4, .bool op] 146)) w0.heap.size (⟨N a.b, L0 ++ nm, op⟩ :: S) (.pointer (some ⟨w4.heap.size, 0, none⟩)) ∧ FSt w0 fb mb N L out (w4.alloc (.cells #[.pointer pp, .int .i64 (N a.b), v4, .bool op] 146)) ∧ FFr w (w4.alloc (.cells #[.pointer pp, .int .i64 (N a.b), v4, .bool op] 146))) := fun w4 v4 h1 h2 op => Lib.hid (by
        obtain ⟨_, _, _, hs, _, hz, hz2⟩ := HALL.out _ h2.out
        have h3 := h2.out.alloc hz (.cells #[.pointer pp, .int .i64 (N a.b), v4, .bool op] 146)
        obtain ⟨_, _, hf, _, hr, _, _⟩ := HALL.out _ h3
        exact ⟨hs.new (s := ⟨N a.b, L0 ++ nm, op⟩) (h1.out.base hz2), hf, hr⟩)
      cases sb
      · simp only [Bool.not_false, Bool.true_and] at HD
        by_cases hpos : 0 < nm.length
        · obtain ⟨g4, hp⟩ : ∃ g, p3 = some ⟨g, 0, none⟩ := by
            rcases HT3.out.form with ⟨h1, h2⟩ | ⟨g, cap, h1, _, _⟩
            · rw [h2] at hpos; simp at hpos
            · simp only [Value.slice.injEq] at h1; exact ⟨g, h1.1⟩
          subst hp
          have hnews : Hid (∀ j u, (nm.map Value.string)[j]? = some u → w3.cell? ((⟨g4, 0, none⟩ : Addr).add j) = some u) := Lib.hid fun j u hu => World.ownsRow.cells HT3.out rfl j u hu
          have TX5 := TX3
          unfold Texts at TX5
          have hszz : Hid (z ≤ w3.heap.size) := Lib.hid (HALL.out _ HB3.out).2.2.2.2.2.1
          unfold maxLen at hmx4
          go_wp2_with (at_builtin; go_must (refine wpList_append_lies _ rfl (.tmp 161) (.tmp 163) 66 rfl z 9 i0 (.string ByteArray.empty) 1 16 Tryd.underlying66 hi hz0 hz1 hz2 rfl (by decide) v L0.length (L0.map Value.string) rfl TX5.out ⟨g4, 0, none⟩ nm.length cp3 (nm.map Value.string) rfl (by simp) hnews.out (by intro u hu; obtain ⟨x, _, rfl⟩ := List.mem_map.1 hu; rfl) hpos (by unfold maxLen; omega) (by omega) hszz.out w3.heap.size rfl ?_); intro g5 cap5 w4 hown4 hgrow4 hat4 hgl4; have HG := Lib.hid hgrow4; have HW := Lib.hid hown4; clear hgrow4 hown4 hat4 hgl4)
          have TX4 := Lib.hid (Texts.join HW.out)
          have HB4 := Lib.hid (HB3.out.grown HG.out hszz.out fun j hj => (World.ownsRow.lt TX5.out j hj).1)
          refine (HEV.out _ (HALL.out _ HB4.out).2.1).mono ?_
          rintro e w5 ⟨rfl, hb5⟩
          have hsz5 := (HALL.out _ HB4.out).2.2.2.2.2.1
          have TX5 := Lib.hid (TX4.out.bel hb5)
          have HB5 := Lib.hid (HB4.out.trans (hb5.mono hsz5))
          obtain ⟨ev, hev⟩ : ∃ ev, ev = evalsF bd := ⟨_, rfl⟩
          rw [← hev] at HD ⊢
          have HE := hend _ _ TX5 HB5 ev
          clear hend hev hb5 hsz5 TX4 HB4
          go_wp2_with fail
          refine (HC.out _ (⟨N a.b, L0 ++ nm, ev⟩ :: S) _ false HE.out.2.1 HE.out.1).mono ?_
          rintro e w6 ⟨rfl, hI6, hR6, hL6⟩
          have HI6 := Lib.hid hI6
          have HR6 := Lib.hid (HE.out.2.2.trans hR6)
          have HL6 := Lib.hid hL6
          clear hI6 hR6 hL6 HC HE
          go_wp2
          go_end0
          rw [HD.out]
          rw [← HNMD.out, ← HLL.out]
          exact ⟨rfl, HI6.out, HR6.out, by have := HL6.out; have := HMANY.out; omega⟩
        · have hn0 : nm = [] := List.eq_nil_of_length_eq_zero (by omega)
          subst hn0
          obtain ⟨pv, nv, cv, rfl⟩ := TX3.out.slice
          have TX4 : Hid (Texts w3 z (.slice pv nv cv) (L0 ++ [])) := by rw [List.append_nil]; exact TX3
          have HB4 := HB3
          have TX5 := TX3
          unfold Texts at TX5
          simp only [List.length_nil]
          go_wp2_with (at_builtin; go_must (refine wpList_append_empty rfl (.tmp 161) (.tmp 163) 66 rfl z 9 i0 1 Tryd.underlying66 hi (.slice pv nv cv) L0.length (L0.map Value.string) rfl TX5.out p3 cp3 rfl ?_))
          refine (HEV.out _ (HALL.out _ HB4.out).2.1).mono ?_
          rintro e w5 ⟨rfl, hb5⟩
          have hsz5 := (HALL.out _ HB4.out).2.2.2.2.2.1
          have TX5 := Lib.hid (TX4.out.bel hb5)
          have HB5 := Lib.hid (HB4.out.trans (hb5.mono hsz5))
          obtain ⟨ev, hev⟩ : ∃ ev, ev = evalsF bd := ⟨_, rfl⟩
          rw [← hev] at HD ⊢
          have HE := hend _ _ TX5 HB5 ev
          clear hend hev hb5 hsz5 TX4 HB4
          go_wp2_with fail
          refine (HC.out _ (⟨N a.b, L0 ++ [], ev⟩ :: S) _ false HE.out.2.1 HE.out.1).mono ?_
          rintro e w6 ⟨rfl, hI6, hR6, hL6⟩
          have HI6 := Lib.hid hI6
          have HR6 := Lib.hid (HE.out.2.2.trans hR6)
          have HL6 := Lib.hid hL6
          clear hI6 hR6 hL6 HC HE
          go_wp2
          go_end0
          rw [HD.out]
          rw [← HNMD.out, ← HLL.out]
          exact ⟨rfl, HI6.out, HR6.out, by have := HL6.out; have := HMANY.out; omega⟩
      · simp only [Bool.not_true, Bool.false_and] at HD
        by_cases hpos : 0 < nm.length
        · obtain ⟨g4, hp⟩ : ∃ g, p3 = some ⟨g, 0, none⟩ := by
            rcases HT3.out.form with ⟨h1, h2⟩ | ⟨g, cap, h1, _, _⟩
            · rw [h2] at hpos; simp at hpos
            · simp only [Value.slice.injEq] at h1; exact ⟨g, h1.1⟩
          subst hp
          have hnews : Hid (∀ j u, (nm.map Value.string)[j]? = some u → w3.cell? ((⟨g4, 0, none⟩ : Addr).add j) = some u) := Lib.hid fun j u hu => World.ownsRow.cells HT3.out rfl j u hu
          have TX5 := TX3
          unfold Texts at TX5
          have hszz : Hid (z ≤ w3.heap.size) := Lib.hid (HALL.out _ HB3.out).2.2.2.2.2.1
          unfold maxLen at hmx4
          go_wp2_with (at_builtin; go_must (refine wpList_append_lies _ rfl (.tmp 161) (.tmp 163) 66 rfl z 9 i0 (.string ByteArray.empty) 1 16 Tryd.underlying66 hi hz0 hz1 hz2 rfl (by decide) v L0.length (L0.map Value.string) rfl TX5.out ⟨g4, 0, none⟩ nm.length cp3 (nm.map Value.string) rfl (by simp) hnews.out (by intro u hu; obtain ⟨x, _, rfl⟩ := List.mem_map.1 hu; rfl) hpos (by unfold maxLen; omega) (by omega) hszz.out w3.heap.size rfl ?_); intro g5 cap5 w4 hown4 hgrow4 hat4 hgl4; have HG := Lib.hid hgrow4; have HW := Lib.hid hown4; clear hgrow4 hown4 hat4 hgl4)
          have TX4 := Lib.hid (Texts.join HW.out)
          have HB4 := Lib.hid (HB3.out.grown HG.out hszz.out fun j hj => (World.ownsRow.lt TX5.out j hj).1)
          have HE := hend _ _ TX4 HB4 false
          clear hend
          refine (HC.out _ (⟨N a.b, L0 ++ nm, false⟩ :: S) _ true HE.out.2.1 HE.out.1).mono ?_
          rintro e w6 ⟨rfl, hI6, hR6, hL6⟩
          have HI6 := Lib.hid hI6
          have HR6 := Lib.hid (HE.out.2.2.trans hR6)
          have HL6 := Lib.hid hL6
          clear hI6 hR6 hL6 HC HE
          go_wp2
          go_end0
          rw [HD.out]
          rw [← HNMD.out, ← HLL.out]
          exact ⟨rfl, HI6.out, HR6.out, by have := HL6.out; have := HMANY.out; omega⟩
        · have hn0 : nm = [] := List.eq_nil_of_length_eq_zero (by omega)
          subst hn0
          obtain ⟨pv, nv, cv, rfl⟩ := TX3.out.slice
          have TX4 : Hid (Texts w3 z (.slice pv nv cv) (L0 ++ [])) := by rw [List.append_nil]; exact TX3
          have HB4 := HB3
          have TX5 := TX3
          unfold Texts at TX5
          simp only [List.length_nil]
          go_wp2_with (at_builtin; go_must (refine wpList_append_empty rfl (.tmp 161) (.tmp 163) 66 rfl z 9 i0 1 Tryd.underlying66 hi (.slice pv nv cv) L0.length (L0.map Value.string) rfl TX5.out p3 cp3 rfl ?_))
          have HE := hend _ _ TX4 HB4 false
          clear hend
          refine (HC.out _ (⟨N a.b, L0 ++ [], false⟩ :: S) _ true HE.out.2.1 HE.out.1).mono ?_
          rintro e w6 ⟨rfl, hI6, hR6, hL6⟩
          have HI6 := Lib.hid hI6
          have HR6 := Lib.hid (HE.out.2.2.trans hR6)
          have HL6 := Lib.hid hL6
          clear hI6 hR6 hL6 HC HE
          go_wp2
          go_end0
          rw [HD.out]
          rw [← HNMD.out, ← HLL.out]
          exact ⟨rfl, HI6.out, HR6.out, by have := HL6.out; have := HMANY.out; omega⟩

set_option maxHeartbeats 16000000 in
theorem node_func_e {w0 : World} {fb mb : Nat} {N : Nat → Nat} {L : List (Nat × Nat)} {Ok : ATree → Prop} {m : Nat} (hK : KidsSays w0 fb mb N L Ok m)
    (a : ATree) (B : Nat) (w : World) (S : List Sc) (sv : Value) (out : List Us) (hm : a.many ≤ m + 1) (hT : TreeAt w0 B a) (hnum : ∀ x ∈ a.subs, (x.b, N x.b) ∈ L) (hlen : out.length + a.many < 274877906944) (hF : FSt w0 fb mb N L out w) (hS : ScopeAt w w0.heap.size S sv)
    (h1 : a.kind = 37) (ht : a.text ≠ ByteArray.empty) (ps bd : ATree) (hk : a.kids = [ps, bd]) (hok : ∀ k ∈ bd.kids, Ok k) (hcall : CallKids bd) :
    Calls Tryd.prog 92 #[.pointer (some ⟨fb, 0, none⟩), a.ptr, sv, .bool true] w fun e w' => e = .returned (.tuple #[]) ∧ FSt w0 fb mb N L (out ++ nodeF N a S true) w' ∧ FFr w w' ∧ (nodeF N a S true).length ≤ a.many := by
  obtain ⟨i0, hi, hz0, hz1, hz2⟩ := info_parts Tryd.infoStr
  have hTw : TreeAt w B a := hT.keep fun k _ hk => hF.bel.block k hk
  have hmem : ps ∈ a.kids ∧ bd ∈ a.kids := by rw [hk]; simp
  have hdef : nodeF N a S true = kidsF N bd.kids (⟨N a.b, (s_arguments :: ps.kids.map ATree.text) ++ namesF true bd, false⟩ :: (⟨N a.b, [a.text], false⟩ :: S)) (true) := by
    obtain ⟨b, v, k, t, n, ks⟩ := a
    obtain ⟨b2, v2, k2, t2, n2, ks2⟩ := bd
    obtain ⟨b1, v1, k1, t1, n1, ks1⟩ := ps
    simp only [ATree.kind, ATree.kids, ATree.text] at *
    subst hk
    subst h1
    rw [nodeF.eq_def]
    simp [ATree.b, ATree.kids, ht]
  have hmany : a.many = ps.many + bd.many + 1 := by
    obtain ⟨b, v, k, t, n, ks⟩ := a
    simp only [ATree.kids] at hk
    subst hk
    simp only [ATree.many, manyLA]
    omega
  obtain ⟨p, cp, hv, hge, hmx⟩ := hTw.vOf
  have hrow := hTw.rowOf
  obtain ⟨g, hp⟩ : ∃ g, p = some ⟨g, 0, none⟩ := by
    rcases ownsRow_cases hrow with ⟨_, h2⟩ | ⟨g, cap, h1, _⟩
    · rw [hk] at h2; simp at h2
    · rw [hv] at h1; simp only [Value.slice.injEq] at h1; exact ⟨g, h1.1⟩
  subst hp
  have c3 : w.cell? ⟨a.b, 3, none⟩ = some (.slice (some ⟨g, 0, none⟩) 2 cp) := by rw [show (2 : Nat) = a.kids.length by rw [hk]; rfl, ← hv]; exact hTw.c3
  have cx := ownsRow_cell1 hrow (g := g) (by rw [hv]; rfl) (i := 0) (x := ps.ptr) (by rw [hk]; rfl)
  have cy := ownsRow_cell1 hrow (g := g) (by rw [hv]; rfl) (i := 1) (x := bd.ptr) (by rw [hk]; rfl)
  have hge2 : 2 ≤ cp := by rw [hk] at hge; exact hge
  unfold maxLen at hmx
  have hlg := (World.ownsRow.lt hrow g (by rw [hv]; rfl)).2
  have hTp := hTw.kid hmem.1
  obtain ⟨p2, cp2, hv2, hge3, hmx2⟩ := hTp.vOf
  have p3 : w.cell? ⟨ps.b, 3, none⟩ = some (.slice p2 ps.kids.length cp2) := by rw [← hv2]; exact hTp.c3
  have hkl := kids_le ps
  have hlen2 : ps.kids.length ≤ 9223372036854775807 := by unfold maxLen at hmx2; omega
  have hql : ps.kids.length < 274877906944 := by omega
  have HV2 := Lib.hid hv2
  have hkeep : ∀ W, Below w.heap.size w W → W.cell? ⟨a.b, 3, none⟩ = some (.slice (some ⟨g, 0, none⟩) 2 cp) ∧ W.cell? ⟨g, 0, none⟩ = some ps.ptr ∧ W.cell? ⟨g, 1, none⟩ = some bd.ptr ∧ W.cell? ⟨ps.b, 3, none⟩ = some (.slice p2 ps.kids.length cp2) := fun W h =>
    ⟨(World.cell?_of_block (h.block a.b hTw.lt)).trans c3, (World.cell?_of_block (h.block g hlg)).trans cx, (World.cell?_of_block (h.block g hlg)).trans cy, (World.cell?_of_block (h.block ps.b hTp.lt)).trans p3⟩
  have HC := Lib.hid (fun w1 S' sv' st' h1 h2 => hK bd B w1 S' sv' st' out (by omega) hok (hT.kid hmem.2) (fun z hz => hnum z (subs_kid hmem.2 hz)) (by omega) h1 h2)
  have HN := Lib.hid (fun wr (h : TreeAt wr B bd) => names_any true wr B bd h (by omega))
  have d0 := hTw.c0
  rw [h1] at d0
  have f0 := hF.c0
  obtain ⟨pp, rfl⟩ := hS.ptr
  have d1 := hTw.c1
  obtain ⟨tx, htx⟩ : ∃ tx, tx = a.text := ⟨_, rfl⟩
  rw [← htx] at d1 hdef ht
  have n0 : (tx.toList == (⟨#[]⟩ : ByteArray).toList) = false := by rw [toList_beq]; simp [sameS]; exact ht
  have n1 : (tx.toList == []) = false := by
    rwa [show (⟨#[]⟩ : ByteArray).toList = [] by kernel_rfl] at n0
  clear n0
  have hb0 : Below w.heap.size w (w.alloc (.cells #[.string tx] 9)) := (Below.refl w.heap.size w).alloc (Nat.le_refl _) _
  have hsc := (hS.bel hb0).new (s := ⟨N a.b, [tx], false⟩) (Texts.one hF.bel.size tx)
  have hb1 : Below w.heap.size w ((w.alloc (.cells #[.string tx] 9)).alloc (.cells #[.pointer pp, .int .i64 (N a.b), .slice (some ⟨w.heap.size, 0, none⟩) 1 1, .bool false] 146)) := hb0.alloc (by simp) _
  rw [World.size_alloc] at hsc
  obtain ⟨k3, _, ky, _⟩ := hkeep _ hb1
  obtain ⟨l3, lx, _, l4⟩ := hkeep (((w.alloc (.cells #[.string tx] 9)).alloc (.cells #[.pointer pp, .int .i64 (N a.b), .slice (some ⟨w.heap.size, 0, none⟩) 1 1, .bool false] 146)).alloc (.cells #[.string ⟨#[97, 114, 103, 117, 109, 101, 110, 116, 115]⟩] 9)) (hb1.alloc hb1.size _)
  obtain ⟨z, hzz⟩ : ∃ z, z = ((w.alloc (.cells #[.string tx] 9)).alloc (.cells #[.pointer pp, .int .i64 (N a.b), .slice (some ⟨w.heap.size, 0, none⟩) 1 1, .bool false] 146)).heap.size := ⟨_, rfl⟩
  have hall : ∀ W, Below z ((w.alloc (.cells #[.string tx] 9)).alloc (.cells #[.pointer pp, .int .i64 (N a.b), .slice (some ⟨w.heap.size, 0, none⟩) 1 1, .bool false] 146)) W → TreeAt W B ps ∧ TreeAt W B bd ∧ FSt w0 fb mb N L out W ∧ ScopeAt W w0.heap.size (⟨N a.b, [tx], false⟩ :: S) (.pointer (some ⟨w.heap.size + 1, 0, none⟩)) ∧ FFr w W ∧ z ≤ W.heap.size ∧ w0.heap.size ≤ z := fun W hW => by
    rw [hzz] at hW
    have h2 : Below w.heap.size w W := hb1.trans (hW.mono hb1.size)
    exact ⟨hTp.bel h2, (hTw.kid hmem.2).bel h2, hF.on h2, hsc.bel hW, FFr.bel h2, by rw [hzz]; exact hW.size, by rw [hzz]; exact Nat.le_trans hF.bel.size hb1.size⟩
  have hst : Below z ((w.alloc (.cells #[.string tx] 9)).alloc (.cells #[.pointer pp, .int .i64 (N a.b), .slice (some ⟨w.heap.size, 0, none⟩) 1 1, .bool false] 146)) (((w.alloc (.cells #[.string tx] 9)).alloc (.cells #[.pointer pp, .int .i64 (N a.b), .slice (some ⟨w.heap.size, 0, none⟩) 1 1, .bool false] 146)).alloc (.cells #[.string ⟨#[97, 114, 103, 117, 109, 101, 110, 116, 115]⟩] 9)) := (Below.refl z _).alloc (by rw [hzz]; exact Nat.le_refl _) _
  have htx0 : Texts (((w.alloc (.cells #[.string tx] 9)).alloc (.cells #[.pointer pp, .int .i64 (N a.b), .slice (some ⟨w.heap.size, 0, none⟩) 1 1, .bool false] 146)).alloc (.cells #[.string ⟨#[97, 114, 103, 117, 109, 101, 110, 116, 115]⟩] 9)) z (.slice (some ⟨((w.alloc (.cells #[.string tx] 9)).alloc (.cells #[.pointer pp, .int .i64 (N a.b), .slice (some ⟨w.heap.size, 0, none⟩) 1 1, .bool false] 146)).heap.size, 0, none⟩) 1 1) [s_arguments] := Texts.one (by rw [hzz]; exact Nat.le_refl _) s_arguments
  rw [World.size_alloc, World.size_alloc] at htx0
  have HALL := Lib.hid hall
  have HST0 := Lib.hid hst
  have HTX0 := Lib.hid htx0
  have HB1 := Lib.hid hb1
  have HD := Lib.hid hdef
  have HF := Lib.hid hF
  have HIN := Lib.hid (hnum a (subs_self a))
  have HMANY := Lib.hid hmany
  have HLEN := Lib.hid hlen
  unfold ATree.ptr at HC HN ky lx ⊢
  obtain ⟨q, hq⟩ : ∃ q, q = ps.kids.length := ⟨_, rfl⟩
  rw [← hq] at l4 hlen2 hge3 hql
  have HQ := Lib.hid hq
  have HZ := Lib.hid hzz
  clear ht htx hb0
  clear hTw hdef hK hok hT hnum hF hS hm hlen h1 hk hrow hv hkeep hmany hmem hge hcall c3 cx cy p3 hTp hv2 hall hst htx0 hb1 hsc hq hkl hzz
  go_enter Tryd.func92, Tryd.ntmps92
  go_wp2_with (at_lookup; go_must (refine wpList_lookup_node _ rfl _ _ rfl mb a.b (N a.b) L rfl rfl HF.out.map HF.out.number HF.out.nodup HIN.out ?_))
  go_loopw [11, 149] (fun v i wr => ∃ (k : Nat) (v' : Value), v' = v ∧ k ≤ q ∧ i = .int .i64 k ∧ Hid (Texts wr z v' (s_arguments :: (ps.kids.take k).map ATree.text)) ∧ Hid (Below z ((w.alloc (.cells #[.string tx] 9)).alloc (.cells #[.pointer pp, .int .i64 (N a.b), .slice (some ⟨w.heap.size, 0, none⟩) 1 1, .bool false] 146)) wr)) (fun _ i _ => q - (intOf i).toNat)
  case atStart => exact ⟨0, _, rfl, Nat.zero_le _, rfl, HTX0, HST0⟩
  case round =>
    obtain ⟨k, v, rfl, hk, rfl, TX, HB⟩ := hrel
    clear HTX0 HST0
    by_cases hkn : k < q
    · obtain ⟨x, hx⟩ : ∃ x, ps.kids[k]? = some x := ⟨_, List.getElem?_eq_getElem (by rw [← HQ.out]; exact hkn)⟩
      obtain ⟨hTp, _, _, _, _, hsz, _⟩ := HALL.out _ HB.out
      have hrow := hTp.rowOf
      rcases ownsRow_cases hrow with ⟨_, h2⟩ | ⟨g0, cap0, hv0, _⟩
      · rw [← HQ.out] at h2; omega
      have hp : p2 = some ⟨g0, 0, none⟩ := by
        have := HV2.out.symm.trans hv0
        simp only [Value.slice.injEq] at this
        exact this.1
      subst hp
      have cx := ownsRow_cell1 hrow (g := g0) (by rw [hv0]; rfl) (i := k) (x := x.ptr) (by rw [List.getElem?_map, hx]; rfl)
      unfold ATree.ptr at cx
      have c1 := (hTp.kid (List.mem_of_getElem? hx)).c1
      have HX := Lib.hid hx
      obtain ⟨L0, hL⟩ : ∃ L0, L0 = s_arguments :: (ps.kids.take k).map ATree.text := ⟨_, rfl⟩
      have hll : L0.length ≤ k + 1 := by rw [hL]; simp; omega
      rw [← hL] at TX
      have HLL := Lib.hid hL
      have TX2 := TX
      unfold Texts at TX
      clear hTp hrow hv0 hx hL
      go_wp2_with (at_builtin; go_must (refine wpList_append_lies _ rfl (.tmp 153) (.tmp 158) 66 rfl z 9 i0 (.string ByteArray.empty) 1 16 Tryd.underlying66 hi hz0 hz1 hz2 rfl (by decide) v L0.length (L0.map Value.string) rfl (TX.out.alloc _) ⟨wr.heap.size, 0, none⟩ 1 1 [.string x.text] rfl rfl (fun j u hu => cell_one_new wr _ _ j u hu) (by intro u hu; simp at hu; subst hu; rfl) (by first | omega | (simp; omega)) (by unfold maxLen; omega) (by first | omega | (simp; omega)) (by first | omega | (simp; omega)) (wr.heap.size + 1) (by simp) ?_); intro g cap w3 hown2 hgrow2 hat2 hgl2; have HG := Lib.hid hgrow2; have HW := Lib.hid hown2; clear hgrow2 hown2 hat2 hgl2)
      go_roundw
      case rel =>
        refine ⟨k + 1, _, rfl, by omega, by go_num, Lib.hid ?_, Lib.hid ?_⟩
        · rw [take_succ_kid HX.out, List.map_append, ← List.cons_append, ← HLL.out]
          exact texts_push HW.out
        · exact (HB.out.alloc hsz _).grown HG.out (by simp; omega) fun j hj => (World.ownsRow.lt TX.out j hj).1
      case measure => simp [intOf]; omega
    · have hk2 : k = q := by omega
      subst hk2
      have htx : Texts wr z v (s_arguments :: ps.kids.map ATree.text) := by
        have := TX.out
        rwa [List.take_of_length_le (by rw [← HQ.out]; exact Nat.le_refl _)] at this
      have TX1 := Lib.hid htx
      obtain ⟨L0, hL⟩ : ∃ L0, L0 = s_arguments :: ps.kids.map ATree.text := ⟨_, rfl⟩
      have hll : L0.length ≤ k + 1 := by rw [hL]; simp [HQ.out]
      rw [← hL] at TX1
      have HLL := Lib.hid hL
      clear htx hL TX
      go_wp2_with fail
      refine (HN.out wr (HALL.out _ HB.out).2.1).mono ?_
      rintro e w3 ⟨v3, rfl, ht3, hb3⟩
      have hsz3 := (HALL.out _ HB.out).2.2.2.2.2.1
      have HB3 := Lib.hid (HB.out.trans (hb3.mono hsz3))
      have TX3 := Lib.hid (TX1.out.bel hb3)
      obtain ⟨p3, cp3, rfl, hge4, hmx4⟩ : ∃ p cp, v3 = .slice p (namesF true bd).length cp ∧ (namesF true bd).length ≤ cp ∧ cp ≤ maxLen := by
        rcases ht3.form with ⟨h1, h2⟩ | ⟨g, cap, h1, h2, h3⟩
        · exact ⟨none, 0, by rw [h1, h2]; rfl, by rw [h2]; exact Nat.le_refl _, by unfold maxLen; omega⟩
        · exact ⟨_, _, h1, h2, h3⟩
      have hnl := namesF_len bd
      have hml2 := HMANY.out
      have hlen3 := HLEN.out
      obtain ⟨nm, hnm⟩ : ∃ nm, nm = namesF true bd := ⟨_, rfl⟩
      rw [← hnm] at ht3 hge4 hnl ⊢
      have HNMD := Lib.hid hnm
      have HT3 := Lib.hid ht3
      clear ht3 hnm hb3 TX1 HB
      have hend : ∀ (w4 : World) (v4 : Value), Hid (Texts w4 z v4 (L0 ++ nm)) → Hid (Below z ((w.alloc (.cells #[.string tx] 9)).alloc (.cells #[.pointer pp, .int .i64 (N a.b), .slice (some ⟨w.heap.size, 0, none⟩) 1 1, .bool false] 146)) w4) → ∀ (op : Bool), Hid (ScopeAt (w4.alloc (.cells #[.pointer (some ⟨w.heap.size + 1, 0, none⟩), .int .i64 (N a.b), v4, .bool op] 146)) w0.heap.size (⟨N a.b, L0 ++ nm, op⟩ :: (⟨N a.b, [tx], false⟩ :: S)) (.pointer (some ⟨w4.heap.size, 0, none⟩)) ∧ FSt w0 fb mb N L out (w4.alloc (.cells #[.pointer (some ⟨w.heap.size + 1, 0, none⟩), .int .i64 (N a.b), v4, .bool op] 146)) ∧ FFr w (w4.alloc (.cells #[.pointer (some ⟨w.heap.size + 1, 0, none⟩), .int .i64 (N a.b), v4, .bool op] 146))) := fun w4 v4 h1 h2 op => Lib.hid (by
        obtain ⟨_, _, _, hs, _, hz, hz2⟩ := HALL.out _ h2.out
        have h3 := h2.out.alloc hz (.cells #[.pointer (some ⟨w.heap.size + 1, 0, none⟩), .int .i64 (N a.b), v4, .bool op] 146)
        obtain ⟨_, _, hf, _, hr, _, _⟩ := HALL.out _ h3
        exact ⟨hs.new (s := ⟨N a.b, L0 ++ nm, op⟩) (h1.out.base hz2), hf, hr⟩)
      by_cases hpos : 0 < nm.length
      · obtain ⟨g4, hp⟩ : ∃ g, p3 = some ⟨g, 0, none⟩ := by
          rcases HT3.out.form with ⟨h1, h2⟩ | ⟨g, cap, h1, _, _⟩
          · rw [h2] at hpos; simp at hpos
          · simp only [Value.slice.injEq] at h1; exact ⟨g, h1.1⟩
        subst hp
        have hnews : Hid (∀ j u, (nm.map Value.string)[j]? = some u → w3.cell? ((⟨g4, 0, none⟩ : Addr).add j) = some u) := Lib.hid fun j u hu => World.ownsRow.cells HT3.out rfl j u hu
        have TX5 := TX3
        unfold Texts at TX5
        have hszz : Hid (z ≤ w3.heap.size) := Lib.hid (HALL.out _ HB3.out).2.2.2.2.2.1
        unfold maxLen at hmx4
        go_wp2_with (at_builtin; go_must (refine wpList_append_lies _ rfl (.tmp 161) (.tmp 163) 66 rfl z 9 i0 (.string ByteArray.empty) 1 16 Tryd.underlying66 hi hz0 hz1 hz2 rfl (by decide) v L0.length (L0.map Value.string) rfl TX5.out ⟨g4, 0, none⟩ nm.length cp3 (nm.map Value.string) rfl (by simp) hnews.out (by intro u hu; obtain ⟨x, _, rfl⟩ := List.mem_map.1 hu; rfl) hpos (by unfold maxLen; omega) (by omega) hszz.out w3.heap.size rfl ?_); intro g5 cap5 w4 hown4 hgrow4 hat4 hgl4; have HG := Lib.hid hgrow4; have HW := Lib.hid hown4; clear hgrow4 hown4 hat4 hgl4)
        have TX4 := Lib.hid (Texts.join HW.out)
        have HB4 := Lib.hid (HB3.out.grown HG.out hszz.out fun j hj => (World.ownsRow.lt TX5.out j hj).1)
        have HE := hend _ _ TX4 HB4 false
        clear hend
        refine (HC.out _ (⟨N a.b, L0 ++ nm, false⟩ :: (⟨N a.b, [tx], false⟩ :: S)) _ true HE.out.2.1 HE.out.1).mono ?_
        rintro e w6 ⟨rfl, hI6, hR6, hL6⟩
        have HI6 := Lib.hid hI6
        have HR6 := Lib.hid (HE.out.2.2.trans hR6)
        have HL6 := Lib.hid hL6
        clear hI6 hR6 hL6 HC HE
        go_wp2
        go_end0
        rw [HD.out]
        rw [← HNMD.out, ← HLL.out]
        exact ⟨rfl, HI6.out, HR6.out, by have := HL6.out; have := HMANY.out; omega⟩
      · have hn0 : nm = [] := List.eq_nil_of_length_eq_zero (by omega)
        subst hn0
        obtain ⟨pv, nv, cv, rfl⟩ := TX3.out.slice
        have TX4 : Hid (Texts w3 z (.slice pv nv cv) (L0 ++ [])) := by rw [List.append_nil]; exact TX3
        have HB4 := HB3
        have TX5 := TX3
        unfold Texts at TX5
        simp only [List.length_nil]
        go_wp2_with (at_builtin; go_must (refine wpList_append_empty rfl (.tmp 161) (.tmp 163) 66 rfl z 9 i0 1 Tryd.underlying66 hi (.slice pv nv cv) L0.length (L0.map Value.string) rfl TX5.out p3 cp3 rfl ?_))
        have HE := hend _ _ TX4 HB4 false
        clear hend
        refine (HC.out _ (⟨N a.b, L0 ++ [], false⟩ :: (⟨N a.b, [tx], false⟩ :: S)) _ true HE.out.2.1 HE.out.1).mono ?_
        rintro e w6 ⟨rfl, hI6, hR6, hL6⟩
        have HI6 := Lib.hid hI6
        have HR6 := Lib.hid (HE.out.2.2.trans hR6)
        have HL6 := Lib.hid hL6
        clear hI6 hR6 hL6 HC HE
        go_wp2
        go_end0
        rw [HD.out]
        rw [← HNMD.out, ← HLL.out]
        exact ⟨rfl, HI6.out, HR6.out, by have := HL6.out; have := HMANY.out; omega⟩

set_option maxHeartbeats 16000000 in
theorem node_func_f {w0 : World} {fb mb : Nat} {N : Nat → Nat} {L : List (Nat × Nat)} {Ok : ATree → Prop} {m : Nat} (hK : KidsSays w0 fb mb N L Ok m)
    (a : ATree) (B : Nat) (w : World) (S : List Sc) (sv : Value) (out : List Us) (hm : a.many ≤ m + 1) (hT : TreeAt w0 B a) (hnum : ∀ x ∈ a.subs, (x.b, N x.b) ∈ L) (hlen : out.length + a.many < 274877906944) (hF : FSt w0 fb mb N L out w) (hS : ScopeAt w w0.heap.size S sv)
    (h1 : a.kind = 37) (ht : a.text ≠ ByteArray.empty) (ps bd : ATree) (hk : a.kids = [ps, bd]) (hok : ∀ k ∈ bd.kids, Ok k) (hcall : CallKids bd) :
    Calls Tryd.prog 92 #[.pointer (some ⟨fb, 0, none⟩), a.ptr, sv, .bool false] w fun e w' => e = .returned (.tuple #[]) ∧ FSt w0 fb mb N L (out ++ nodeF N a S false) w' ∧ FFr w w' ∧ (nodeF N a S false).length ≤ a.many := by
  obtain ⟨i0, hi, hz0, hz1, hz2⟩ := info_parts Tryd.infoStr
  have hTw : TreeAt w B a := hT.keep fun k _ hk => hF.bel.block k hk
  have hmem : ps ∈ a.kids ∧ bd ∈ a.kids := by rw [hk]; simp
  have hdef : nodeF N a S false = kidsF N bd.kids (⟨N a.b, (s_arguments :: ps.kids.map ATree.text) ++ namesF true bd, (!isStrict bd && evalsF bd)⟩ :: (⟨N a.b, [a.text], false⟩ :: S)) (isStrict bd) := by
    obtain ⟨b, v, k, t, n, ks⟩ := a
    obtain ⟨b2, v2, k2, t2, n2, ks2⟩ := bd
    obtain ⟨b1, v1, k1, t1, n1, ks1⟩ := ps
    simp only [ATree.kind, ATree.kids, ATree.text] at *
    subst hk
    subst h1
    rw [nodeF.eq_def]
    simp [ATree.b, ATree.kids, ht]
  have hmany : a.many = ps.many + bd.many + 1 := by
    obtain ⟨b, v, k, t, n, ks⟩ := a
    simp only [ATree.kids] at hk
    subst hk
    simp only [ATree.many, manyLA]
    omega
  obtain ⟨p, cp, hv, hge, hmx⟩ := hTw.vOf
  have hrow := hTw.rowOf
  obtain ⟨g, hp⟩ : ∃ g, p = some ⟨g, 0, none⟩ := by
    rcases ownsRow_cases hrow with ⟨_, h2⟩ | ⟨g, cap, h1, _⟩
    · rw [hk] at h2; simp at h2
    · rw [hv] at h1; simp only [Value.slice.injEq] at h1; exact ⟨g, h1.1⟩
  subst hp
  have c3 : w.cell? ⟨a.b, 3, none⟩ = some (.slice (some ⟨g, 0, none⟩) 2 cp) := by rw [show (2 : Nat) = a.kids.length by rw [hk]; rfl, ← hv]; exact hTw.c3
  have cx := ownsRow_cell1 hrow (g := g) (by rw [hv]; rfl) (i := 0) (x := ps.ptr) (by rw [hk]; rfl)
  have cy := ownsRow_cell1 hrow (g := g) (by rw [hv]; rfl) (i := 1) (x := bd.ptr) (by rw [hk]; rfl)
  have hge2 : 2 ≤ cp := by rw [hk] at hge; exact hge
  unfold maxLen at hmx
  have hlg := (World.ownsRow.lt hrow g (by rw [hv]; rfl)).2
  have hTp := hTw.kid hmem.1
  obtain ⟨p2, cp2, hv2, hge3, hmx2⟩ := hTp.vOf
  have p3 : w.cell? ⟨ps.b, 3, none⟩ = some (.slice p2 ps.kids.length cp2) := by rw [← hv2]; exact hTp.c3
  have hkl := kids_le ps
  have hlen2 : ps.kids.length ≤ 9223372036854775807 := by unfold maxLen at hmx2; omega
  have hql : ps.kids.length < 274877906944 := by omega
  have HV2 := Lib.hid hv2
  have hkeep : ∀ W, Below w.heap.size w W → W.cell? ⟨a.b, 3, none⟩ = some (.slice (some ⟨g, 0, none⟩) 2 cp) ∧ W.cell? ⟨g, 0, none⟩ = some ps.ptr ∧ W.cell? ⟨g, 1, none⟩ = some bd.ptr ∧ W.cell? ⟨ps.b, 3, none⟩ = some (.slice p2 ps.kids.length cp2) := fun W h =>
    ⟨(World.cell?_of_block (h.block a.b hTw.lt)).trans c3, (World.cell?_of_block (h.block g hlg)).trans cx, (World.cell?_of_block (h.block g hlg)).trans cy, (World.cell?_of_block (h.block ps.b hTp.lt)).trans p3⟩
  have HC := Lib.hid (fun w1 S' sv' st' h1 h2 => hK bd B w1 S' sv' st' out (by omega) hok (hT.kid hmem.2) (fun z hz => hnum z (subs_kid hmem.2 hz)) (by omega) h1 h2)
  have HN := Lib.hid (fun wr (h : TreeAt wr B bd) => names_any true wr B bd h (by omega))
  have HEV := Lib.hid (fun wr (h : TreeAt wr B bd) => evals_any wr B bd h hcall)
  have HST := Lib.hid (fun wr (h : TreeAt wr B bd) => strict_any wr B bd h)
  obtain ⟨sb, hsb⟩ : ∃ sb, sb = isStrict bd := ⟨_, rfl⟩
  rw [← hsb] at HST hdef
  clear hsb
  have d0 := hTw.c0
  rw [h1] at d0
  have f0 := hF.c0
  obtain ⟨pp, rfl⟩ := hS.ptr
  have d1 := hTw.c1
  obtain ⟨tx, htx⟩ : ∃ tx, tx = a.text := ⟨_, rfl⟩
  rw [← htx] at d1 hdef ht
  have n0 : (tx.toList == (⟨#[]⟩ : ByteArray).toList) = false := by rw [toList_beq]; simp [sameS]; exact ht
  have n1 : (tx.toList == []) = false := by
    rwa [show (⟨#[]⟩ : ByteArray).toList = [] by kernel_rfl] at n0
  clear n0
  have hb0 : Below w.heap.size w (w.alloc (.cells #[.string tx] 9)) := (Below.refl w.heap.size w).alloc (Nat.le_refl _) _
  have hsc := (hS.bel hb0).new (s := ⟨N a.b, [tx], false⟩) (Texts.one hF.bel.size tx)
  have hb1 : Below w.heap.size w ((w.alloc (.cells #[.string tx] 9)).alloc (.cells #[.pointer pp, .int .i64 (N a.b), .slice (some ⟨w.heap.size, 0, none⟩) 1 1, .bool false] 146)) := hb0.alloc (by simp) _
  rw [World.size_alloc] at hsc
  obtain ⟨k3, _, ky, _⟩ := hkeep _ hb1
  obtain ⟨l3, lx, _, l4⟩ := hkeep (((w.alloc (.cells #[.string tx] 9)).alloc (.cells #[.pointer pp, .int .i64 (N a.b), .slice (some ⟨w.heap.size, 0, none⟩) 1 1, .bool false] 146)).alloc (.cells #[.string ⟨#[97, 114, 103, 117, 109, 101, 110, 116, 115]⟩] 9)) (hb1.alloc hb1.size _)
  obtain ⟨z, hzz⟩ : ∃ z, z = ((w.alloc (.cells #[.string tx] 9)).alloc (.cells #[.pointer pp, .int .i64 (N a.b), .slice (some ⟨w.heap.size, 0, none⟩) 1 1, .bool false] 146)).heap.size := ⟨_, rfl⟩
  have hall : ∀ W, Below z ((w.alloc (.cells #[.string tx] 9)).alloc (.cells #[.pointer pp, .int .i64 (N a.b), .slice (some ⟨w.heap.size, 0, none⟩) 1 1, .bool false] 146)) W → TreeAt W B ps ∧ TreeAt W B bd ∧ FSt w0 fb mb N L out W ∧ ScopeAt W w0.heap.size (⟨N a.b, [tx], false⟩ :: S) (.pointer (some ⟨w.heap.size + 1, 0, none⟩)) ∧ FFr w W ∧ z ≤ W.heap.size ∧ w0.heap.size ≤ z := fun W hW => by
    rw [hzz] at hW
    have h2 : Below w.heap.size w W := hb1.trans (hW.mono hb1.size)
    exact ⟨hTp.bel h2, (hTw.kid hmem.2).bel h2, hF.on h2, hsc.bel hW, FFr.bel h2, by rw [hzz]; exact hW.size, by rw [hzz]; exact Nat.le_trans hF.bel.size hb1.size⟩
  have hst : Below z ((w.alloc (.cells #[.string tx] 9)).alloc (.cells #[.pointer pp, .int .i64 (N a.b), .slice (some ⟨w.heap.size, 0, none⟩) 1 1, .bool false] 146)) (((w.alloc (.cells #[.string tx] 9)).alloc (.cells #[.pointer pp, .int .i64 (N a.b), .slice (some ⟨w.heap.size, 0, none⟩) 1 1, .bool false] 146)).alloc (.cells #[.string ⟨#[97, 114, 103, 117, 109, 101, 110, 116, 115]⟩] 9)) := (Below.refl z _).alloc (by rw [hzz]; exact Nat.le_refl _) _
  have htx0 : Texts (((w.alloc (.cells #[.string tx] 9)).alloc (.cells #[.pointer pp, .int .i64 (N a.b), .slice (some ⟨w.heap.size, 0, none⟩) 1 1, .bool false] 146)).alloc (.cells #[.string ⟨#[97, 114, 103, 117, 109, 101, 110, 116, 115]⟩] 9)) z (.slice (some ⟨((w.alloc (.cells #[.string tx] 9)).alloc (.cells #[.pointer pp, .int .i64 (N a.b), .slice (some ⟨w.heap.size, 0, none⟩) 1 1, .bool false] 146)).heap.size, 0, none⟩) 1 1) [s_arguments] := Texts.one (by rw [hzz]; exact Nat.le_refl _) s_arguments
  rw [World.size_alloc, World.size_alloc] at htx0
  have HALL := Lib.hid hall
  have HST0 := Lib.hid hst
  have HTX0 := Lib.hid htx0
  have HB1 := Lib.hid hb1
  have HD := Lib.hid hdef
  have HF := Lib.hid hF
  have HIN := Lib.hid (hnum a (subs_self a))
  have HMANY := Lib.hid hmany
  have HLEN := Lib.hid hlen
  unfold ATree.ptr at HC HN ky lx HEV HST ⊢
  obtain ⟨q, hq⟩ : ∃ q, q = ps.kids.length := ⟨_, rfl⟩
  rw [← hq] at l4 hlen2 hge3 hql
  have HQ := Lib.hid hq
  have HZ := Lib.hid hzz
  clear ht htx hb0
  clear hTw hdef hK hok hT hnum hF hS hm hlen h1 hk hrow hv hkeep hmany hmem hge hcall c3 cx cy p3 hTp hv2 hall hst htx0 hb1 hsc hq hkl hzz
  go_enter Tryd.func92, Tryd.ntmps92
  go_wp2_with (at_lookup; go_must (refine wpList_lookup_node _ rfl _ _ rfl mb a.b (N a.b) L rfl rfl HF.out.map HF.out.number HF.out.nodup HIN.out ?_))
  refine (HST.out _ (HALL.out _ (Below.refl _ _)).2.1).mono ?_
  rintro e w' ⟨rfl, hww⟩
  rw [hww]
  clear hww
  go_wp2_with fail
  go_loopw [11, 149] (fun v i wr => ∃ (k : Nat) (v' : Value), v' = v ∧ k ≤ q ∧ i = .int .i64 k ∧ Hid (Texts wr z v' (s_arguments :: (ps.kids.take k).map ATree.text)) ∧ Hid (Below z ((w.alloc (.cells #[.string tx] 9)).alloc (.cells #[.pointer pp, .int .i64 (N a.b), .slice (some ⟨w.heap.size, 0, none⟩) 1 1, .bool false] 146)) wr)) (fun _ i _ => q - (intOf i).toNat)
  case atStart => exact ⟨0, _, rfl, Nat.zero_le _, rfl, HTX0, HST0⟩
  case round =>
    obtain ⟨k, v, rfl, hk, rfl, TX, HB⟩ := hrel
    clear HTX0 HST0
    by_cases hkn : k < q
    · obtain ⟨x, hx⟩ : ∃ x, ps.kids[k]? = some x := ⟨_, List.getElem?_eq_getElem (by rw [← HQ.out]; exact hkn)⟩
      obtain ⟨hTp, _, _, _, _, hsz, _⟩ := HALL.out _ HB.out
      have hrow := hTp.rowOf
      rcases ownsRow_cases hrow with ⟨_, h2⟩ | ⟨g0, cap0, hv0, _⟩
      · rw [← HQ.out] at h2; omega
      have hp : p2 = some ⟨g0, 0, none⟩ := by
        have := HV2.out.symm.trans hv0
        simp only [Value.slice.injEq] at this
        exact this.1
      subst hp
      have cx := ownsRow_cell1 hrow (g := g0) (by rw [hv0]; rfl) (i := k) (x := x.ptr) (by rw [List.getElem?_map, hx]; rfl)
      unfold ATree.ptr at cx
      have c1 := (hTp.kid (List.mem_of_getElem? hx)).c1
      have HX := Lib.hid hx
      obtain ⟨L0, hL⟩ : ∃ L0, L0 = s_arguments :: (ps.kids.take k).map ATree.text := ⟨_, rfl⟩
      have hll : L0.length ≤ k + 1 := by rw [hL]; simp; omega
      rw [← hL] at TX
      have HLL := Lib.hid hL
      have TX2 := TX
      unfold Texts at TX
      clear hTp hrow hv0 hx hL
      go_wp2_with (at_builtin; go_must (refine wpList_append_lies _ rfl (.tmp 153) (.tmp 158) 66 rfl z 9 i0 (.string ByteArray.empty) 1 16 Tryd.underlying66 hi hz0 hz1 hz2 rfl (by decide) v L0.length (L0.map Value.string) rfl (TX.out.alloc _) ⟨wr.heap.size, 0, none⟩ 1 1 [.string x.text] rfl rfl (fun j u hu => cell_one_new wr _ _ j u hu) (by intro u hu; simp at hu; subst hu; rfl) (by first | omega | (simp; omega)) (by unfold maxLen; omega) (by first | omega | (simp; omega)) (by first | omega | (simp; omega)) (wr.heap.size + 1) (by simp) ?_); intro g cap w3 hown2 hgrow2 hat2 hgl2; have HG := Lib.hid hgrow2; have HW := Lib.hid hown2; clear hgrow2 hown2 hat2 hgl2)
      go_roundw
      case rel =>
        refine ⟨k + 1, _, rfl, by omega, by go_num, Lib.hid ?_, Lib.hid ?_⟩
        · rw [take_succ_kid HX.out, List.map_append, ← List.cons_append, ← HLL.out]
          exact texts_push HW.out
        · exact (HB.out.alloc hsz _).grown HG.out (by simp; omega) fun j hj => (World.ownsRow.lt TX.out j hj).1
      case measure => simp [intOf]; omega
    · have hk2 : k = q := by omega
      subst hk2
      have htx : Texts wr z v (s_arguments :: ps.kids.map ATree.text) := by
        have := TX.out
        rwa [List.take_of_length_le (by rw [← HQ.out]; exact Nat.le_refl _)] at this
      have TX1 := Lib.hid htx
      obtain ⟨L0, hL⟩ : ∃ L0, L0 = s_arguments :: ps.kids.map ATree.text := ⟨_, rfl⟩
      have hll : L0.length ≤ k + 1 := by rw [hL]; simp [HQ.out]
      rw [← hL] at TX1
      have HLL := Lib.hid hL
      clear htx hL TX
      go_wp2_with fail
      refine (HN.out wr (HALL.out _ HB.out).2.1).mono ?_
      rintro e w3 ⟨v3, rfl, ht3, hb3⟩
      have hsz3 := (HALL.out _ HB.out).2.2.2.2.2.1
      have HB3 := Lib.hid (HB.out.trans (hb3.mono hsz3))
      have TX3 := Lib.hid (TX1.out.bel hb3)
      obtain ⟨p3, cp3, rfl, hge4, hmx4⟩ : ∃ p cp, v3 = .slice p (namesF true bd).length cp ∧ (namesF true bd).length ≤ cp ∧ cp ≤ maxLen := by
        rcases ht3.form with ⟨h1, h2⟩ | ⟨g, cap, h1, h2, h3⟩
        · exact ⟨none, 0, by rw [h1, h2]; rfl, by rw [h2]; exact Nat.le_refl _, by unfold maxLen; omega⟩
        · exact ⟨_, _, h1, h2, h3⟩
      have hnl := namesF_len bd
      have hml2 := HMANY.out
      have hlen3 := HLEN.out
      obtain ⟨nm, hnm⟩ : ∃ nm, nm = namesF true bd := ⟨_, rfl⟩
      rw [← hnm] at ht3 hge4 hnl ⊢
      have HNMD := Lib.hid hnm
      have HT3 := Lib.hid ht3
      clear ht3 hnm hb3 TX1 HB
      have hend : ∀ (w4 : World) (v4 : Value), Hid (Texts w4 z v4 (L0 ++ nm)) → Hid (Below z ((w.alloc (.cells #[.string tx] 9)).alloc (.cells #[.pointer pp, .int .i64 (N a.b), .slice (some ⟨w.heap.size, 0, none⟩) 1 1, .bool false] 146)) w4) → ∀ (op : Bool), Hid (ScopeAt (w4.alloc (.cells #[.pointer (some ⟨w.heap.size + 1, 0, none⟩), .int .i64 (N a.b), v4, .bool op] 146)) w0.heap.size (⟨N a.b, L0 ++ nm, op⟩ :: (⟨N a.b, [tx], false⟩ :: S)) (.pointer (some ⟨w4.heap.size, 0, none⟩)) ∧ FSt w0 fb mb N L out (w4.alloc (.cells #[.pointer (some ⟨w.heap.size + 1, 0, none⟩), .int .i64 (N a.b), v4, .bool op] 146)) ∧ FFr w (w4.alloc (.cells #[.pointer (some ⟨w.heap.size + 1, 0, none⟩), .int .i64 (N a.b), v4, .bool op] 146))) := fun w4 v4 h1 h2 op => Lib.hid (by
        obtain ⟨_, _, _, hs, _, hz, hz2⟩ := HALL.out _ h2.out
        have h3 := h2.out.alloc hz (.cells #[.pointer (some ⟨w.heap.size + 1, 0, none⟩), .int .i64 (N a.b), v4, .bool op] 146)
        obtain ⟨_, _, hf, _, hr, _, _⟩ := HALL.out _ h3
        exact ⟨hs.new (s := ⟨N a.b, L0 ++ nm, op⟩) (h1.out.base hz2), hf, hr⟩)
      cases sb
      · simp only [Bool.not_false, Bool.true_and] at HD
        by_cases hpos : 0 < nm.length
        · obtain ⟨g4, hp⟩ : ∃ g, p3 = some ⟨g, 0, none⟩ := by
            rcases HT3.out.form with ⟨h1, h2⟩ | ⟨g, cap, h1, _, _⟩
            · rw [h2] at hpos; simp at hpos
            · simp only [Value.slice.injEq] at h1; exact ⟨g, h1.1⟩
          subst hp
          have hnews : Hid (∀ j u, (nm.map Value.string)[j]? = some u → w3.cell? ((⟨g4, 0, none⟩ : Addr).add j) = some u) := Lib.hid fun j u hu => World.ownsRow.cells HT3.out rfl j u hu
          have TX5 := TX3
          unfold Texts at TX5
          have hszz : Hid (z ≤ w3.heap.size) := Lib.hid (HALL.out _ HB3.out).2.2.2.2.2.1
          unfold maxLen at hmx4
          go_wp2_with (at_builtin; go_must (refine wpList_append_lies _ rfl (.tmp 161) (.tmp 163) 66 rfl z 9 i0 (.string ByteArray.empty) 1 16 Tryd.underlying66 hi hz0 hz1 hz2 rfl (by decide) v L0.length (L0.map Value.string) rfl TX5.out ⟨g4, 0, none⟩ nm.length cp3 (nm.map Value.string) rfl (by simp) hnews.out (by intro u hu; obtain ⟨x, _, rfl⟩ := List.mem_map.1 hu; rfl) hpos (by unfold maxLen; omega) (by omega) hszz.out w3.heap.size rfl ?_); intro g5 cap5 w4 hown4 hgrow4 hat4 hgl4; have HG := Lib.hid hgrow4; have HW := Lib.hid hown4; clear hgrow4 hown4 hat4 hgl4)
          have TX4 := Lib.hid (Texts.join HW.out)
          have HB4 := Lib.hid (HB3.out.grown HG.out hszz.out fun j hj => (World.ownsRow.lt TX5.out j hj).1)
          refine (HEV.out _ (HALL.out _ HB4.out).2.1).mono ?_
          rintro e w5 ⟨rfl, hb5⟩
          have hsz5 := (HALL.out _ HB4.out).2.2.2.2.2.1
          have TX5 := Lib.hid (TX4.out.bel hb5)
          have HB5 := Lib.hid (HB4.out.trans (hb5.mono hsz5))
          obtain ⟨ev, hev⟩ : ∃ ev, ev = evalsF bd := ⟨_, rfl⟩
          rw [← hev] at HD ⊢
          have HE := hend _ _ TX5 HB5 ev
          clear hend hev hb5 hsz5 TX4 HB4
          go_wp2_with fail
          refine (HC.out _ (⟨N a.b, L0 ++ nm, ev⟩ :: (⟨N a.b, [tx], false⟩ :: S)) _ false HE.out.2.1 HE.out.1).mono ?_
          rintro e w6 ⟨rfl, hI6, hR6, hL6⟩
          have HI6 := Lib.hid hI6
          have HR6 := Lib.hid (HE.out.2.2.trans hR6)
          have HL6 := Lib.hid hL6
          clear hI6 hR6 hL6 HC HE
          go_wp2
          go_end0
          rw [HD.out]
          rw [← HNMD.out, ← HLL.out]
          exact ⟨rfl, HI6.out, HR6.out, by have := HL6.out; have := HMANY.out; omega⟩
        · have hn0 : nm = [] := List.eq_nil_of_length_eq_zero (by omega)
          subst hn0
          obtain ⟨pv, nv, cv, rfl⟩ := TX3.out.slice
          have TX4 : Hid (Texts w3 z (.slice pv nv cv) (L0 ++ [])) := by rw [List.append_nil]; exact TX3
          have HB4 := HB3
          have TX5 := TX3
          unfold Texts at TX5
          simp only [List.length_nil]
          go_wp2_with (at_builtin; go_must (refine wpList_append_empty rfl (.tmp 161) (.tmp 163) 66 rfl z 9 i0 1 Tryd.underlying66 hi (.slice pv nv cv) L0.length (L0.map Value.string) rfl TX5.out p3 cp3 rfl ?_))
          refine (HEV.out _ (HALL.out _ HB4.out).2.1).mono ?_
          rintro e w5 ⟨rfl, hb5⟩
          have hsz5 := (HALL.out _ HB4.out).2.2.2.2.2.1
          have TX5 := Lib.hid (TX4.out.bel hb5)
          have HB5 := Lib.hid (HB4.out.trans (hb5.mono hsz5))
          obtain ⟨ev, hev⟩ : ∃ ev, ev = evalsF bd := ⟨_, rfl⟩
          rw [← hev] at HD ⊢
          have HE := hend _ _ TX5 HB5 ev
          clear hend hev hb5 hsz5 TX4 HB4
          go_wp2_with fail
          refine (HC.out _ (⟨N a.b, L0 ++ [], ev⟩ :: (⟨N a.b, [tx], false⟩ :: S)) _ false HE.out.2.1 HE.out.1).mono ?_
          rintro e w6 ⟨rfl, hI6, hR6, hL6⟩
          have HI6 := Lib.hid hI6
          have HR6 := Lib.hid (HE.out.2.2.trans hR6)
          have HL6 := Lib.hid hL6
          clear hI6 hR6 hL6 HC HE
          go_wp2
          go_end0
          rw [HD.out]
          rw [← HNMD.out, ← HLL.out]
          exact ⟨rfl, HI6.out, HR6.out, by have := HL6.out; have := HMANY.out; omega⟩
      · simp only [Bool.not_true, Bool.false_and] at HD
        by_cases hpos : 0 < nm.length
        · obtain ⟨g4, hp⟩ : ∃ g, p3 = some ⟨g, 0, none⟩ := by
            rcases HT3.out.form with ⟨h1, h2⟩ | ⟨g, cap, h1, _, _⟩
            · rw [h2] at hpos; simp at hpos
            · simp only [Value.slice.injEq] at h1; exact ⟨g, h1.1⟩
          subst hp
          have hnews : Hid (∀ j u, (nm.map Value.string)[j]? = some u → w3.cell? ((⟨g4, 0, none⟩ : Addr).add j) = some u) := Lib.hid fun j u hu => World.ownsRow.cells HT3.out rfl j u hu
          have TX5 := TX3
          unfold Texts at TX5
          have hszz : Hid (z ≤ w3.heap.size) := Lib.hid (HALL.out _ HB3.out).2.2.2.2.2.1
          unfold maxLen at hmx4
          go_wp2_with (at_builtin; go_must (refine wpList_append_lies _ rfl (.tmp 161) (.tmp 163) 66 rfl z 9 i0 (.string ByteArray.empty) 1 16 Tryd.underlying66 hi hz0 hz1 hz2 rfl (by decide) v L0.length (L0.map Value.string) rfl TX5.out ⟨g4, 0, none⟩ nm.length cp3 (nm.map Value.string) rfl (by simp) hnews.out (by intro u hu; obtain ⟨x, _, rfl⟩ := List.mem_map.1 hu; rfl) hpos (by unfold maxLen; omega) (by omega) hszz.out w3.heap.size rfl ?_); intro g5 cap5 w4 hown4 hgrow4 hat4 hgl4; have HG := Lib.hid hgrow4; have HW := Lib.hid hown4; clear hgrow4 hown4 hat4 hgl4)
          have TX4 := Lib.hid (Texts.join HW.out)
          have HB4 := Lib.hid (HB3.out.grown HG.out hszz.out fun j hj => (World.ownsRow.lt TX5.out j hj).1)
          have HE := hend _ _ TX4 HB4 false
          clear hend
          refine (HC.out _ (⟨N a.b, L0 ++ nm, false⟩ :: (⟨N a.b, [tx], false⟩ :: S)) _ true HE.out.2.1 HE.out.1).mono ?_
          rintro e w6 ⟨rfl, hI6, hR6, hL6⟩
          have HI6 := Lib.hid hI6
          have HR6 := Lib.hid (HE.out.2.2.trans hR6)
          have HL6 := Lib.hid hL6
          clear hI6 hR6 hL6 HC HE
          go_wp2
          go_end0
          rw [HD.out]
          rw [← HNMD.out, ← HLL.out]
          exact ⟨rfl, HI6.out, HR6.out, by have := HL6.out; have := HMANY.out; omega⟩
        · have hn0 : nm = [] := List.eq_nil_of_length_eq_zero (by omega)
          subst hn0
          obtain ⟨pv, nv, cv, rfl⟩ := TX3.out.slice
          have TX4 : Hid (Texts w3 z (.slice pv nv cv) (L0 ++ [])) := by rw [List.append_nil]; exact TX3
          have HB4 := HB3
          have TX5 := TX3
          unfold Texts at TX5
          simp only [List.length_nil]
          go_wp2_with (at_builtin; go_must (refine wpList_append_empty rfl (.tmp 161) (.tmp 163) 66 rfl z 9 i0 1 Tryd.underlying66 hi (.slice pv nv cv) L0.length (L0.map Value.string) rfl TX5.out p3 cp3 rfl ?_))
          have HE := hend _ _ TX4 HB4 false
          clear hend
          refine (HC.out _ (⟨N a.b, L0 ++ [], false⟩ :: (⟨N a.b, [tx], false⟩ :: S)) _ true HE.out.2.1 HE.out.1).mono ?_
          rintro e w6 ⟨rfl, hI6, hR6, hL6⟩
          have HI6 := Lib.hid hI6
          have HR6 := Lib.hid (HE.out.2.2.trans hR6)
          have HL6 := Lib.hid hL6
          clear hI6 hR6 hL6 HC HE
          go_wp2
          go_end0
          rw [HD.out]
          rw [← HNMD.out, ← HLL.out]
          exact ⟨rfl, HI6.out, HR6.out, by have := HL6.out; have := HMANY.out; omega⟩

end Go.Proofs.YtgifgiipojedbaaDoor
