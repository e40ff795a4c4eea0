/- HeapPlays, a piece: the choice of what is done. The tail of a round of HeapPlays: what is compared; frames and readers. -/
import Derived.Test.YtfanolcjgaccpaaDoorJ19
import Derived.Test.YtfanolcjgaccpaaDoorJ20
import Derived.Test.YtfanolcjgaccpaaDoorJ21
import Derived.Test.YtfanolcjgaccpaaDoorJ17
namespace Go.Proofs.YtfanolcjgaccpaaDoor
open Go Go.RowKit
set_option maxRecDepth 1000000
set_option linter.unusedVariables false
section
variable {w0 w : World} {v0 : Value} {hb rb k db vb : Nat} {d : DoRec} {H : LHeap} {a : Act}
set_option maxHeartbeats 20000000 in
theorem hc8_any (h : PreD w0 v0 hb rb k db vb d H a w) : (hpAt [1, 1, 1, 1, 0, 1, 0, 0, 1, 0, 0, 1, 1, 1, 0, 1, 0, 1, 1, 1, 1, 1, 1, 1, 1, 1, 1, 1, 1, 1, 1, 1, 1]).wp Tryd.prog (MidQ w0 v0 hb rb k db d) a w := by
  have hy : ∀ a', Fv a' v0 hb rb k db vb d.what → (hpAt [1, 1, 1, 1, 0, 1, 0, 0, 1, 0, 0, 1, 1, 1, 0, 1, 0, 1, 1, 1, 1, 1, 1, 1, 1, 1, 1, 1, 1, 1, 1, 1, 1, 1, 0]).wp Tryd.prog (MidQ w0 v0 hb rb k db d) a' w := fun a' hf => hp8_any ⟨hf, h.duo, h.good, h.err, h.low, h.nm, h.k80⟩
  have hn : ∀ a', Fv a' v0 hb rb k db vb d.what → (hpAt [1, 1, 1, 1, 0, 1, 0, 0, 1, 0, 0, 1, 1, 1, 0, 1, 0, 1, 1, 1, 1, 1, 1, 1, 1, 1, 1, 1, 1, 1, 1, 1, 1, 1, 1]).wp Tryd.prog (MidQ w0 v0 hb rb k db d) a' w := fun a' hf => hp9_any ⟨hf, h.duo, h.good, h.err, h.low, h.nm, h.k80⟩
  have E : hpAt [1, 1, 1, 1, 0, 1, 0, 0, 1, 0, 0, 1, 1, 1, 0, 1, 0, 1, 1, 1, 1, 1, 1, 1, 1, 1, 1, 1, 1, 1, 1, 1, 1] = Code.seq (hpAt [1, 1, 1, 1, 0, 1, 0, 0, 1, 0, 0, 1, 1, 1, 0, 1, 0, 1, 1, 1, 1, 1, 1, 1, 1, 1, 1, 1, 1, 1, 1, 1, 1, 0]) (.cond (.tmp 263) (hpAt [1, 1, 1, 1, 0, 1, 0, 0, 1, 0, 0, 1, 1, 1, 0, 1, 0, 1, 1, 1, 1, 1, 1, 1, 1, 1, 1, 1, 1, 1, 1, 1, 1, 1, 0]) (hpAt [1, 1, 1, 1, 0, 1, 0, 0, 1, 0, 0, 1, 1, 1, 0, 1, 0, 1, 1, 1, 1, 1, 1, 1, 1, 1, 1, 1, 1, 1, 1, 1, 1, 1, 1])) := by kernel_rfl
  rw [E]
  refine wp_seq_k (fun K hK => ?_)
  have hK' : ∀ a', Fv a' v0 hb rb k db vb d.what → a'.eval (.tmp 263) = .bool (d.what == 8) → K a' w := fun a' hf he => by
    refine hK _ _ (wp_cond he ?_)
    cases (d.what == 8) with
    | true => exact hy a' hf
    | false => exact hn a' hf
  have HK := Lib.hid hK'
  clear hK hK' hy hn E
  obtain ⟨fr, duo, good, err, low, nm, k80⟩ := h
  obtain ⟨tm, df⟩ := a
  obtain ⟨x, ex, hx⟩ := lit470 tm fr.size
  have e0 := (hx 0).trans fr.t0
  have e3 := (hx 3).trans fr.t3
  have e4 := (hx 4).trans fr.t4
  have e5 := (hx 5).trans fr.t5
  have e6 := (hx 6).trans fr.t6
  have e7 := (hx 7).trans fr.t7
  have e44 := (hx 44).trans fr.t44
  have ed : df = [] := fr.defs
  clear fr hx
  subst ex
  subst ed
  rw [e0, e3, e4, e5, e6, e7, e44]
  clear e0 e3 e4 e5 e6 e7 e44
  obtain ⟨Q, hQ⟩ : ∃ Q, Q = MidQ w0 v0 hb rb k db d := ⟨_, rfl⟩
  rw [← hQ]
  have hN : ∀ a w, MidD w0 v0 hb rb k db d a w → Q .normal a w := fun a w h => by rw [hQ]; exact h
  have hX : ∀ a w, Next w0 v0 hb rb k a w → Q (.exit 1) a w := fun a w h => by rw [hQ]; exact h
  have HQP : Hid (∀ c a d v w, Q (.panic c) (Act.put a d v) w → Q (.panic c) a w) := Lib.hid fun c a d v w h => by rw [hQ] at h; exact h.elim
  have HN := Lib.hid hN
  have HX := Lib.hid hX
  have HG := Lib.hid good
  have HE := Lib.hid err
  have HLow := Lib.hid low
  obtain ⟨dw, da, dB, dn, dk, dv, dfx⟩ := d
  obtain ⟨q0, q1, q2, q3, q4, q5, q6⟩ := d_cells duo.dBlk
  obtain ⟨p0, p1, p2⟩ := v_cells duo.vBlk
  have HD := Lib.hid duo
  dsimp only at q0 q1 q2 q3 q4 q5 q6 p0 p1 p2 nm
  clear hQ hN hX duo good err low
  conv => arg 2; whnf
  go_wp2
  exact HK.out _ ⟨⟨⟨rfl, rfl, rfl, rfl, rfl, rfl⟩, rfl⟩, rfl, rfl⟩ rfl
set_option maxHeartbeats 20000000 in
theorem hc7_any (h : PreD w0 v0 hb rb k db vb d H a w) : (hpAt [1, 1, 1, 1, 0, 1, 0, 0, 1, 0, 0, 1, 1, 1, 0, 1, 0, 1, 1, 1, 1, 1, 1, 1, 1, 1, 1, 1, 1, 1, 1]).wp Tryd.prog (MidQ w0 v0 hb rb k db d) a w := by
  have hy : ∀ a', Fv a' v0 hb rb k db vb d.what → (hpAt [1, 1, 1, 1, 0, 1, 0, 0, 1, 0, 0, 1, 1, 1, 0, 1, 0, 1, 1, 1, 1, 1, 1, 1, 1, 1, 1, 1, 1, 1, 1, 1, 0]).wp Tryd.prog (MidQ w0 v0 hb rb k db d) a' w := fun a' hf => hp7_any ⟨hf, h.duo, h.good, h.err, h.low, h.nm, h.k80⟩
  have hn : ∀ a', Fv a' v0 hb rb k db vb d.what → (hpAt [1, 1, 1, 1, 0, 1, 0, 0, 1, 0, 0, 1, 1, 1, 0, 1, 0, 1, 1, 1, 1, 1, 1, 1, 1, 1, 1, 1, 1, 1, 1, 1, 1]).wp Tryd.prog (MidQ w0 v0 hb rb k db d) a' w := fun a' hf => hc8_any ⟨hf, h.duo, h.good, h.err, h.low, h.nm, h.k80⟩
  have E : hpAt [1, 1, 1, 1, 0, 1, 0, 0, 1, 0, 0, 1, 1, 1, 0, 1, 0, 1, 1, 1, 1, 1, 1, 1, 1, 1, 1, 1, 1, 1, 1] = Code.seq (hpAt [1, 1, 1, 1, 0, 1, 0, 0, 1, 0, 0, 1, 1, 1, 0, 1, 0, 1, 1, 1, 1, 1, 1, 1, 1, 1, 1, 1, 1, 1, 1, 0]) (.cond (.tmp 249) (hpAt [1, 1, 1, 1, 0, 1, 0, 0, 1, 0, 0, 1, 1, 1, 0, 1, 0, 1, 1, 1, 1, 1, 1, 1, 1, 1, 1, 1, 1, 1, 1, 1, 0]) (hpAt [1, 1, 1, 1, 0, 1, 0, 0, 1, 0, 0, 1, 1, 1, 0, 1, 0, 1, 1, 1, 1, 1, 1, 1, 1, 1, 1, 1, 1, 1, 1, 1, 1])) := by kernel_rfl
  rw [E]
  refine wp_seq_k (fun K hK => ?_)
  have hK' : ∀ a', Fv a' v0 hb rb k db vb d.what → a'.eval (.tmp 249) = .bool (d.what == 7) → K a' w := fun a' hf he => by
    refine hK _ _ (wp_cond he ?_)
    cases (d.what == 7) with
    | true => exact hy a' hf
    | false => exact hn a' hf
  have HK := Lib.hid hK'
  clear hK hK' hy hn E
  obtain ⟨fr, duo, good, err, low, nm, k80⟩ := h
  obtain ⟨tm, df⟩ := a
  obtain ⟨x, ex, hx⟩ := lit470 tm fr.size
  have e0 := (hx 0).trans fr.t0
  have e3 := (hx 3).trans fr.t3
  have e4 := (hx 4).trans fr.t4
  have e5 := (hx 5).trans fr.t5
  have e6 := (hx 6).trans fr.t6
  have e7 := (hx 7).trans fr.t7
  have e44 := (hx 44).trans fr.t44
  have ed : df = [] := fr.defs
  clear fr hx
  subst ex
  subst ed
  rw [e0, e3, e4, e5, e6, e7, e44]
  clear e0 e3 e4 e5 e6 e7 e44
  obtain ⟨Q, hQ⟩ : ∃ Q, Q = MidQ w0 v0 hb rb k db d := ⟨_, rfl⟩
  rw [← hQ]
  have hN : ∀ a w, MidD w0 v0 hb rb k db d a w → Q .normal a w := fun a w h => by rw [hQ]; exact h
  have hX : ∀ a w, Next w0 v0 hb rb k a w → Q (.exit 1) a w := fun a w h => by rw [hQ]; exact h
  have HQP : Hid (∀ c a d v w, Q (.panic c) (Act.put a d v) w → Q (.panic c) a w) := Lib.hid fun c a d v w h => by rw [hQ] at h; exact h.elim
  have HN := Lib.hid hN
  have HX := Lib.hid hX
  have HG := Lib.hid good
  have HE := Lib.hid err
  have HLow := Lib.hid low
  obtain ⟨dw, da, dB, dn, dk, dv, dfx⟩ := d
  obtain ⟨q0, q1, q2, q3, q4, q5, q6⟩ := d_cells duo.dBlk
  obtain ⟨p0, p1, p2⟩ := v_cells duo.vBlk
  have HD := Lib.hid duo
  dsimp only at q0 q1 q2 q3 q4 q5 q6 p0 p1 p2 nm
  clear hQ hN hX duo good err low
  conv => arg 2; whnf
  go_wp2
  exact HK.out _ ⟨⟨⟨rfl, rfl, rfl, rfl, rfl, rfl⟩, rfl⟩, rfl, rfl⟩ rfl
set_option maxHeartbeats 20000000 in
theorem hc6_any (h : PreD w0 v0 hb rb k db vb d H a w) : (hpAt [1, 1, 1, 1, 0, 1, 0, 0, 1, 0, 0, 1, 1, 1, 0, 1, 0, 1, 1, 1, 1, 1, 1, 1, 1, 1, 1, 1, 1]).wp Tryd.prog (MidQ w0 v0 hb rb k db d) a w := by
  have hy : ∀ a', Fv a' v0 hb rb k db vb d.what → (hpAt [1, 1, 1, 1, 0, 1, 0, 0, 1, 0, 0, 1, 1, 1, 0, 1, 0, 1, 1, 1, 1, 1, 1, 1, 1, 1, 1, 1, 1, 1, 0]).wp Tryd.prog (MidQ w0 v0 hb rb k db d) a' w := fun a' hf => hp6_any ⟨hf, h.duo, h.good, h.err, h.low, h.nm, h.k80⟩
  have hn : ∀ a', Fv a' v0 hb rb k db vb d.what → (hpAt [1, 1, 1, 1, 0, 1, 0, 0, 1, 0, 0, 1, 1, 1, 0, 1, 0, 1, 1, 1, 1, 1, 1, 1, 1, 1, 1, 1, 1, 1, 1]).wp Tryd.prog (MidQ w0 v0 hb rb k db d) a' w := fun a' hf => hc7_any ⟨hf, h.duo, h.good, h.err, h.low, h.nm, h.k80⟩
  have E : hpAt [1, 1, 1, 1, 0, 1, 0, 0, 1, 0, 0, 1, 1, 1, 0, 1, 0, 1, 1, 1, 1, 1, 1, 1, 1, 1, 1, 1, 1] = Code.seq (hpAt [1, 1, 1, 1, 0, 1, 0, 0, 1, 0, 0, 1, 1, 1, 0, 1, 0, 1, 1, 1, 1, 1, 1, 1, 1, 1, 1, 1, 1, 0]) (.cond (.tmp 231) (hpAt [1, 1, 1, 1, 0, 1, 0, 0, 1, 0, 0, 1, 1, 1, 0, 1, 0, 1, 1, 1, 1, 1, 1, 1, 1, 1, 1, 1, 1, 1, 0]) (hpAt [1, 1, 1, 1, 0, 1, 0, 0, 1, 0, 0, 1, 1, 1, 0, 1, 0, 1, 1, 1, 1, 1, 1, 1, 1, 1, 1, 1, 1, 1, 1])) := by kernel_rfl
  rw [E]
  refine wp_seq_k (fun K hK => ?_)
  have hK' : ∀ a', Fv a' v0 hb rb k db vb d.what → a'.eval (.tmp 231) = .bool (d.what == 6) → K a' w := fun a' hf he => by
    refine hK _ _ (wp_cond he ?_)
    cases (d.what == 6) with
    | true => exact hy a' hf
    | false => exact hn a' hf
  have HK := Lib.hid hK'
  clear hK hK' hy hn E
  obtain ⟨fr, duo, good, err, low, nm, k80⟩ := h
  obtain ⟨tm, df⟩ := a
  obtain ⟨x, ex, hx⟩ := lit470 tm fr.size
  have e0 := (hx 0).trans fr.t0
  have e3 := (hx 3).trans fr.t3
  have e4 := (hx 4).trans fr.t4
  have e5 := (hx 5).trans fr.t5
  have e6 := (hx 6).trans fr.t6
  have e7 := (hx 7).trans fr.t7
  have e44 := (hx 44).trans fr.t44
  have ed : df = [] := fr.defs
  clear fr hx
  subst ex
  subst ed
  rw [e0, e3, e4, e5, e6, e7, e44]
  clear e0 e3 e4 e5 e6 e7 e44
  obtain ⟨Q, hQ⟩ : ∃ Q, Q = MidQ w0 v0 hb rb k db d := ⟨_, rfl⟩
  rw [← hQ]
  have hN : ∀ a w, MidD w0 v0 hb rb k db d a w → Q .normal a w := fun a w h => by rw [hQ]; exact h
  have hX : ∀ a w, Next w0 v0 hb rb k a w → Q (.exit 1) a w := fun a w h => by rw [hQ]; exact h
  have HQP : Hid (∀ c a d v w, Q (.panic c) (Act.put a d v) w → Q (.panic c) a w) := Lib.hid fun c a d v w h => by rw [hQ] at h; exact h.elim
  have HN := Lib.hid hN
  have HX := Lib.hid hX
  have HG := Lib.hid good
  have HE := Lib.hid err
  have HLow := Lib.hid low
  obtain ⟨dw, da, dB, dn, dk, dv, dfx⟩ := d
  obtain ⟨q0, q1, q2, q3, q4, q5, q6⟩ := d_cells duo.dBlk
  obtain ⟨p0, p1, p2⟩ := v_cells duo.vBlk
  have HD := Lib.hid duo
  dsimp only at q0 q1 q2 q3 q4 q5 q6 p0 p1 p2 nm
  clear hQ hN hX duo good err low
  conv => arg 2; whnf
  go_wp2
  exact HK.out _ ⟨⟨⟨rfl, rfl, rfl, rfl, rfl, rfl⟩, rfl⟩, rfl, rfl⟩ rfl
set_option maxHeartbeats 20000000 in
theorem hc5_any (h : PreD w0 v0 hb rb k db vb d H a w) : (hpAt [1, 1, 1, 1, 0, 1, 0, 0, 1, 0, 0, 1, 1, 1, 0, 1, 0, 1, 1, 1, 1, 1, 1, 1, 1, 1, 1]).wp Tryd.prog (MidQ w0 v0 hb rb k db d) a w := by
  have hy : ∀ a', Fv a' v0 hb rb k db vb d.what → (hpAt [1, 1, 1, 1, 0, 1, 0, 0, 1, 0, 0, 1, 1, 1, 0, 1, 0, 1, 1, 1, 1, 1, 1, 1, 1, 1, 1, 1, 0]).wp Tryd.prog (MidQ w0 v0 hb rb k db d) a' w := fun a' hf => hp5_any ⟨hf, h.duo, h.good, h.err, h.low, h.nm, h.k80⟩
  have hn : ∀ a', Fv a' v0 hb rb k db vb d.what → (hpAt [1, 1, 1, 1, 0, 1, 0, 0, 1, 0, 0, 1, 1, 1, 0, 1, 0, 1, 1, 1, 1, 1, 1, 1, 1, 1, 1, 1, 1]).wp Tryd.prog (MidQ w0 v0 hb rb k db d) a' w := fun a' hf => hc6_any ⟨hf, h.duo, h.good, h.err, h.low, h.nm, h.k80⟩
  have E : hpAt [1, 1, 1, 1, 0, 1, 0, 0, 1, 0, 0, 1, 1, 1, 0, 1, 0, 1, 1, 1, 1, 1, 1, 1, 1, 1, 1] = Code.seq (hpAt [1, 1, 1, 1, 0, 1, 0, 0, 1, 0, 0, 1, 1, 1, 0, 1, 0, 1, 1, 1, 1, 1, 1, 1, 1, 1, 1, 0]) (.cond (.tmp 213) (hpAt [1, 1, 1, 1, 0, 1, 0, 0, 1, 0, 0, 1, 1, 1, 0, 1, 0, 1, 1, 1, 1, 1, 1, 1, 1, 1, 1, 1, 0]) (hpAt [1, 1, 1, 1, 0, 1, 0, 0, 1, 0, 0, 1, 1, 1, 0, 1, 0, 1, 1, 1, 1, 1, 1, 1, 1, 1, 1, 1, 1])) := by kernel_rfl
  rw [E]
  refine wp_seq_k (fun K hK => ?_)
  have hK' : ∀ a', Fv a' v0 hb rb k db vb d.what → a'.eval (.tmp 213) = .bool (d.what == 5) → K a' w := fun a' hf he => by
    refine hK _ _ (wp_cond he ?_)
    cases (d.what == 5) with
    | true => exact hy a' hf
    | false => exact hn a' hf
  have HK := Lib.hid hK'
  clear hK hK' hy hn E
  obtain ⟨fr, duo, good, err, low, nm, k80⟩ := h
  obtain ⟨tm, df⟩ := a
  obtain ⟨x, ex, hx⟩ := lit470 tm fr.size
  have e0 := (hx 0).trans fr.t0
  have e3 := (hx 3).trans fr.t3
  have e4 := (hx 4).trans fr.t4
  have e5 := (hx 5).trans fr.t5
  have e6 := (hx 6).trans fr.t6
  have e7 := (hx 7).trans fr.t7
  have e44 := (hx 44).trans fr.t44
  have ed : df = [] := fr.defs
  clear fr hx
  subst ex
  subst ed
  rw [e0, e3, e4, e5, e6, e7, e44]
  clear e0 e3 e4 e5 e6 e7 e44
  obtain ⟨Q, hQ⟩ : ∃ Q, Q = MidQ w0 v0 hb rb k db d := ⟨_, rfl⟩
  rw [← hQ]
  have hN : ∀ a w, MidD w0 v0 hb rb k db d a w → Q .normal a w := fun a w h => by rw [hQ]; exact h
  have hX : ∀ a w, Next w0 v0 hb rb k a w → Q (.exit 1) a w := fun a w h => by rw [hQ]; exact h
  have HQP : Hid (∀ c a d v w, Q (.panic c) (Act.put a d v) w → Q (.panic c) a w) := Lib.hid fun c a d v w h => by rw [hQ] at h; exact h.elim
  have HN := Lib.hid hN
  have HX := Lib.hid hX
  have HG := Lib.hid good
  have HE := Lib.hid err
  have HLow := Lib.hid low
  obtain ⟨dw, da, dB, dn, dk, dv, dfx⟩ := d
  obtain ⟨q0, q1, q2, q3, q4, q5, q6⟩ := d_cells duo.dBlk
  obtain ⟨p0, p1, p2⟩ := v_cells duo.vBlk
  have HD := Lib.hid duo
  dsimp only at q0 q1 q2 q3 q4 q5 q6 p0 p1 p2 nm
  clear hQ hN hX duo good err low
  conv => arg 2; whnf
  go_wp2
  exact HK.out _ ⟨⟨⟨rfl, rfl, rfl, rfl, rfl, rfl⟩, rfl⟩, rfl, rfl⟩ rfl
set_option maxHeartbeats 20000000 in
theorem hc4_any (h : PreD w0 v0 hb rb k db vb d H a w) : (hpAt [1, 1, 1, 1, 0, 1, 0, 0, 1, 0, 0, 1, 1, 1, 0, 1, 0, 1, 1, 1, 1, 1, 1, 1, 1]).wp Tryd.prog (MidQ w0 v0 hb rb k db d) a w := by
  have hy : ∀ a', Fv a' v0 hb rb k db vb d.what → (hpAt [1, 1, 1, 1, 0, 1, 0, 0, 1, 0, 0, 1, 1, 1, 0, 1, 0, 1, 1, 1, 1, 1, 1, 1, 1, 1, 0]).wp Tryd.prog (MidQ w0 v0 hb rb k db d) a' w := fun a' hf => hp4_any ⟨hf, h.duo, h.good, h.err, h.low, h.nm, h.k80⟩
  have hn : ∀ a', Fv a' v0 hb rb k db vb d.what → (hpAt [1, 1, 1, 1, 0, 1, 0, 0, 1, 0, 0, 1, 1, 1, 0, 1, 0, 1, 1, 1, 1, 1, 1, 1, 1, 1, 1]).wp Tryd.prog (MidQ w0 v0 hb rb k db d) a' w := fun a' hf => hc5_any ⟨hf, h.duo, h.good, h.err, h.low, h.nm, h.k80⟩
  have E : hpAt [1, 1, 1, 1, 0, 1, 0, 0, 1, 0, 0, 1, 1, 1, 0, 1, 0, 1, 1, 1, 1, 1, 1, 1, 1] = Code.seq (hpAt [1, 1, 1, 1, 0, 1, 0, 0, 1, 0, 0, 1, 1, 1, 0, 1, 0, 1, 1, 1, 1, 1, 1, 1, 1, 0]) (.cond (.tmp 183) (hpAt [1, 1, 1, 1, 0, 1, 0, 0, 1, 0, 0, 1, 1, 1, 0, 1, 0, 1, 1, 1, 1, 1, 1, 1, 1, 1, 0]) (hpAt [1, 1, 1, 1, 0, 1, 0, 0, 1, 0, 0, 1, 1, 1, 0, 1, 0, 1, 1, 1, 1, 1, 1, 1, 1, 1, 1])) := by kernel_rfl
  rw [E]
  refine wp_seq_k (fun K hK => ?_)
  have hK' : ∀ a', Fv a' v0 hb rb k db vb d.what → a'.eval (.tmp 183) = .bool (d.what == 4) → K a' w := fun a' hf he => by
    refine hK _ _ (wp_cond he ?_)
    cases (d.what == 4) with
    | true => exact hy a' hf
    | false => exact hn a' hf
  have HK := Lib.hid hK'
  clear hK hK' hy hn E
  obtain ⟨fr, duo, good, err, low, nm, k80⟩ := h
  obtain ⟨tm, df⟩ := a
  obtain ⟨x, ex, hx⟩ := lit470 tm fr.size
  have e0 := (hx 0).trans fr.t0
  have e3 := (hx 3).trans fr.t3
  have e4 := (hx 4).trans fr.t4
  have e5 := (hx 5).trans fr.t5
  have e6 := (hx 6).trans fr.t6
  have e7 := (hx 7).trans fr.t7
  have e44 := (hx 44).trans fr.t44
  have ed : df = [] := fr.defs
  clear fr hx
  subst ex
  subst ed
  rw [e0, e3, e4, e5, e6, e7, e44]
  clear e0 e3 e4 e5 e6 e7 e44
  obtain ⟨Q, hQ⟩ : ∃ Q, Q = MidQ w0 v0 hb rb k db d := ⟨_, rfl⟩
  rw [← hQ]
  have hN : ∀ a w, MidD w0 v0 hb rb k db d a w → Q .normal a w := fun a w h => by rw [hQ]; exact h
  have hX : ∀ a w, Next w0 v0 hb rb k a w → Q (.exit 1) a w := fun a w h => by rw [hQ]; exact h
  have HQP : Hid (∀ c a d v w, Q (.panic c) (Act.put a d v) w → Q (.panic c) a w) := Lib.hid fun c a d v w h => by rw [hQ] at h; exact h.elim
  have HN := Lib.hid hN
  have HX := Lib.hid hX
  have HG := Lib.hid good
  have HE := Lib.hid err
  have HLow := Lib.hid low
  obtain ⟨dw, da, dB, dn, dk, dv, dfx⟩ := d
  obtain ⟨q0, q1, q2, q3, q4, q5, q6⟩ := d_cells duo.dBlk
  obtain ⟨p0, p1, p2⟩ := v_cells duo.vBlk
  have HD := Lib.hid duo
  dsimp only at q0 q1 q2 q3 q4 q5 q6 p0 p1 p2 nm
  clear hQ hN hX duo good err low
  conv => arg 2; whnf
  go_wp2
  exact HK.out _ ⟨⟨⟨rfl, rfl, rfl, rfl, rfl, rfl⟩, rfl⟩, rfl, rfl⟩ rfl
set_option maxHeartbeats 20000000 in
theorem hc3_any (h : PreD w0 v0 hb rb k db vb d H a w) : (hpAt [1, 1, 1, 1, 0, 1, 0, 0, 1, 0, 0, 1, 1, 1, 0, 1, 0, 1, 1, 1, 1, 1, 1]).wp Tryd.prog (MidQ w0 v0 hb rb k db d) a w := by
  have hy : ∀ a', Fv a' v0 hb rb k db vb d.what → (hpAt [1, 1, 1, 1, 0, 1, 0, 0, 1, 0, 0, 1, 1, 1, 0, 1, 0, 1, 1, 1, 1, 1, 1, 1, 0]).wp Tryd.prog (MidQ w0 v0 hb rb k db d) a' w := fun a' hf => hp3_any ⟨hf, h.duo, h.good, h.err, h.low, h.nm, h.k80⟩
  have hn : ∀ a', Fv a' v0 hb rb k db vb d.what → (hpAt [1, 1, 1, 1, 0, 1, 0, 0, 1, 0, 0, 1, 1, 1, 0, 1, 0, 1, 1, 1, 1, 1, 1, 1, 1]).wp Tryd.prog (MidQ w0 v0 hb rb k db d) a' w := fun a' hf => hc4_any ⟨hf, h.duo, h.good, h.err, h.low, h.nm, h.k80⟩
  have E : hpAt [1, 1, 1, 1, 0, 1, 0, 0, 1, 0, 0, 1, 1, 1, 0, 1, 0, 1, 1, 1, 1, 1, 1] = Code.seq (hpAt [1, 1, 1, 1, 0, 1, 0, 0, 1, 0, 0, 1, 1, 1, 0, 1, 0, 1, 1, 1, 1, 1, 1, 0]) (.cond (.tmp 169) (hpAt [1, 1, 1, 1, 0, 1, 0, 0, 1, 0, 0, 1, 1, 1, 0, 1, 0, 1, 1, 1, 1, 1, 1, 1, 0]) (hpAt [1, 1, 1, 1, 0, 1, 0, 0, 1, 0, 0, 1, 1, 1, 0, 1, 0, 1, 1, 1, 1, 1, 1, 1, 1])) := by kernel_rfl
  rw [E]
  refine wp_seq_k (fun K hK => ?_)
  have hK' : ∀ a', Fv a' v0 hb rb k db vb d.what → a'.eval (.tmp 169) = .bool (d.what == 3) → K a' w := fun a' hf he => by
    refine hK _ _ (wp_cond he ?_)
    cases (d.what == 3) with
    | true => exact hy a' hf
    | false => exact hn a' hf
  have HK := Lib.hid hK'
  clear hK hK' hy hn E
  obtain ⟨fr, duo, good, err, low, nm, k80⟩ := h
  obtain ⟨tm, df⟩ := a
  obtain ⟨x, ex, hx⟩ := lit470 tm fr.size
  have e0 := (hx 0).trans fr.t0
  have e3 := (hx 3).trans fr.t3
  have e4 := (hx 4).trans fr.t4
  have e5 := (hx 5).trans fr.t5
  have e6 := (hx 6).trans fr.t6
  have e7 := (hx 7).trans fr.t7
  have e44 := (hx 44).trans fr.t44
  have ed : df = [] := fr.defs
  clear fr hx
  subst ex
  subst ed
  rw [e0, e3, e4, e5, e6, e7, e44]
  clear e0 e3 e4 e5 e6 e7 e44
  obtain ⟨Q, hQ⟩ : ∃ Q, Q = MidQ w0 v0 hb rb k db d := ⟨_, rfl⟩
  rw [← hQ]
  have hN : ∀ a w, MidD w0 v0 hb rb k db d a w → Q .normal a w := fun a w h => by rw [hQ]; exact h
  have hX : ∀ a w, Next w0 v0 hb rb k a w → Q (.exit 1) a w := fun a w h => by rw [hQ]; exact h
  have HQP : Hid (∀ c a d v w, Q (.panic c) (Act.put a d v) w → Q (.panic c) a w) := Lib.hid fun c a d v w h => by rw [hQ] at h; exact h.elim
  have HN := Lib.hid hN
  have HX := Lib.hid hX
  have HG := Lib.hid good
  have HE := Lib.hid err
  have HLow := Lib.hid low
  obtain ⟨dw, da, dB, dn, dk, dv, dfx⟩ := d
  obtain ⟨q0, q1, q2, q3, q4, q5, q6⟩ := d_cells duo.dBlk
  obtain ⟨p0, p1, p2⟩ := v_cells duo.vBlk
  have HD := Lib.hid duo
  dsimp only at q0 q1 q2 q3 q4 q5 q6 p0 p1 p2 nm
  clear hQ hN hX duo good err low
  conv => arg 2; whnf
  go_wp2
  exact HK.out _ ⟨⟨⟨rfl, rfl, rfl, rfl, rfl, rfl⟩, rfl⟩, rfl, rfl⟩ rfl
set_option maxHeartbeats 20000000 in
theorem hc2_any (h : PreD w0 v0 hb rb k db vb d H a w) : (hpAt [1, 1, 1, 1, 0, 1, 0, 0, 1, 0, 0, 1, 1, 1, 0, 1, 0, 1, 1, 1, 1]).wp Tryd.prog (MidQ w0 v0 hb rb k db d) a w := by
  have hy : ∀ a', Fv a' v0 hb rb k db vb d.what → (hpAt [1, 1, 1, 1, 0, 1, 0, 0, 1, 0, 0, 1, 1, 1, 0, 1, 0, 1, 1, 1, 1, 1, 0]).wp Tryd.prog (MidQ w0 v0 hb rb k db d) a' w := fun a' hf => hp2_any ⟨hf, h.duo, h.good, h.err, h.low, h.nm, h.k80⟩
  have hn : ∀ a', Fv a' v0 hb rb k db vb d.what → (hpAt [1, 1, 1, 1, 0, 1, 0, 0, 1, 0, 0, 1, 1, 1, 0, 1, 0, 1, 1, 1, 1, 1, 1]).wp Tryd.prog (MidQ w0 v0 hb rb k db d) a' w := fun a' hf => hc3_any ⟨hf, h.duo, h.good, h.err, h.low, h.nm, h.k80⟩
  have E : hpAt [1, 1, 1, 1, 0, 1, 0, 0, 1, 0, 0, 1, 1, 1, 0, 1, 0, 1, 1, 1, 1] = Code.seq (hpAt [1, 1, 1, 1, 0, 1, 0, 0, 1, 0, 0, 1, 1, 1, 0, 1, 0, 1, 1, 1, 1, 0]) (.cond (.tmp 147) (hpAt [1, 1, 1, 1, 0, 1, 0, 0, 1, 0, 0, 1, 1, 1, 0, 1, 0, 1, 1, 1, 1, 1, 0]) (hpAt [1, 1, 1, 1, 0, 1, 0, 0, 1, 0, 0, 1, 1, 1, 0, 1, 0, 1, 1, 1, 1, 1, 1])) := by kernel_rfl
  rw [E]
  refine wp_seq_k (fun K hK => ?_)
  have hK' : ∀ a', Fv a' v0 hb rb k db vb d.what → a'.eval (.tmp 147) = .bool (d.what == 2) → K a' w := fun a' hf he => by
    refine hK _ _ (wp_cond he ?_)
    cases (d.what == 2) with
    | true => exact hy a' hf
    | false => exact hn a' hf
  have HK := Lib.hid hK'
  clear hK hK' hy hn E
  obtain ⟨fr, duo, good, err, low, nm, k80⟩ := h
  obtain ⟨tm, df⟩ := a
  obtain ⟨x, ex, hx⟩ := lit470 tm fr.size
  have e0 := (hx 0).trans fr.t0
  have e3 := (hx 3).trans fr.t3
  have e4 := (hx 4).trans fr.t4
  have e5 := (hx 5).trans fr.t5
  have e6 := (hx 6).trans fr.t6
  have e7 := (hx 7).trans fr.t7
  have e44 := (hx 44).trans fr.t44
  have ed : df = [] := fr.defs
  clear fr hx
  subst ex
  subst ed
  rw [e0, e3, e4, e5, e6, e7, e44]
  clear e0 e3 e4 e5 e6 e7 e44
  obtain ⟨Q, hQ⟩ : ∃ Q, Q = MidQ w0 v0 hb rb k db d := ⟨_, rfl⟩
  rw [← hQ]
  have hN : ∀ a w, MidD w0 v0 hb rb k db d a w → Q .normal a w := fun a w h => by rw [hQ]; exact h
  have hX : ∀ a w, Next w0 v0 hb rb k a w → Q (.exit 1) a w := fun a w h => by rw [hQ]; exact h
  have HQP : Hid (∀ c a d v w, Q (.panic c) (Act.put a d v) w → Q (.panic c) a w) := Lib.hid fun c a d v w h => by rw [hQ] at h; exact h.elim
  have HN := Lib.hid hN
  have HX := Lib.hid hX
  have HG := Lib.hid good
  have HE := Lib.hid err
  have HLow := Lib.hid low
  obtain ⟨dw, da, dB, dn, dk, dv, dfx⟩ := d
  obtain ⟨q0, q1, q2, q3, q4, q5, q6⟩ := d_cells duo.dBlk
  obtain ⟨p0, p1, p2⟩ := v_cells duo.vBlk
  have HD := Lib.hid duo
  dsimp only at q0 q1 q2 q3 q4 q5 q6 p0 p1 p2 nm
  clear hQ hN hX duo good err low
  conv => arg 2; whnf
  go_wp2
  exact HK.out _ ⟨⟨⟨rfl, rfl, rfl, rfl, rfl, rfl⟩, rfl⟩, rfl, rfl⟩ rfl
set_option maxHeartbeats 20000000 in
theorem hc1_any (h : PreD w0 v0 hb rb k db vb d H a w) : (hpAt [1, 1, 1, 1, 0, 1, 0, 0, 1, 0, 0, 1, 1, 1, 0, 1, 0, 1, 1]).wp Tryd.prog (MidQ w0 v0 hb rb k db d) a w := by
  have hy : ∀ a', Fv a' v0 hb rb k db vb d.what → (hpAt [1, 1, 1, 1, 0, 1, 0, 0, 1, 0, 0, 1, 1, 1, 0, 1, 0, 1, 1, 1, 0]).wp Tryd.prog (MidQ w0 v0 hb rb k db d) a' w := fun a' hf => hp1_any ⟨hf, h.duo, h.good, h.err, h.low, h.nm, h.k80⟩
  have hn : ∀ a', Fv a' v0 hb rb k db vb d.what → (hpAt [1, 1, 1, 1, 0, 1, 0, 0, 1, 0, 0, 1, 1, 1, 0, 1, 0, 1, 1, 1, 1]).wp Tryd.prog (MidQ w0 v0 hb rb k db d) a' w := fun a' hf => hc2_any ⟨hf, h.duo, h.good, h.err, h.low, h.nm, h.k80⟩
  have E : hpAt [1, 1, 1, 1, 0, 1, 0, 0, 1, 0, 0, 1, 1, 1, 0, 1, 0, 1, 1] = Code.seq (hpAt [1, 1, 1, 1, 0, 1, 0, 0, 1, 0, 0, 1, 1, 1, 0, 1, 0, 1, 1, 0]) (.cond (.tmp 92) (hpAt [1, 1, 1, 1, 0, 1, 0, 0, 1, 0, 0, 1, 1, 1, 0, 1, 0, 1, 1, 1, 0]) (hpAt [1, 1, 1, 1, 0, 1, 0, 0, 1, 0, 0, 1, 1, 1, 0, 1, 0, 1, 1, 1, 1])) := by kernel_rfl
  rw [E]
  refine wp_seq_k (fun K hK => ?_)
  have hK' : ∀ a', Fv a' v0 hb rb k db vb d.what → a'.eval (.tmp 92) = .bool (d.what == 1) → K a' w := fun a' hf he => by
    refine hK _ _ (wp_cond he ?_)
    cases (d.what == 1) with
    | true => exact hy a' hf
    | false => exact hn a' hf
  have HK := Lib.hid hK'
  clear hK hK' hy hn E
  obtain ⟨fr, duo, good, err, low, nm, k80⟩ := h
  obtain ⟨tm, df⟩ := a
  obtain ⟨x, ex, hx⟩ := lit470 tm fr.size
  have e0 := (hx 0).trans fr.t0
  have e3 := (hx 3).trans fr.t3
  have e4 := (hx 4).trans fr.t4
  have e5 := (hx 5).trans fr.t5
  have e6 := (hx 6).trans fr.t6
  have e7 := (hx 7).trans fr.t7
  have e44 := (hx 44).trans fr.t44
  have ed : df = [] := fr.defs
  clear fr hx
  subst ex
  subst ed
  rw [e0, e3, e4, e5, e6, e7, e44]
  clear e0 e3 e4 e5 e6 e7 e44
  obtain ⟨Q, hQ⟩ : ∃ Q, Q = MidQ w0 v0 hb rb k db d := ⟨_, rfl⟩
  rw [← hQ]
  have hN : ∀ a w, MidD w0 v0 hb rb k db d a w → Q .normal a w := fun a w h => by rw [hQ]; exact h
  have hX : ∀ a w, Next w0 v0 hb rb k a w → Q (.exit 1) a w := fun a w h => by rw [hQ]; exact h
  have HQP : Hid (∀ c a d v w, Q (.panic c) (Act.put a d v) w → Q (.panic c) a w) := Lib.hid fun c a d v w h => by rw [hQ] at h; exact h.elim
  have HN := Lib.hid hN
  have HX := Lib.hid hX
  have HG := Lib.hid good
  have HE := Lib.hid err
  have HLow := Lib.hid low
  obtain ⟨dw, da, dB, dn, dk, dv, dfx⟩ := d
  obtain ⟨q0, q1, q2, q3, q4, q5, q6⟩ := d_cells duo.dBlk
  obtain ⟨p0, p1, p2⟩ := v_cells duo.vBlk
  have HD := Lib.hid duo
  dsimp only at q0 q1 q2 q3 q4 q5 q6 p0 p1 p2 nm
  clear hQ hN hX duo good err low
  conv => arg 2; whnf
  go_wp2
  exact HK.out _ ⟨⟨⟨rfl, rfl, rfl, rfl, rfl, rfl⟩, rfl⟩, rfl, rfl⟩ rfl
set_option maxHeartbeats 20000000 in
theorem hc0_any (h : PreD w0 v0 hb rb k db vb d H a w) : (hpAt [1, 1, 1, 1, 0, 1, 0, 0, 1, 0, 0, 1, 1, 1, 0, 1, 0]).wp Tryd.prog (MidQ w0 v0 hb rb k db d) a w := by
  have hy : ∀ a', Fv a' v0 hb rb k db vb d.what → (hpAt [1, 1, 1, 1, 0, 1, 0, 0, 1, 0, 0, 1, 1, 1, 0, 1, 0, 1, 0]).wp Tryd.prog (MidQ w0 v0 hb rb k db d) a' w := fun a' hf => hp0_any ⟨hf, h.duo, h.good, h.err, h.low, h.nm, h.k80⟩
  have hn : ∀ a', Fv a' v0 hb rb k db vb d.what → (hpAt [1, 1, 1, 1, 0, 1, 0, 0, 1, 0, 0, 1, 1, 1, 0, 1, 0, 1, 1]).wp Tryd.prog (MidQ w0 v0 hb rb k db d) a' w := fun a' hf => hc1_any ⟨hf, h.duo, h.good, h.err, h.low, h.nm, h.k80⟩
  have E : hpAt [1, 1, 1, 1, 0, 1, 0, 0, 1, 0, 0, 1, 1, 1, 0, 1, 0] = Code.seq (hpAt [1, 1, 1, 1, 0, 1, 0, 0, 1, 0, 0, 1, 1, 1, 0, 1, 0, 0]) (.cond (.tmp 57) (hpAt [1, 1, 1, 1, 0, 1, 0, 0, 1, 0, 0, 1, 1, 1, 0, 1, 0, 1, 0]) (hpAt [1, 1, 1, 1, 0, 1, 0, 0, 1, 0, 0, 1, 1, 1, 0, 1, 0, 1, 1])) := by kernel_rfl
  rw [E]
  refine wp_seq_k (fun K hK => ?_)
  have hK' : ∀ a', Fv a' v0 hb rb k db vb d.what → a'.eval (.tmp 57) = .bool (d.what == 0) → K a' w := fun a' hf he => by
    refine hK _ _ (wp_cond he ?_)
    cases (d.what == 0) with
    | true => exact hy a' hf
    | false => exact hn a' hf
  have HK := Lib.hid hK'
  clear hK hK' hy hn E
  obtain ⟨fr, duo, good, err, low, nm, k80⟩ := h
  obtain ⟨tm, df⟩ := a
  obtain ⟨x, ex, hx⟩ := lit470 tm fr.size
  have e0 := (hx 0).trans fr.t0
  have e3 := (hx 3).trans fr.t3
  have e4 := (hx 4).trans fr.t4
  have e5 := (hx 5).trans fr.t5
  have e6 := (hx 6).trans fr.t6
  have e7 := (hx 7).trans fr.t7
  have e44 := (hx 44).trans fr.t44
  have ed : df = [] := fr.defs
  clear fr hx
  subst ex
  subst ed
  rw [e0, e3, e4, e5, e6, e7, e44]
  clear e0 e3 e4 e5 e6 e7 e44
  obtain ⟨Q, hQ⟩ : ∃ Q, Q = MidQ w0 v0 hb rb k db d := ⟨_, rfl⟩
  rw [← hQ]
  have hN : ∀ a w, MidD w0 v0 hb rb k db d a w → Q .normal a w := fun a w h => by rw [hQ]; exact h
  have hX : ∀ a w, Next w0 v0 hb rb k a w → Q (.exit 1) a w := fun a w h => by rw [hQ]; exact h
  have HQP : Hid (∀ c a d v w, Q (.panic c) (Act.put a d v) w → Q (.panic c) a w) := Lib.hid fun c a d v w h => by rw [hQ] at h; exact h.elim
  have HN := Lib.hid hN
  have HX := Lib.hid hX
  have HG := Lib.hid good
  have HE := Lib.hid err
  have HLow := Lib.hid low
  obtain ⟨dw, da, dB, dn, dk, dv, dfx⟩ := d
  obtain ⟨q0, q1, q2, q3, q4, q5, q6⟩ := d_cells duo.dBlk
  obtain ⟨p0, p1, p2⟩ := v_cells duo.vBlk
  have HD := Lib.hid duo
  dsimp only at q0 q1 q2 q3 q4 q5 q6 p0 p1 p2 nm
  clear hQ hN hX duo good err low
  conv => arg 2; whnf
  go_wp2
  exact HK.out _ ⟨⟨⟨rfl, rfl, rfl, rfl, rfl, rfl⟩, rfl⟩, rfl, rfl⟩ rfl
theorem hblk_any (h : PreD w0 v0 hb rb k db vb d H a w) : (hpAt [1, 1, 1, 1, 0, 1, 0, 0, 1, 0, 0, 1, 1, 1, 0, 1]).wp Tryd.prog (MidQ w0 v0 hb rb k db d) a w := by
  have E : hpAt [1, 1, 1, 1, 0, 1, 0, 0, 1, 0, 0, 1, 1, 1, 0, 1] = Code.block 2 (hpAt [1, 1, 1, 1, 0, 1, 0, 0, 1, 0, 0, 1, 1, 1, 0, 1, 0]) := by kernel_rfl
  rw [E]
  refine wp_block (wp_mono (hc0_any h) fun e a' w' hm => ?_)
  cases e with
  | exit i =>
    by_cases hi : i = 1
    · subst hi; exact hm
    · exfalso
      unfold MidQ at hm
      split at hm
      · rename_i he; cases he
      · rename_i he; exact hi (by cases he; rfl)
      · exact hm
  | normal => exact hm
  | ret => exact hm
  | panic c => exact hm
  | goto l => exact hm
  | outgrown => exact hm
end
end Go.Proofs.YtfanolcjgaccpaaDoor

namespace Go.Proofs.YtfanolcjgaccpaaDoor
open Go Go.RowKit
set_option maxRecDepth 1000000
set_option linter.unusedVariables false

structure Ft (a : Act) (v0 : Value) (hb rb k db xb : Nat) (ok : Bool) (gn : Int) (nO nS : Nat) (cd ob ou : Int) : Prop extends Fd a v0 hb rb k db where
  t12 : a.tmps.getD 12 undef = .pointer (some ⟨xb, 0, none⟩)
  t13 : a.tmps.getD 13 undef = .bool ok
  t14 : a.tmps.getD 14 undef = .int .i64 gn
  t15 : a.tmps.getD 15 undef = .bool ok
  t16 : a.tmps.getD 16 undef = .int .i64 nO
  t17 : a.tmps.getD 17 undef = .int .i64 nS
  t18 : a.tmps.getD 18 undef = .int .i64 cd
  t19 : a.tmps.getD 19 undef = .int .i64 ob
  t20 : a.tmps.getD 20 undef = .int .i64 ou
def xObj (gk gn : Int) (gs : ByteArray) : Obj := .cells #[.int .i64 gk, .int .i64 gn, .string gs] 36 (0, 0)
def TailQ (w0 : World) (v0 : Value) (hb rb k : Nat) : Exit → Act → World → Prop
  | .normal, a, w => Next w0 v0 hb rb k a w
  | _, _, _ => False
def objOf (H : LHeap) (n : Int) : Int := match H.scope? n with | some s => s.object | none => -1
def outOf (H : LHeap) (n : Int) : Int := match H.scope? n with | some s => s.outer | none => -1

section
variable {w0 w w' : World} {K : List (Nat × Obj)} {hb rb : Nat} {H1 H2 H3 : LHeap} {V V' : RV}
theorem DuoV.readH (h : DuoV w0 K hb rb H1 H2 V w) {f : Nat} {args : Array Value} {P : Ending → World → Prop} (hc : ∀ ρ L, HeapAt ρ w hb 0 L H1 → Calls Tryd.prog f args w fun e w' => P e w' ∧ Below w.heap.size w w') :
    Calls Tryd.prog f args w fun e w' => P e w' ∧ DuoV w0 K hb rb H1 H2 V w' := by
  have h' := h
  obtain ⟨ρ, L, h1, _⟩ := h
  exact (hc ρ L h1).mono fun e w' ⟨he, hB⟩ => ⟨he, h'.below hB⟩
theorem DuoV.readR (h : DuoV w0 K hb rb H1 H2 V w) {f : Nat} {args : Array Value} {P : Ending → World → Prop} (hc : RAt w rb V H2 → Calls Tryd.prog f args w fun e w' => P e w' ∧ Below w.heap.size w w') :
    Calls Tryd.prog f args w fun e w' => P e w' ∧ DuoV w0 K hb rb H1 H2 V w' :=
  (hc h.r).mono fun e w' ⟨he, hB⟩ => ⟨he, h.below hB⟩
theorem DuoV.alloc (h : DuoV w0 K hb rb H1 H2 V w) (o : Obj) : DuoV w0 ((w.heap.size, o) :: K) hb rb H1 H2 V (w.alloc o) := by
  obtain ⟨ρ, L, g1, g2, g3, g4, g5, g6⟩ := h
  refine ⟨ρ, L, g1.below ((Below.refl _ _).alloc (Nat.le_refl _) o), g2.below ((Below.refl _ _).alloc (Nat.le_refl _) o), g3, g4.trans (((Below.refl _ _).alloc (Nat.le_refl _) o).mono g4.size), g5, fun p hp => ?_⟩
  rcases List.mem_cons.1 hp with rfl | hp
  · exact ⟨heap_alloc_new w o, fresh_role g1 (Nat.le_refl _), fresh_own g2 (Nat.le_refl _)⟩
  · exact ⟨(((Below.refl _ _).alloc (Nat.le_refl _) o).block _ (Array.getElem?_eq_some_iff.1 (g6 p hp).1).1).trans (g6 p hp).1, (g6 p hp).2⟩
end

theorem join_cons2 (sep x y : List UInt8) (l : List (List UInt8)) : Lib.join (x :: y :: l) sep = x ++ (sep ++ Lib.join (y :: l) sep) := by
  unfold Lib.join List.intercalate
  rw [List.intersperse_cons_cons, List.flatten_cons, List.flatten_cons]
theorem join_len (sep : List UInt8) (n : Nat) : ∀ l : List (List UInt8), (∀ x ∈ l, x.length ≤ n) → (Lib.join l sep).length ≤ l.length * (n + sep.length)
  | [], _ => by simp [Lib.join, List.intercalate]
  | [x], h => by
    have h1 := h x (by simp)
    have e : Lib.join [x] sep = x := by simp [Lib.join, List.intercalate]
    rw [e, List.length_singleton]
    omega
  | x :: y :: l, h => by
    have h1 := h x (by simp)
    have h2 := join_len sep n (y :: l) (fun z hz => h z (List.mem_cons_of_mem _ hz))
    rw [join_cons2, List.length_append, List.length_append]
    simp only [List.length_cons] at h2 ⊢
    have e : (l.length + 1 + 1) * (n + sep.length) = (l.length + 1) * (n + sep.length) + (n + sep.length) := by rw [Nat.succ_mul]
    omega
theorem keys_small {H : LHeap} {n : Nat} (h : H.Good n) (hn : n ≤ 81) (i : Int) : (H.keys i).length ≤ 1000 ∧ (joinS (H.keys i) ⟨#[32]⟩).size ≤ 140737488355328 := by
  have hk : (H.keys i).length ≤ 81 ∧ ∀ x ∈ H.keys i, x.size ≤ 20 := by
    unfold LHeap.keys
    rcases hob : H.object? i with _ | o
    · simp
    · obtain ⟨m, rfl, hm⟩ := LHeap.object?_some hob
      have g := h.po m o hm
      refine ⟨by have := g.len; simp; omega, fun x hx => ?_⟩
      obtain ⟨p, hp, rfl⟩ := List.mem_map.1 hx
      exact (g.num p hp).2
  refine ⟨by omega, ?_⟩
  have := join_len [32] 20 ((H.keys i).map (·.data.toList)) (fun x hx => by
    obtain ⟨y, hy, rfl⟩ := List.mem_map.1 hx
    show y.data.toList.length ≤ 20
    rw [Array.length_toList]
    exact hk.2 y hy)
  simp only [List.length_map, List.length_cons, List.length_nil] at this
  have e : (joinS (H.keys i) ⟨#[32]⟩).size = (Lib.join ((H.keys i).map (·.data.toList)) [32]).length := by
    show (Lib.join ((H.keys i).map (·.data.toList)) [32]).toArray.size = _
    rw [List.size_toArray]
  rw [e]
  have h3 := Nat.mul_le_mul_right 21 hk.1
  omega
end Go.Proofs.YtfanolcjgaccpaaDoor
