/- HeapPlays, a piece: Object, whole. -/
import Derived.Test.YtfanolcjgaccpaaDoorJ18
namespace Go.Proofs.YtfanolcjgaccpaaDoor
open Go Go.RowKit
set_option maxRecDepth 1000000
set_option linter.unusedVariables false
section
variable {w0 w : World} {v0 : Value} {hb rb k db vb : Nat} {d : DoRec} {H : LHeap} {a : Act}
set_option maxHeartbeats 20000000 in
theorem hp0_any (h : PreD w0 v0 hb rb k db vb d H a w) : (hpAt [1, 1, 1, 1, 0, 1, 0, 0, 1, 0, 0, 1, 1, 1, 0, 1, 0, 1, 0]).wp Tryd.prog (MidQ w0 v0 hb rb k db d) a w := by
  have hgo : ∀ (dk' : Int) (a' : Act) (w' : World), Fv a' v0 hb rb k db vb d.what → Duo w0 [(vb, vObj d.v), (db, { d with kind := dk' }.obj)] hb rb H H w' → (hpAt [1, 1, 1, 1, 0, 1, 0, 0, 1, 0, 0, 1, 1, 1, 0, 1, 0, 1, 0, 1]).wp Tryd.prog (MidQ w0 v0 hb rb k db d) a' w' := fun dk' a' w' hf hd =>
    hp0b_any (d := { d with kind := dk' }) ⟨hf, hd, h.good, h.err, h.low, h.nm, h.k80⟩
  have E : hpAt [1, 1, 1, 1, 0, 1, 0, 0, 1, 0, 0, 1, 1, 1, 0, 1, 0, 1, 0] = Code.seq (hpAt [1, 1, 1, 1, 0, 1, 0, 0, 1, 0, 0, 1, 1, 1, 0, 1, 0, 1, 0, 0]) (hpAt [1, 1, 1, 1, 0, 1, 0, 0, 1, 0, 0, 1, 1, 1, 0, 1, 0, 1, 0, 1]) := by kernel_rfl
  rw [E]
  refine wp_seq_k (fun K hK => ?_)
  have hK' : ∀ (dk' : Int) (a' : Act) (w' : World), Fv a' v0 hb rb k db vb d.what → Duo w0 [(vb, vObj d.v), (db, { d with kind := dk' }.obj)] hb rb H H w' → K a' w' := fun dk' a' w' hf hd => hK _ _ (hgo dk' a' w' hf hd)
  have HK := Lib.hid hK'
  clear hK hK' hgo E
  obtain ⟨fr, duo, good, err, low, nm, k80⟩ := h
  obtain ⟨tm, df⟩ := a
  obtain ⟨x, ex, hx⟩ := lit470 tm fr.size
  have e0 := (hx 0).trans fr.t0
  have e3 := (hx 3).trans fr.t3
  have e4 := (hx 4).trans fr.t4
  have e5 := (hx 5).trans fr.t5
  have e6 := (hx 6).trans fr.t6
  have e7 := (hx 7).trans fr.t7
  have e44 := (hx 44).trans fr.t44
  have ed : df = [] := fr.defs
  clear fr hx
  subst ex
  subst ed
  rw [e0, e3, e4, e5, e6, e7, e44]
  clear e0 e3 e4 e5 e6 e7 e44
  obtain ⟨Q, hQ⟩ : ∃ Q, Q = MidQ w0 v0 hb rb k db d := ⟨_, rfl⟩
  rw [← hQ]
  have hN : ∀ a w, MidD w0 v0 hb rb k db d a w → Q .normal a w := fun a w h => by rw [hQ]; exact h
  have hX : ∀ a w, Next w0 v0 hb rb k a w → Q (.exit 1) a w := fun a w h => by rw [hQ]; exact h
  have HQP : Hid (∀ c a d v w, Q (.panic c) (Act.put a d v) w → Q (.panic c) a w) := Lib.hid fun c a d v w h => by rw [hQ] at h; exact h.elim
  have HN := Lib.hid hN
  have HX := Lib.hid hX
  have HG := Lib.hid good
  have HE := Lib.hid err
  have HLow := Lib.hid low
  obtain ⟨dw, da, dB, dn, dk, dv, dfx⟩ := d
  obtain ⟨q0, q1, q2, q3, q4, q5, q6⟩ := d_cells duo.dBlk
  obtain ⟨p0, p1, p2⟩ := v_cells duo.vBlk
  have HD := Lib.hid duo
  dsimp only at q0 q1 q2 q3 q4 q5 q6 p0 p1 p2 nm
  clear hQ hN hX duo good err low
  have hfz : w.frozen? ⟨db, 4, none⟩ = false := by
    have := HD.out.get (p := (db, (⟨dw, da, dB, dn, dk, dv, dfx⟩ : DoRec).obj)) (by simp)
    simp [World.frozen?, this, DoRec.obj]
  have hne : vb ≠ db := fun e => by
    have h1 := HD.out.get (p := (db, (⟨dw, da, dB, dn, dk, dv, dfx⟩ : DoRec).obj)) (by simp)
    have h2 := HD.out.get (p := (vb, vObj dv)) (by simp)
    dsimp only at h1 h2
    rw [e, h1] at h2
    simp [vObj, DoRec.obj, DoRec.cells] at h2
  conv => arg 2; whnf
  by_cases hk : dk < 0
  · go_wp2
    refine HK.out 0 _ _ ⟨⟨⟨rfl, rfl, rfl, rfl, rfl, rfl⟩, rfl⟩, rfl, rfl⟩ ?_
    have hd := HD.out.get (p := (db, (⟨dw, da, dB, dn, dk, dv, dfx⟩ : DoRec).obj)) (by simp)
    refine HD.out.put HLow.out (i := 4) (.int .i64 0) (o := (⟨dw, da, dB, dn, dk, dv, dfx⟩ : DoRec).obj) (by simp) (o' := (⟨dw, da, dB, dn, 0, dv, dfx⟩ : DoRec).obj) (setCell_block (o := 4) _ hd) _ (fun p hp => ?_)
    simp only [List.mem_cons, List.not_mem_nil, or_false] at hp
    rcases hp with rfl | rfl
    · exact .inr ⟨by simp, hne⟩
    · exact .inl rfl
  · go_wp2
    exact HK.out dk _ _ ⟨⟨⟨rfl, rfl, rfl, rfl, rfl, rfl⟩, rfl⟩, rfl, rfl⟩ HD.out
end
end Go.Proofs.YtfanolcjgaccpaaDoor
