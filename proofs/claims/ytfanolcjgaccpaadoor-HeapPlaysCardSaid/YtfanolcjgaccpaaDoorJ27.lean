/- HeapPlays, the tail of a round: what is looked up. HeapPlays: a round, the loop, the whole. HeapPlays: the loop, the whole. -/
import Derived.Test.YtfanolcjgaccpaaDoorJ26
import Derived.Test.YtfanolcjgaccpaaDoorJ22
namespace Go.Proofs.YtfanolcjgaccpaaDoor
open Go Go.RowKit
set_option maxRecDepth 1000000
set_option linter.unusedVariables false
set_option linter.unusedSimpArgs false
section
variable {w0 w : World} {v0 : Value} {hb rb k db xb : Nat} {d : DoRec} {H : LHeap} {a : Act} {ok : Bool} {gk gn : Int} {gs : ByteArray} {cd ob ou : Int}
set_option maxHeartbeats 20000000 in
theorem hta_any (fr : Fd a v0 hb rb k db) (duo : Duo w0 [(db, d.obj)] hb rb H H w) (good : H.Good (k + 1)) (k80 : k < 80) :
    (hpAt [1, 1, 1, 1, 0, 1, 0, 0, 1, 0, 0, 1, 1, 1, 1]).wp Tryd.prog (TailQ w0 v0 hb rb k) a w := by
  have E : hpAt [1, 1, 1, 1, 0, 1, 0, 0, 1, 0, 0, 1, 1, 1, 1] = Code.seq (hpAt [1, 1, 1, 1, 0, 1, 0, 0, 1, 0, 0, 1, 1, 1, 1, 0]) (Code.seq (hpAt [1, 1, 1, 1, 0, 1, 0, 0, 1, 0, 0, 1, 1, 1, 1, 1, 0]) (Code.seq (hpAt [1, 1, 1, 1, 0, 1, 0, 0, 1, 0, 0, 1, 1, 1, 1, 1, 1, 0]) (Code.seq (hpAt [1, 1, 1, 1, 0, 1, 0, 0, 1, 0, 0, 1, 1, 1, 1, 1, 1, 1, 0]) (hpAt [1, 1, 1, 1, 0, 1, 0, 0, 1, 0, 0, 1, 1, 1, 1, 1, 1, 1, 1])))) := by kernel_rfl
  rw [E]
  clear E
  have hT : ∀ (gk gn : Int) (gs : ByteArray) (xb : Nat) (ok : Bool) (a' : Act) (w' : World), Ft a' v0 hb rb k db xb ok gn H.objects.length H.scopes.length 0 (-1) (-1) → Duo w0 [(xb, xObj gk gn gs), (db, d.obj)] hb rb H H w' → (hpAt [1, 1, 1, 1, 0, 1, 0, 0, 1, 0, 0, 1, 1, 1, 1, 1, 1, 1, 1]).wp Tryd.prog (TailQ w0 v0 hb rb k) a' w' := fun gk gn gs xb ok a' w' hf hd => htb_any hf hd good k80
  obtain ⟨TB, hTB⟩ : ∃ c, c = hpAt [1, 1, 1, 1, 0, 1, 0, 0, 1, 0, 0, 1, 1, 1, 1, 1, 1, 1, 1] := ⟨_, rfl⟩
  rw [← hTB] at hT ⊢
  clear hTB
  obtain ⟨tm, df⟩ := a
  obtain ⟨x, ex, hx⟩ := lit470 tm fr.size
  have e0 := (hx 0).trans fr.t0
  have e3 := (hx 3).trans fr.t3
  have e4 := (hx 4).trans fr.t4
  have e5 := (hx 5).trans fr.t5
  have e6 := (hx 6).trans fr.t6
  have ed : df = [] := fr.defs
  clear fr hx
  subst ex
  subst ed
  rw [e0, e3, e4, e5, e6]
  clear e0 e3 e4 e5 e6
  obtain ⟨Q, hQ⟩ : ∃ Q, Q = TailQ w0 v0 hb rb k := ⟨_, rfl⟩
  rw [← hQ] at hT ⊢
  have hN : ∀ a w, Next w0 v0 hb rb k a w → Q .normal a w := fun a w h => by rw [hQ]; exact h
  have HQP : Hid (∀ c a d v w, Q (.panic c) (Act.put a d v) w → Q (.panic c) a w) := Lib.hid fun c a d v w h => by rw [hQ] at h; exact h.elim
  have HN := Lib.hid hN
  clear hQ hN
  obtain ⟨dw, da, dB, dn, dk, dv, dfx⟩ := d
  have HG := Lib.hid good
  have HD := Lib.hid duo
  obtain ⟨q0, q1, q2, q3, q4, q5, q6⟩ := d_cells (duo.get (p := (db, (⟨dw, da, dB, dn, dk, dv, dfx⟩ : DoRec).obj)) (by simp))
  dsimp only at q0 q1 q2 q3 q4 q5 q6
  have hr1 := fun ρ L w1 (hh : HeapAt ρ w1 hb 0 L H) => get_any hh da dn
  have hr2 := fun w1 V (hh : RAt w1 rb V H) => rget_any hh da dn
  obtain ⟨ok, hok⟩ : ∃ o, o = (H.get da dn).isSome := ⟨_, rfl⟩
  rw [← hok] at hr1 hr2
  generalize (H.get da dn).getD LVal.zero = r at *
  obtain ⟨gk, gn, gs⟩ := r
  dsimp only [LVal.agg] at hr1 hr2
  obtain ⟨nO, hnO⟩ : ∃ n, n = H.objects.length := ⟨_, rfl⟩
  obtain ⟨nS, hnS⟩ : ∃ n, n = H.scopes.length := ⟨_, rfl⟩
  have hm : ∀ ρ L w1, HeapAt ρ w1 hb 0 L H → Calls Tryd.prog 26 #[.pointer (some ⟨hb, 0, none⟩)] w1 fun e w' => e = .returned (.tuple #[.int .i64 nO, .int .i64 nS]) ∧ Below w1.heap.size w1 w' := fun ρ L w1 hh => by rw [hnO, hnS]; exact many_any hh
  rw [← hnO, ← hnS] at hT
  have HT := Lib.hid hT
  have HR1 := Lib.hid hr1
  have HR2 := Lib.hid hr2
  have HM := Lib.hid hm
  clear duo good hr1 hr2 hm hT hnO hnS hok
  refine wp_seq_k (fun K hK => ?_)
  have HK := Lib.hid hK
  clear hK
  conv => arg 2; whnf
  go_wp2_with fail
  refine (HD.out.readH (P := fun e _ => e = .returned (.tuple #[.agg #[.int .i64 gk, .int .i64 gn, .string gs], .bool ok])) (fun ρ L hh => HR1.out ρ L _ hh)).mono ?_
  rintro e w1 ⟨rfl, _, hD2⟩
  have hD3 := hD2.alloc (.cells #[.int .i64 gk, .int .i64 gn, .string gs] 36)
  have hz := d_cells (hD3.get (p := (db, (⟨dw, da, dB, dn, dk, dv, dfx⟩ : DoRec).obj)) (by simp))
  obtain ⟨u0, u1, u2, u3, u4, u5, u6⟩ := hz
  dsimp only at u0 u1 u2 u3 u4 u5 u6
  have HD3 := Lib.hid hD3
  clear hD2 hD3
  go_wp2
  refine HK.out _ _ ?_
  clear HK K
  refine wp_seq_k (fun K hK => ?_)
  have HK := Lib.hid hK
  clear hK
  conv => arg 2; whnf
  go_wp2_with fail
  refine (HD3.out.readR (P := fun e _ => e = .returned (.tuple #[.int .i64 gn, .bool ok])) (fun V hh => HR2.out _ V hh)).mono ?_
  rintro e w2 ⟨rfl, _, hD4⟩
  have HD4 := Lib.hid hD4
  clear hD4 HD3 u0 u1 u2 u3 u4 u5 u6 q0 q1 q2 q3 q4 q5 q6
  go_wp2
  refine HK.out _ _ ?_
  clear HK K
  refine wp_seq_k (fun K hK => ?_)
  have HK := Lib.hid hK
  clear hK
  conv => arg 2; whnf
  go_wp2_with fail
  refine (HD4.out.readH (P := fun e _ => e = .returned (.tuple #[.int .i64 nO, .int .i64 nS])) (fun ρ L hh => HM.out ρ L _ hh)).mono ?_
  rintro e w3 ⟨rfl, _, hD5⟩
  have HD5 := Lib.hid hD5
  clear hD5 HD4
  go_wp2
  refine HK.out _ _ ?_
  clear HK K
  refine wp_seq_k (fun K hK => ?_)
  have HK := Lib.hid hK
  clear hK
  conv => arg 2; whnf
  go_wp2
  refine HK.out _ _ ?_
  exact HT.out gk gn gs _ ok _ _ ⟨⟨⟨rfl, rfl, rfl, rfl, rfl, rfl⟩, rfl⟩, rfl, rfl, rfl, rfl, rfl, rfl, rfl, rfl, rfl⟩ HD5.out
end
end Go.Proofs.YtfanolcjgaccpaaDoor

namespace Go.Proofs.YtfanolcjgaccpaaDoor
open Go Go.RowKit
set_option maxRecDepth 1000000
set_option linter.unusedVariables false
set_option linter.unusedSimpArgs false
/-- the list that the law is handed -/
structure ArgAt (w0 : World) (ad : Option Addr) (n c : Nat) (ds : List DoRec) : Prop where
  len : n = ds.length
  cap : n ≤ c
  max : c ≤ 9223372036854775807
  at_ : ∀ (i : Nat) d, ds[i]? = some d → ∃ bk o, ad = some ⟨bk, o, none⟩ ∧ bk < w0.heap.size ∧ ∀ j x, d.cells[j]? = some x → w0.cell? ⟨bk, o + i * 7 + j, none⟩ = some x
def RetOk (w0 : World) (a : Act) (w : World) : Prop := a.tmps.getD 2 undef = .bool true ∧ a.defers = [] ∧ Below w0.heap.size w0 w
def B1Q (w0 : World) (v0 : Value) (hb rb k : Nat) : Exit → Act → World → Prop
  | .normal, a, w => Next w0 v0 hb rb k a w
  | .exit 1, a, w => Next w0 v0 hb rb k a w
  | .ret, a, w => RetOk w0 a w
  | _, _, _ => False
def LoopQ (w0 : World) (v0 : Value) (hb rb n : Nat) : Exit → Act → World → Prop
  | .exit 0, a, w => Fm a v0 hb rb n ∧ Below w0.heap.size w0 w
  | .ret, a, w => RetOk w0 a w
  | _, _, _ => False
section
variable {w0 w : World} {v0 : Value} {hb rb k n c : Nat} {ad : Option Addr} {ds : List DoRec} {H : LHeap} {a : Act}
theorem B1Q_exit {db : Nat} {d : DoRec} {i : Nat} {a : Act} {w : World} (h : MidQ w0 v0 hb rb k db d (.exit i) a w) : i = 1 ∧ Next w0 v0 hb rb k a w := by
  by_cases hi : i = 1
  · subst hi; exact ⟨rfl, h⟩
  · exfalso
    unfold MidQ at h
    split at h
    · rename_i he; cases he
    · rename_i he; exact hi (by cases he; rfl)
    · exact h
set_option maxHeartbeats 20000000 in
theorem hb1_any (fr : Fm a (.slice ad n c) hb rb k) (hk : k < n) (hn : n ≤ 80) (har : ArgAt w0 ad n c ds) (duo : Duo w0 [] hb rb H H w) (good : H.Good k) (err : ErrType w0) :
    (hpAt [1, 1, 1, 1, 0, 1, 0, 0, 1, 0, 0]).wp Tryd.prog (B1Q w0 (.slice ad n c) hb rb k) a w := by
  obtain ⟨d, hd⟩ : ∃ d, ds[k]? = some d := ⟨_, List.getElem?_eq_getElem (by rw [← har.len]; exact hk)⟩
  obtain ⟨bk, o, ha, hbk, hcell⟩ := har.at_ k d hd
  have hT : ∀ (db : Nat) (a' : Act) (w' : World), MidD w0 (.slice ad n c) hb rb k db d a' w' → (hpAt [1, 1, 1, 1, 0, 1, 0, 0, 1, 0, 0, 1, 1, 1, 1]).wp Tryd.prog (TailQ w0 (.slice ad n c) hb rb k) a' w' := fun db a' w' hm => by
    obtain ⟨h1, H', kd, h2, h3⟩ := hm
    exact hta_any (d := { d with kind := kd }) h1 h2 h3 (by omega)
  have hB : ∀ (db vb : Nat) (a' : Act) (w' : World), PreD w0 (.slice ad n c) hb rb k db vb d H a' w' → (hpAt [1, 1, 1, 1, 0, 1, 0, 0, 1, 0, 0, 1, 1, 1, 0, 1]).wp Tryd.prog (MidQ w0 (.slice ad n c) hb rb k db d) a' w' := fun db vb a' w' hp => hblk_any hp
  have E : hpAt [1, 1, 1, 1, 0, 1, 0, 0, 1, 0, 0] = Code.seq (hpAt [1, 1, 1, 1, 0, 1, 0, 0, 1, 0, 0, 0]) (Code.seq (hpAt [1, 1, 1, 1, 0, 1, 0, 0, 1, 0, 0, 1, 0]) (Code.seq (hpAt [1, 1, 1, 1, 0, 1, 0, 0, 1, 0, 0, 1, 1, 0]) (Code.seq (Code.seq (hpAt [1, 1, 1, 1, 0, 1, 0, 0, 1, 0, 0, 1, 1, 1, 0, 0]) (hpAt [1, 1, 1, 1, 0, 1, 0, 0, 1, 0, 0, 1, 1, 1, 0, 1])) (hpAt [1, 1, 1, 1, 0, 1, 0, 0, 1, 0, 0, 1, 1, 1, 1])))) := by kernel_rfl
  rw [E]
  clear E
  obtain ⟨TT, hTT⟩ : ∃ c, c = hpAt [1, 1, 1, 1, 0, 1, 0, 0, 1, 0, 0, 1, 1, 1, 1] := ⟨_, rfl⟩
  obtain ⟨BB, hBB⟩ : ∃ c, c = hpAt [1, 1, 1, 1, 0, 1, 0, 0, 1, 0, 0, 1, 1, 1, 0, 1] := ⟨_, rfl⟩
  rw [← hTT] at hT ⊢
  rw [← hBB] at hB ⊢
  clear hTT hBB
  obtain ⟨tm, df⟩ := a
  obtain ⟨x, ex, hx⟩ := lit470 tm fr.size
  have e0 := (hx 0).trans fr.t0
  have e3 := (hx 3).trans fr.t3
  have e4 := (hx 4).trans fr.t4
  have e5 := (hx 5).trans fr.t5
  have ed : df = [] := fr.defs
  clear fr hx
  subst ex
  subst ed
  rw [e0, e3, e4, e5]
  clear e0 e3 e4 e5
  have hB0 := duo.base
  have hsz := hB0.size
  have hc1 := har.cap
  have hc2 := har.max
  obtain ⟨dw, da, dB, dn, dk, dv, dfx⟩ := d
  have hf : ∀ j x, (⟨dw, da, dB, dn, dk, dv, dfx⟩ : DoRec).cells[j]? = some x → w.cell? ⟨bk, o + k * 7 + j, none⟩ = some x := fun j x hx => (hB0.cell (p := ⟨bk, o + k * 7 + j, none⟩) hbk).trans (hcell j x hx)
  have f0 := hf 0 _ rfl
  have f1 := hf 1 _ rfl
  have f2 := hf 2 _ rfl
  have f3 := hf 3 _ rfl
  have f4 := hf 4 _ rfl
  have f5 := hf 5 _ rfl
  have f6 := hf 6 _ rfl
  rw [Nat.add_zero] at f0
  subst ha
  have HD := Lib.hid duo
  have HG := Lib.hid good
  have HE := Lib.hid err
  have HT := Lib.hid hT
  have HB := Lib.hid hB
  obtain ⟨Q, hQ⟩ : ∃ Q, Q = B1Q w0 (.slice (some ⟨bk, o, none⟩) n c) hb rb k := ⟨_, rfl⟩
  rw [← hQ]
  have HQN : Hid (∀ a w, Next w0 (.slice (some ⟨bk, o, none⟩) n c) hb rb k a w → Q .normal a w) := Lib.hid fun a w h => by rw [hQ]; exact h
  have HQX : Hid (∀ a w, Next w0 (.slice (some ⟨bk, o, none⟩) n c) hb rb k a w → Q (.exit 1) a w) := Lib.hid fun a w h => by rw [hQ]; exact h
  have HQR : Hid (∀ a w, RetOk w0 a w → Q .ret a w) := Lib.hid fun a w h => by rw [hQ]; exact h
  clear hB0 hcell hf duo good err hT hB hQ hd har
  refine wp_seq_k (fun K hK => ?_)
  have HK := Lib.hid hK
  clear hK
  conv => arg 2; whnf
  go_wp2
  refine HK.out _ _ ?_
  clear HK K
  have hD1 := HD.out.alloc (.cells #[.int .i64 dw, .int .i64 da, .int .i64 dB, .string dn, .int .i64 dk, .int .i64 dv, .bool dfx] 34)
  obtain ⟨w1, hw1⟩ : ∃ w1, w1 = w.alloc (.cells #[.int .i64 dw, .int .i64 da, .int .i64 dB, .string dn, .int .i64 dk, .int .i64 dv, .bool dfx] 34) := ⟨_, rfl⟩
  obtain ⟨db, hdb⟩ : ∃ x, x = w.heap.size := ⟨_, rfl⟩
  rw [← hw1] at hD1 ⊢
  rw [← hdb] at hD1 hsz ⊢
  have hD1' : Duo w0 [(db, (⟨dw, da, dB, dn, dk, dv, dfx⟩ : DoRec).obj)] hb rb H H w1 := hD1
  obtain ⟨q0, q1, q2, q3, q4, q5, q6⟩ := d_cells (hD1'.get (p := (db, (⟨dw, da, dB, dn, dk, dv, dfx⟩ : DoRec).obj)) (by simp))
  dsimp only at q0 q1 q2 q3 q4 q5 q6
  have HD1 := Lib.hid hD1'
  clear hD1 hD1' f0 f1 f2 f3 f4 f5 f6 hw1 hdb HD
  refine wp_seq_k (fun K hK => ?_)
  have HK := Lib.hid hK
  clear hK
  conv => arg 2; whnf
  by_cases hnm : 20 < dn.size
  · go_wp2
    exact HQR.out _ _ ⟨rfl, rfl, HD1.out.base⟩
  go_wp2
  refine HK.out _ _ ?_
  clear HK K
  refine wp_seq_k (fun K hK => ?_)
  have HK := Lib.hid hK
  clear hK
  conv => arg 2; whnf
  go_wp2_with fail
  have hof : ∀ w1, Calls Tryd.prog 4 #[.int .i64 dv] w1 fun e w' => e = .returned (.agg #[.int .i64 3, .int .i64 dv, .string ⟨#[]⟩]) ∧ Below w1.heap.size w1 w' := fun w1 => of_any w1 dv
  refine (hof _).mono ?_
  rintro e w2 ⟨rfl, hB2⟩
  have hD2 := HD1.out.below hB2
  have hD3 := hD2.alloc (.cells #[.int .i64 3, .int .i64 dv, .string ⟨#[]⟩] 36)
  have HD3 := Lib.hid hD3
  clear hof hB2 hD2 hD3 q0 q1 q2 q3 q4 q5 q6
  go_wp2
  refine HK.out _ _ ?_
  clear HK K
  obtain ⟨vb, hvb⟩ : ∃ x, x = w2.heap.size := ⟨_, rfl⟩
  obtain ⟨w3, hw3⟩ : ∃ x, x = w2.alloc (.cells #[.int .i64 3, .int .i64 dv, .string ⟨#[]⟩] 36) := ⟨_, rfl⟩
  have hD4 := HD3.out
  rw [← hvb, ← hw3] at hD4
  rw [← hvb, ← hw3]
  have hD5 : Duo w0 [(vb, vObj dv), (db, (⟨dw, da, dB, dn, dk, dv, dfx⟩ : DoRec).obj)] hb rb H H w3 := hD4
  obtain ⟨q0, q1, q2, q3, q4, q5, q6⟩ := d_cells (hD5.get (p := (db, (⟨dw, da, dB, dn, dk, dv, dfx⟩ : DoRec).obj)) (by simp))
  dsimp only at q0 q1 q2 q3 q4 q5 q6
  have HD5 := Lib.hid hD5
  clear hD4 hD5 HD3 hvb hw3 q1 q2 q3 q4 q5 q6
  refine wp_seq_k (fun K hK => ?_)
  have HK := Lib.hid hK
  clear hK
  refine wp_seq_k (fun K2 hK2 => ?_)
  have HK2 := Lib.hid hK2
  clear hK2
  conv => arg 2; whnf
  go_wp2
  refine HK2.out _ _ (wp_mono (HB.out db vb _ _ ⟨⟨⟨⟨rfl, rfl, rfl, rfl, rfl, rfl⟩, rfl⟩, rfl, rfl⟩, HD5.out, HG.out, HE.out, hsz, (by show dn.size ≤ 20; omega), by omega⟩) fun e a' w' hm => ?_)
  cases e with
  | normal =>
    refine HK.out _ _ (wp_mono (HT.out db a' w' hm) fun e a'' w'' ht => ?_)
    cases e with
    | normal => exact HQN.out _ _ ht
    | exit i => exact ht.elim
    | ret => exact ht.elim
    | panic c => exact ht.elim
    | goto l => exact ht.elim
    | outgrown => exact ht.elim
  | exit i =>
    obtain ⟨rfl, hx⟩ := B1Q_exit hm
    exact HQX.out _ _ hx
  | ret => exact hm.elim
  | panic c => exact hm.elim
  | goto l => exact hm.elim
  | outgrown => exact hm.elim
end
end Go.Proofs.YtfanolcjgaccpaaDoor

namespace Go.Proofs.YtfanolcjgaccpaaDoor
open Go Go.RowKit
set_option maxRecDepth 1000000
set_option linter.unusedVariables false
set_option linter.unusedSimpArgs false
section
variable {w0 w : World} {v0 : Value} {hb rb k n c : Nat} {ad : Option Addr} {ds : List DoRec} {H : LHeap} {a : Act}
set_option maxHeartbeats 20000000 in
theorem hnext_any (h : Next w0 v0 hb rb k a w) (hk : k < 80) : (hpAt [1, 1, 1, 1, 0, 1, 0, 0, 1, 1]).wp Tryd.prog (fun e a' w' => e = .normal ∧ Fm a' v0 hb rb (k + 1) ∧ w' = w) a w := by
  have fr := h.1
  clear h
  obtain ⟨tm, df⟩ := a
  obtain ⟨x, ex, hx⟩ := lit470 tm fr.size
  have e0 := (hx 0).trans fr.t0
  have e3 := (hx 3).trans fr.t3
  have e4 := (hx 4).trans fr.t4
  have e5 := (hx 5).trans fr.t5
  have ed : df = [] := fr.defs
  clear fr hx
  subst ex
  subst ed
  rw [e0, e3, e4, e5]
  clear e0 e3 e4 e5
  obtain ⟨Q, hQ⟩ : ∃ Q : Exit → Act → World → Prop, Q = fun e a' w' => e = .normal ∧ Fm a' v0 hb rb (k + 1) ∧ w' = w := ⟨_, rfl⟩
  rw [← hQ]
  have HQ : Hid (∀ a', Fm a' v0 hb rb (k + 1) → Q .normal a' w) := Lib.hid fun a' h => by rw [hQ]; exact ⟨rfl, h, rfl⟩
  clear hQ
  conv => arg 2; whnf
  go_wp2
  exact HQ.out _ ⟨rfl, rfl, rfl, rfl, rfl, by show Value.int .i64 _ = _; go_num⟩
/-- where a round begins -/
def LoopI (w0 : World) (v0 : Value) (hb rb n : Nat) (a : Act) (w : World) : Prop := ∃ k H, Fm a v0 hb rb k ∧ k ≤ n ∧ Duo w0 [] hb rb H H w ∧ H.Good k
def loopMu (n : Nat) (a : Act) : Nat := n - (match a.tmps.getD 5 undef with | .int _ i => i.toNat | _ => 0)
theorem loopMu_at (h : Fm a v0 hb rb k) : loopMu n a = n - k := by
  unfold loopMu
  rw [h.t5]
  simp
set_option maxHeartbeats 20000000 in
theorem hround_any (h : LoopI w0 (.slice ad n c) hb rb n a w) (hn : n ≤ 80) (har : ArgAt w0 ad n c ds) (err : ErrType w0) :
    (hpAt [1, 1, 1, 1, 0, 1, 0, 0]).wp Tryd.prog (Exit.then (fun a' w' => LoopI w0 (.slice ad n c) hb rb n a' w' ∧ loopMu n a' < loopMu n a) (LoopQ w0 (.slice ad n c) hb rb n)) a w := by
  obtain ⟨k, H, fr, hk, duo, good⟩ := h
  have E : hpAt [1, 1, 1, 1, 0, 1, 0, 0] = Code.seq (hpAt [1, 1, 1, 1, 0, 1, 0, 0, 0]) (Code.seq (Code.block 1 (hpAt [1, 1, 1, 1, 0, 1, 0, 0, 1, 0, 0])) (hpAt [1, 1, 1, 1, 0, 1, 0, 0, 1, 1])) := by kernel_rfl
  rw [E]
  clear E
  have hmu := loopMu_at (n := n) fr
  rw [hmu]
  have hrest : ∀ a', k < n → Fm a' (.slice ad n c) hb rb k → (Code.seq (Code.block 1 (hpAt [1, 1, 1, 1, 0, 1, 0, 0, 1, 0, 0])) (hpAt [1, 1, 1, 1, 0, 1, 0, 0, 1, 1])).wp Tryd.prog (Exit.then (fun a' w' => LoopI w0 (.slice ad n c) hb rb n a' w' ∧ loopMu n a' < n - k) (LoopQ w0 (.slice ad n c) hb rb n)) a' w := fun a' hlt hf => by
    refine wp_seq (wp_block (wp_mono (hb1_any hf hlt hn har duo good err) fun e a1 w1 hm => ?_))
    have key : Next w0 (.slice ad n c) hb rb k a1 w1 → (hpAt [1, 1, 1, 1, 0, 1, 0, 0, 1, 1]).wp Tryd.prog (Exit.then (fun a' w' => LoopI w0 (.slice ad n c) hb rb n a' w' ∧ loopMu n a' < n - k) (LoopQ w0 (.slice ad n c) hb rb n)) a1 w1 := fun hx => by
      refine wp_mono (hnext_any hx (by omega)) fun e a2 w2 ⟨he, hf2, hw2⟩ => ?_
      subst he
      subst hw2
      obtain ⟨_, H', d2, g2⟩ := hx
      exact ⟨⟨k + 1, H', hf2, hlt, d2, g2⟩, by rw [loopMu_at hf2]; omega⟩
    cases e with
    | normal => exact key hm
    | exit i =>
      by_cases hi : i = 1
      · subst hi; exact key hm
      · exfalso
        unfold B1Q at hm
        split at hm
        · rename_i he; cases he
        · rename_i he; exact hi (by cases he; rfl)
        · rename_i he; cases he
        · exact hm
    | ret => exact hm
    | panic c => exact hm
    | goto l => exact hm
    | outgrown => exact hm
  obtain ⟨RR, hRR⟩ : ∃ c, c = Code.seq (Code.block 1 (hpAt [1, 1, 1, 1, 0, 1, 0, 0, 1, 0, 0])) (hpAt [1, 1, 1, 1, 0, 1, 0, 0, 1, 1]) := ⟨_, rfl⟩
  rw [← hRR] at hrest ⊢
  refine wp_seq_k (fun K hK => ?_)
  have hK2 : ∀ a', k < n → Fm a' (.slice ad n c) hb rb k → K a' w := fun a' h1 h2 => hK _ _ (hrest a' h1 h2)
  have HK := Lib.hid hK2
  have hb0 := duo.base
  have hc1 := har.cap
  have hc2 := har.max
  have HX : Hid (∀ a', Fm a' (.slice ad n c) hb rb n → LoopQ w0 (.slice ad n c) hb rb n (.exit 0) a' w) := Lib.hid fun a' h => ⟨h, hb0⟩
  clear hK hK2 hrest hRR hmu duo good err har hb0
  obtain ⟨tm, df⟩ := a
  obtain ⟨x, ex, hx⟩ := lit470 tm fr.size
  have e0 := (hx 0).trans fr.t0
  have e3 := (hx 3).trans fr.t3
  have e4 := (hx 4).trans fr.t4
  have e5 := (hx 5).trans fr.t5
  have ed : df = [] := fr.defs
  clear fr hx
  subst ex
  subst ed
  rw [e0, e3, e4, e5]
  clear e0 e3 e4 e5
  obtain ⟨Q, hQ⟩ : ∃ Q, Q = LoopQ w0 (.slice ad n c) hb rb n := ⟨_, rfl⟩
  rw [← hQ] at HX ⊢
  clear hQ
  conv => arg 2; whnf
  by_cases hlt : k < n
  · go_wp2
    exact HK.out _ hlt ⟨rfl, rfl, rfl, rfl, rfl, rfl⟩
  · have hkn : k = n := by omega
    subst hkn
    go_wp2
    exact HX.out _ ⟨rfl, rfl, rfl, rfl, rfl, rfl⟩
theorem hloop_any (fr : Fm a (.slice ad n c) hb rb 0) (hn : n ≤ 80) (har : ArgAt w0 ad n c ds) (duo : Duo w0 [] hb rb ⟨[], []⟩ ⟨[], []⟩ w) (err : ErrType w0) :
    (Code.loop (hpAt [1, 1, 1, 1, 0, 1, 0, 0])).wp Tryd.prog (LoopQ w0 (.slice ad n c) hb rb n) a w :=
  wp_loop (LoopI w0 (.slice ad n c) hb rb n) (fun a _ => loopMu n a) ⟨0, _, fr, Nat.zero_le _, duo, good_empty⟩ fun a w h => hround_any h hn har err
/-- the two heaps at the start -/
theorem duo_start (w : World) : Duo w [] w.heap.size (w.heap.size + 1) ⟨[], []⟩ ⟨[], []⟩ ((w.alloc (.cells #[.slice none 0 0, .slice none 0 0] 26)).alloc (.cells #[.slice none 0 0, .slice none 0 0, .slice none 0 0] 32)) := by
  obtain ⟨ρ, L, h0, hr⟩ := heap_new w 26
  have hB : Below (w.heap.size + 1) (w.alloc (.cells #[.slice none 0 0, .slice none 0 0] 26)) ((w.alloc (.cells #[.slice none 0 0, .slice none 0 0] 26)).alloc (.cells #[.slice none 0 0, .slice none 0 0, .slice none 0 0] 32)) := (Below.refl _ _).alloc (by simp) _
  have hrow : ∀ r, (RV.mk nilRow nilRow nilRow [] []).row r = nilRow := fun r => by cases r <;> simp [RV.row]
  have hown : ∀ b, (RV.mk nilRow nilRow nilRow [] []).own (w.heap.size + 1) b → b = w.heap.size + 1 := fun b hb => by
    rcases hb with h | ⟨r, h⟩
    · exact h
    · rw [hrow r] at h; cases h
  refine ⟨ρ, L, ⟨nilRow, nilRow, nilRow, [], []⟩, h0.below (by simpa using hB), ?_, ?_, ?_, ?_, fun p hp => by cases hp⟩
  · refine { head := ?_, lp := rfl, lc := rfl, rowC := World.ownsRow_nil _ _ _ _, rowP := World.ownsRow_nil _ _ _ _, rowR := World.ownsRow_nil _ _ _ _, prp := fun i o h => (by cases h), cel := fun i s h => (by cases h), apart := ?_, off := ?_ }
    · have := heap_alloc_new (w.alloc (.cells #[.slice none 0 0, .slice none 0 0] 26)) (.cells #[.slice none 0 0, .slice none 0 0, .slice none 0 0] 32)
      rwa [show (w.alloc (.cells #[.slice none 0 0, .slice none 0 0] 26)).heap.size = w.heap.size + 1 by simp] at this
    · intro r r' g h; rw [hrow r] at h; cases h
    · intro r h; rw [hrow r] at h; cases h
  · intro b hb
    rw [hown b hb]
    exact hr _ (by omega)
  · exact ((Below.refl _ _).alloc (Nat.le_refl _) _).alloc (by simp) _
  · exact fun b hb => ⟨hr b (by omega), fun h => by have := hown b h; omega⟩
end
set_option maxHeartbeats 20000000 in
theorem heapplays_any (w : World) (ad : Option Addr) (n c : Nat) (ds : List DoRec) (har : ArgAt w ad n c ds) (err : ErrType w) :
    Calls Tryd.prog 3 #[.slice ad n c] w fun e w' => e = .returned (.bool true) ∧ Below w.heap.size w w' := by
  have hc1 := har.cap
  have hc2 := har.max
  by_cases hn : 80 < n
  · clear har err
    go_enter Tryd.func3, Tryd.ntmps3
    go_wp2
    go_ret
    exact ⟨rfl, Below.refl _ _⟩
  have HL := Lib.hid (fun a (fr : Fm a (.slice ad n c) w.heap.size (w.heap.size + 1) 0) => hloop_any fr (by omega) har (duo_start w) err)
  have HD := Lib.hid (duo_start w).base
  clear har err
  go_enter Tryd.func3, Tryd.ntmps3
  go_wp2_with fail
  rename_i Q1 h80 K1 hK1
  refine wp_mono (HL.out _ ⟨rfl, rfl, rfl, rfl, rfl, rfl⟩) (fun e a' w' hm => ?_)
  cases e with
  | exit i =>
    by_cases hi : i = 0
    · subst hi
      obtain ⟨fr, hB⟩ : Fm a' (.slice ad n c) w.heap.size (w.heap.size + 1) n ∧ Below w.heap.size w w' := hm
      have HB := Lib.hid hB
      clear hB HL HD
      refine hK1 _ _ ?_
      clear hK1 K1
      obtain ⟨tm, df⟩ := a'
      obtain ⟨x, ex, hx⟩ := lit470 tm fr.size
      have ed : df = [] := fr.defs
      clear fr hx
      subst ex
      subst ed
      go_wp2
      go_ret
      exact ⟨rfl, HB.out⟩
    · exfalso
      unfold LoopQ at hm
      split at hm
      · rename_i he; exact hi (by cases he; rfl)
      · rename_i he; cases he
      · exact hm
  | ret =>
    obtain ⟨h2, hd, hB⟩ : RetOk w a' w' := hm
    exact bodyPost_ret (P := Tryd.prog) (fn := Tryd.f3) (R := fun e w' => e = .returned (.bool true) ∧ Below w.heap.size w w') (results_tmp (t := 2) rfl _ _ _) hd ⟨by rw [h2], hB⟩
  | normal => exact hm.elim
  | panic c => exact hm.elim
  | goto l => exact hm.elim
  | outgrown => exact hm.elim
end Go.Proofs.YtfanolcjgaccpaaDoor
