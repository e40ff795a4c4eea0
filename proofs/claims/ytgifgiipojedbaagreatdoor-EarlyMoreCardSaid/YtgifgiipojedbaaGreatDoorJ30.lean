/- Package tree: Parse, whole. The laws' reading of a program. errors.As at a target of type Errno, after the guide's worked text for a pointer target. api.Tell at the errors that package heap hands back. -/
import Derived.Test.YtgifgiipojedbaaGreatDoorJ29
import Derived.Test.YtgifgiipojedbaaGreatDoorJ16
import Derived.Test.YtgifgiipojedbaaGreatDoorJ11
import Derived.Test.YtgifgiipojedbaaGreatDoorProg
import Derived.WalkKit
import Derived.LaidEql
import Derived.Stop.Asserts
import Derived.RowKitTokens
import Derived.Test.YtgifgiipojedbaaGreatDoorJ01
namespace Go.Proofs.YtgifgiipojedbaaGreatDoor
open Go Go.RowKit
set_option maxRecDepth 100000
set_option linter.unusedVariables false

/-- what comes of what was read -/
def finP : Except (Int × Nat) (Tree × List Tok) → Except (Int × Int) Tree
  | .error (e, p) => .error (e, p)
  | .ok (t, _) => if 1500 < t.many then .error (4, -1) else .ok t
set_option maxHeartbeats 16000000 in
theorem parse_good (w : World) (text : ByteArray) (hm : text.size ≤ 3000) (hW : Words w) (hL : Levels w w.heap.size) (ts : List Tok) (ht : lexAll text = .ok ts) :
    Calls Tryz.prog 41 #[.string text] w (ParsePost w (parseAll text)) := by
  obtain ⟨k1, k2, k3, k4⟩ := cells2_at w
  obtain ⟨w0, hw0⟩ : ∃ w0, w0 = cells2 w := ⟨_, rfl⟩
  rw [← hw0] at k1 k2 k3 k4
  have HC := tokens_any w0 text hm (hW.below k4)
  rw [ht] at HC
  have HC := Lib.hid HC
  have HL := Lib.hid hL
  obtain ⟨s1, s2, s3⟩ := stand_shape ts 0 (Nat.zero_le _) (lexAll_ok ht)
  have S1 := Lib.hid s1
  have S2 := Lib.hid s2
  have HM := Lib.hid hm
  have HT := Lib.hid ht
  have hmf : ∀ (fn : Fn) (first cap : Array Value) (w : World), (Instr.makeFunc fn first cap).run Tryz.prog w = .ok (.func fn first cap) w := fun _ _ _ _ => rfl
  obtain ⟨r, hr⟩ : ∃ r, parseF (40 * ts.length + 31) (.stmts 1 []) 0 ts = some r := by
    have := parse_some (40 * ts.length + 31) (.stmts 1 []) 0 ts (by simp only [Job.rank]; omega)
    cases h : parseF (40 * ts.length + 31) (.stmts 1 []) 0 ts with
    | none => exact absurd h this
    | some r => exact ⟨r, rfl⟩
  have hall : parseAll text = finP r := by
    unfold parseAll
    rw [if_neg (by omega), ht]
    simp only [hr]
    rcases r with ⟨e, p⟩ | ⟨t, us⟩ <;> rfl
  have HR := Lib.hid hr
  have HALL := Lib.hid hall
  have K1 := Lib.hid k1
  have K2 := Lib.hid k2
  have K3 := Lib.hid k3
  have K4 := Lib.hid k4
  unfold cells2 at hw0
  have HW0 := Lib.hid hw0
  clear hw0 k1 k2 k3 k4 s1 s2 s3 ht hr hall hm hL hW
  go_enter_defers Tryz.func41, Tryz.ntmps41
  go_wp2_with fail
  rw [← HW0.out]
  refine HC.out.mono ?_
  rintro e w1 ⟨⟨v, rfl, hv⟩, hB⟩
  obtain ⟨vp, vn, vc, hvv⟩ : ∃ p n c, v = .slice p n c := by
    rcases ownsRow_cases hv with ⟨h1, _⟩ | ⟨g, cap, h1, _⟩
    · exact ⟨_, _, _, h1⟩
    · exact ⟨_, _, _, h1⟩
  subst hvv
  have b1 := (hB.block w.heap.size (by rw [K3.out]; omega)).trans K1.out
  have b2 := (hB.block (w.heap.size + 1) (by rw [K3.out]; omega)).trans K2.out
  obtain ⟨pb, hpb⟩ : ∃ b, b = w.heap.size := ⟨_, rfl⟩
  obtain ⟨eb, heb⟩ : ∃ b, b = w.heap.size + 1 := ⟨_, rfl⟩
  rw [← heb] at b2
  rw [← hpb] at b1
  rw [← heb, ← hpb]
  have hne : pb ≠ eb := by omega
  have c1 : w1.cell? ⟨pb, 0, none⟩ = some (.pointer none) := by simp [World.cell?, b1]
  have c2 : w1.cell? ⟨eb, 0, none⟩ = some .nilIface := by simp [World.cell?, b2]
  have z1 : w1.frozen? ⟨pb, 0, none⟩ = false := by simp [World.frozen?, b1]
  have z2 : w1.frozen? ⟨eb, 0, none⟩ = false := by simp [World.frozen?, b2]
  have hl1 : pb < w1.heap.size := (Array.getElem?_eq_some_iff.1 b1).1
  have hl2 : eb < w1.heap.size := (Array.getElem?_eq_some_iff.1 b2).1
  have B01 := Lib.hid (K4.out.trans (hB.mono K4.out.size))
  have HV := Lib.hid hv
  have HPB := Lib.hid hpb
  have HEB := Lib.hid heb
  have BB1 := Lib.hid b1
  have BB2 := Lib.hid b2
  obtain ⟨w2, hw2⟩ : ∃ w2, w2 = (w1.setCell ⟨eb, 0, none⟩ .nilIface).alloc (.cells #[.slice vp vn vc, .int .i64 0] 109) := ⟨_, rfl⟩
  obtain ⟨rb, hrb⟩ : ∃ b, b = w1.heap.size := ⟨_, rfl⟩
  have hs1 : (w1.setCell ⟨eb, 0, none⟩ .nilIface).heap.size = rb := by rw [hrb]; exact World.size_setCell ..
  have hs2 : w2.heap.size = rb + 1 := by rw [hw2]; simp [hrb]
  have far2 : ∀ k, k < rb → k ≠ eb → w2.heap[k]? = w1.heap[k]? := fun k hk hn => by
    rw [hw2]
    exact (Below.heap_alloc _ _ _ (by rw [hs1]; exact hk)).trans (Below.heap_setCell _ _ _ _ hn)
  have e2 : w2.heap[eb]? = some (.cells #[.nilIface] 27 (0, 0)) := by
    rw [hw2]
    exact (Below.heap_alloc _ _ _ (by rw [hs1]; omega)).trans (setCell_block (o := 0) .nilIface b2)
  have r2 : w2.heap[rb]? = some (.cells #[.slice vp vn vc, .int .i64 0] 109 (0, 0)) := by
    rw [hw2, ← hs1]; exact heap_alloc_new _ _
  have hlev : Levels w2 rb := by
    refine (HL.out.keep (w' := w2) fun k hk => ?_).mono (by have := B01.out.size; omega)
    exact (far2 k (by have := B01.out.size; omega) (by omega)).trans (B01.out.block k hk)
  have hvb : ∀ k, (Value.slice vp vn vc).ownBlock = some k → k ≠ eb := fun k hk => by have := (hv.lt k hk).1; rw [K3.out] at this; omega
  have hrd : Rd w2 rb ts 0 := Rd.new hv S1.out r2 hrb (fun k hk hk2 => far2 k (by omega) (hvb k hk2)) (by omega) hlev
  have hP : Pre w2 rb w2.heap.size 0 ts := ⟨hrd, by omega, by omega, Nat.le_refl _, by have := S2.out; have := HM.out; omega⟩
  have HS := prog_say _ w2 rb w2.heap.size 0 ts r hP HR.out
  simp only at HS
  have HS := Lib.hid HS
  have FAR2 := Lib.hid far2
  have E2 := Lib.hid e2
  have HW2 := Lib.hid hw2
  have HRB := Lib.hid hrb
  have HS2 := Lib.hid hs2
  have p2 := (FAR2.out pb (by omega) hne).trans b1
  have PP2 := Lib.hid p2
  have RFR2 := Lib.hid (show w2.os = w1.os ∧ w2.tape = w1.tape ∧ w2.output = w1.output by rw [hw2]; exact ⟨rfl, rfl, rfl⟩)
  clear hB hv hpb heb b1 b2 HC hw2 hrb hs1 hs2 far2 e2 r2 hlev hvb hrd hP p2
  go_wp2_with fail
  rw [← HW2.out, ← HRB.out]
  refine HS.out.mono ?_
  have BW2 : Hid (∀ k, k < w.heap.size → w2.heap[k]? = w.heap[k]?) := Lib.hid fun k hk => (FAR2.out k (by have := B01.out.size; have := HRB.out; omega) (by have := HEB.out; omega)).trans (B01.out.block k hk)
  have SZ : Hid (w.heap.size + 2 ≤ rb) := Lib.hid (by have := HEB.out; have := HRB.out; omega)
  rcases r with ⟨c, p⟩ | ⟨t, us⟩
  · rintro e w3 ⟨⟨b, rfl, h1, h2⟩, hF⟩
    have p3 := (hF.block pb (by have := HS2.out; have := HRB.out; omega) (by have := SZ.out; have := HPB.out; omega)).trans PP2.out
    have e3 := (hF.block eb (by have := HS2.out; have := HRB.out; omega) (by have := SZ.out; have := HEB.out; omega)).trans E2.out
    have H1 := Lib.hid h1
    have H2 := Lib.hid h2
    have FF := Lib.hid hF
    rw [HALL.out]
    clear h1 h2 hF HS
    refine leaves_cons (f := 74) (args := #[.pointer (some ⟨pb, 0, none⟩), .pointer (some ⟨eb, 0, none⟩)]) (by simp) (by simp [go_sem]) ?_
    refine (catch_fault pb eb b [] w3 _ _ p3 e3 hne).mono ?_
    rintro e u' w4 ⟨rfl, rfl, hCP⟩
    obtain ⟨q1, q2, q3, q4, q5, q6, q7⟩ := hCP
    show Go.Leaves _ _ _ _ [] .returning _
    refine leaves_two (pb := pb) (eb := eb) rfl rfl (x := .pointer none) (y := .iface 143 (.pointer (some ⟨b, 0, none⟩))) (by simp [World.cell?, q1]) (by simp [World.cell?, q2]) ?_
    have hsz := FF.out.size
    have hb3 : b < w3.heap.size := (Array.getElem?_eq_some_iff.1 H2.out).1
    have hbb := H1.out
    refine ⟨⟨?_, ?_, ?_, ?_, fun k hk => ?_⟩, .iface 143 (.pointer (some ⟨b, 0, none⟩)), rfl, .inr ⟨p, rfl, b, rfl, ?_, ?_⟩⟩
    · exact q3.trans (FF.out.os.trans (RFR2.out.1.trans B01.out.os))
    · exact q4.trans (FF.out.tape.trans (RFR2.out.2.1.trans B01.out.tape))
    · exact q5.trans (FF.out.output.trans (RFR2.out.2.2.trans B01.out.output))
    · have := HS2.out; have := SZ.out; omega
    · have h2 := HS2.out; have h3 := SZ.out; have h4 := HPB.out; have h5 := HEB.out
      exact (q7 k (by omega) (by omega) (by omega)).trans ((FF.out.block k (by omega) (by omega)).trans (BW2.out k hk))
    · have := HS2.out; have := SZ.out; omega
    · have h2 := HS2.out; have h3 := SZ.out; have h4 := HPB.out; have h5 := HEB.out
      exact (q7 b hb3 (by omega) (by omega)).trans H2.out
  · rintro e w3 ⟨a, rfl, hG, hR3, hF⟩
    have h2 := HS2.out; have h3 := SZ.out; have h4 := HPB.out; have h5 := HEB.out; have h6 := HRB.out
    have p3 := (hF.block pb (by omega) (by omega)).trans PP2.out
    have e3 := (hF.block eb (by omega) (by omega)).trans E2.out
    have hsz := hF.size
    obtain ⟨mb, hmb⟩ : ∃ b, b = w3.heap.size := ⟨_, rfl⟩
    obtain ⟨w4, hw4⟩ : ∃ w4, w4 = (w3.setCell ⟨pb, 0, none⟩ (.pointer (some ⟨a.b, 0, none⟩))).alloc (.cells #[.int .i64 0] 3) := ⟨_, rfl⟩
    have hs3 : (w3.setCell ⟨pb, 0, none⟩ (.pointer (some ⟨a.b, 0, none⟩))).heap.size = mb := by rw [hmb]; exact World.size_setCell ..
    have hs4 : w4.heap.size = mb + 1 := by rw [hw4]; simp [hmb]
    have far4 : ∀ k, k < mb → k ≠ pb → w4.heap[k]? = w3.heap[k]? := fun k hk hn => by
      rw [hw4]
      exact (Below.heap_alloc _ _ _ (by rw [hs3]; exact hk)).trans (Below.heap_setCell _ _ _ _ hn)
    have p4 : w4.heap[pb]? = some (.cells #[.pointer (some ⟨a.b, 0, none⟩)] 22 (0, 0)) := by
      rw [hw4]
      exact (Below.heap_alloc _ _ _ (by rw [hs3]; omega)).trans (setCell_block (o := 0) _ p3)
    have m4 : w4.heap[mb]? = some (.cells #[.int .i64 0] 3 (0, 0)) := by
      rw [hw4, ← hs3]; exact heap_alloc_new _ _
    have hT4 : TreeAt w4 w2.heap.size a := hG.at'.keepB fun k hk => far4 k (by have := (hG.new k hk).2; omega) (by have := (hG.new k hk).1; omega)
    have hI : CntInv w4 w2.heap.size mb a 0 w4 := ⟨hT4, m4, rfl, rfl, rfl, Nat.le_refl _, fun _ _ _ => rfl⟩
    have hmn : mb ∉ a.blocks := fun hx => by have := (hG.new mb hx).2; omega
    have HWK := walk_Pz ⟨mb, 0, none⟩ (CntInv w4 w2.heap.size mb a) cntG w2.heap.size a.many a (Nat.le_refl _) (fun s W h => h.1) (fun x hx s W h => cnt_any w4 w2.heap.size mb a x (.inr hmn) (by omega) s W h) 0 w4 hI
    unfold ATree.ptr at HWK
    rw [cnt_many, Nat.zero_add, ← many_tree, hG.tree] at HWK
    have HWK := Lib.hid HWK
    have c3 : w3.cell? ⟨pb, 0, none⟩ = some (.pointer none) := by simp [World.cell?, p3]
    have z3 : w3.frozen? ⟨pb, 0, none⟩ = false := by simp [World.frozen?, p3]
    have hpl3 : pb < w3.heap.size := by omega
    have HG := Lib.hid hG
    have FF := Lib.hid hF
    have HW4 := Lib.hid hw4
    have HMB := Lib.hid hmb
    have HS4 := Lib.hid hs4
    have FAR4 := Lib.hid far4
    have P4 := Lib.hid p4
    have E3 := Lib.hid e3
    have hmany : t.many ≤ 6100 := by
      have := parse_many _ _ _ _ _ _ HR.out
      simp only [Job.base, manyL] at this
      have := S2.out; have := HM.out
      omega
    have RF4 := Lib.hid (show w4.os = w3.os ∧ w4.tape = w3.tape ∧ w4.output = w3.output by rw [hw4]; exact ⟨rfl, rfl, rfl⟩)
    clear hG hR3 hF hw4 hmb hs3 hs4 far4 p4 m4 hT4 hI hmn p3 e3 h2 h3 h4 h5 h6 hsz HS
    go_wp2_with fail
    rw [← HW4.out, ← HMB.out]
    refine HWK.out.mono ?_
    rintro e w5 ⟨rfl, i1, i2, i3, i4, i5, i6, i7⟩
    rw [show IntKind.i64.wrap ((t.many : Nat) : Int) = (t.many : Int) by simp only [IntKind.wrap_i64]; omega] at i2
    have h2 := HS2.out; have h3 := SZ.out; have h4 := HPB.out; have h5 := HEB.out; have h6 := HRB.out; have h7 := HS4.out; have h8 := HMB.out; have h9 := FF.out.size
    have p5 := (i7 pb (by omega) (by omega)).trans P4.out
    have e5 := (i7 eb (by omega) (by omega)).trans ((FAR4.out eb (by omega) (by omega)).trans E3.out)
    have cm : w5.cell? ⟨mb, 0, none⟩ = some (.int .i64 (t.many : Int)) := by simp [World.cell?, i2]
    have cp : w5.cell? ⟨pb, 0, none⟩ = some (.pointer (some ⟨a.b, 0, none⟩)) := by simp [World.cell?, p5]
    have ce : w5.cell? ⟨eb, 0, none⟩ = some .nilIface := by simp [World.cell?, e5]
    have zp : w5.frozen? ⟨pb, 0, none⟩ = false := by simp [World.frozen?, p5]
    have ze : w5.frozen? ⟨eb, 0, none⟩ = false := by simp [World.frozen?, e5]
    have hl5 : pb < w5.heap.size := by omega
    have hl6 : eb < w5.heap.size := by omega
    -- all that was there stands, and the program
    have fin : Hid (∀ (W : World) (x y : Value), W = (w5.setCell ⟨pb, 0, none⟩ x).setCell ⟨eb, 0, none⟩ y → Below w.heap.size w W ∧ Got w w.heap.size W a t) := by
      refine Lib.hid fun W x y hW => ?_
      have hsW : W.heap.size = w5.heap.size := by rw [hW, World.size_setCell, World.size_setCell]
      have farW : ∀ k, k ≠ pb → k ≠ eb → W.heap[k]? = w5.heap[k]? := fun k h1 h2 => by rw [hW]; exact (Below.heap_setCell _ _ _ _ h2).trans (Below.heap_setCell _ _ _ _ h1)
      have farA : ∀ k, k < mb → k ≠ pb → k ≠ eb → W.heap[k]? = w3.heap[k]? := fun k hk h1 h2 => (farW k h1 h2).trans ((i7 k (by omega) (by omega)).trans (FAR4.out k (by omega) h1))
      have o1 : W.os = w5.os ∧ W.tape = w5.tape ∧ W.output = w5.output := by rw [hW]; exact ⟨rfl, rfl, rfl⟩
      refine ⟨⟨?_, ?_, ?_, by omega, fun k hk => ?_⟩, ⟨HG.out.tree, ?_, HG.out.nodup, fun z hz => ?_⟩⟩
      · exact o1.1.trans (i3.trans (RF4.out.1.trans (FF.out.os.trans (RFR2.out.1.trans B01.out.os))))
      · exact o1.2.1.trans (i4.trans (RF4.out.2.1.trans (FF.out.tape.trans (RFR2.out.2.1.trans B01.out.tape))))
      · exact o1.2.2.trans (i5.trans (RF4.out.2.2.trans (FF.out.output.trans (RFR2.out.2.2.trans B01.out.output))))
      · exact (farA k (by omega) (by omega) (by omega)).trans ((FF.out.block k (by omega) (by omega)).trans (BW2.out k hk))
      · refine (HG.out.at'.keepB fun k hk => ?_).base (by omega)
        have := HG.out.new k hk
        exact farA k (by omega) (by omega) (by omega)
      · have := HG.out.new z hz; omega
    have HALL2 : parseAll text = if 1500 < t.many then .error (4, -1) else .ok t := HALL.out
    clear i1 i2 i3 i4 i5 i6 i7 p5 e5 h2 h3 h4 h5 h6 h7 h8 h9 HWK
    by_cases hbig : 1500 < t.many
    · rw [if_pos hbig] at HALL2
      have hb : decide ((t.many : Int) > 1500) = true := by simp; omega
      have HA := Lib.hid HALL2
      clear HALL2 hbig
      go_wp2_with fail
      refine leaves_cons (f := 74) (args := #[.pointer (some ⟨pb, 0, none⟩), .pointer (some ⟨eb, 0, none⟩)]) (by simp) (by simp [go_sem]) ?_
      refine (catch_idle ⟨pb, 0, none⟩ ⟨eb, 0, none⟩ _).mono ?_
      rintro e u' w6 ⟨rfl, rfl, rfl⟩
      show Go.Leaves _ _ _ _ [] .returning _
      refine leaves_two (pb := pb) (eb := eb) rfl rfl (x := .pointer none) (y := .iface 62 (.int .i64 4)) (by go_simp) (by go_simp) ?_
      rw [HA.out]
      have hf := fin.out _ (.pointer none) (.iface 62 (.int .i64 4)) rfl
      exact ⟨hf.1, _, rfl, .inl ⟨rfl, rfl⟩⟩
    · rw [if_neg hbig] at HALL2
      have hb : decide ((t.many : Int) > 1500) = false := by simp; omega
      have HA := Lib.hid HALL2
      clear HALL2 hbig
      go_wp2_with fail
      refine leaves_cons (f := 74) (args := #[.pointer (some ⟨pb, 0, none⟩), .pointer (some ⟨eb, 0, none⟩)]) (by simp) (by simp [go_sem]) ?_
      refine (catch_idle ⟨pb, 0, none⟩ ⟨eb, 0, none⟩ _).mono ?_
      rintro e u' w6 ⟨rfl, rfl, rfl⟩
      show Go.Leaves _ _ _ _ [] .returning _
      refine leaves_two (pb := pb) (eb := eb) rfl rfl (x := .pointer (some ⟨a.b, 0, none⟩)) (y := .nilIface) (by go_simp) (by go_simp) ?_
      rw [HA.out]
      have hf := fin.out _ (.pointer (some ⟨a.b, 0, none⟩)) (.nilIface) rfl
      exact ⟨hf.1, a, rfl, hf.2⟩
theorem parse_any (w : World) (text : ByteArray) (hW : Words w) (hL : Levels w w.heap.size) :
    Calls Tryz.prog 41 #[.string text] w (ParsePost w (parseAll text)) := by
  have k4 := (cells2_at w).2.2.2
  by_cases hm : 3000 < text.size
  · have e : parseAll text = .error (4, -1) := by unfold parseAll; rw [if_pos hm]
    rw [e]
    exact parse_bad w text 4 (-1) ((tokens_big' (cells2 w) text hm).mono fun e w' ⟨h1, h2⟩ => by subst h1; subst h2; exact ⟨⟨_, rfl, .inl ⟨rfl, rfl⟩⟩, Below.refl _ _⟩)
  · cases ht : lexAll text with
    | ok ts => exact parse_good w text (by omega) hW hL ts ht
    | error x =>
      obtain ⟨c, p⟩ := x
      have e : parseAll text = .error (c, (p : Int)) := by unfold parseAll; rw [if_neg hm, ht]
      rw [e]
      have HC := tokens_any (cells2 w) text (by omega) (hW.below k4)
      rw [ht] at HC
      exact parse_bad w text c p (HC.mono fun e w' ⟨⟨x, h1, h2⟩, h3⟩ => ⟨⟨x, h1, .inr ⟨p, rfl, h2⟩⟩, h3⟩)
end Go.Proofs.YtgifgiipojedbaaGreatDoor

namespace Go.Proofs.YtgifgiipojedbaaGreatDoor
open Go Go.RowKit
set_option maxRecDepth 100000
set_option linter.unusedVariables false

theorem parseAll_ok {text : ByteArray} {t : Tree} (h : parseAll text = .ok t) : WT t ∧ t.many ≤ 1500 := by
  unfold parseAll at h
  split at h
  · cases h
  · split at h
    · cases h
    · rename_i ts _
      split at h
      · cases h
      · cases h
      · rename_i t' ts' hp
        split at h
        · cases h
        · have e : t' = t := by simpa using h
          subst e
          refine ⟨parse_shape _ _ _ _ (show Job.good (.stmts 1 []) from ⟨.inl rfl, trivial⟩) _ _ hp, by omega⟩

/-- what read hands back -/
def ReadPost (w : World) (r : Except (Int × Int) Tree) (e : Ending) (w' : World) : Prop :=
  Below w.heap.size w w' ∧ match r with
  | .ok t => ∃ a, e = .returned (.tuple #[.pointer (some ⟨a.b, 0, none⟩), .bool (t.kind == 1)]) ∧ Got w w.heap.size w' a t
  | .error _ => e = .returned (.tuple #[.pointer none, .bool false])
theorem tree_kind {a : ATree} {t : Tree} (h : a.tree = t) : t.kind = a.kind := by subst h; cases a; rfl

set_option maxHeartbeats 8000000 in
theorem lawread_any (w : World) (text : ByteArray) (hW : Words w) (hL : Levels w w.heap.size) :
    Calls Tryz.prog 12 #[.string text] w (ReadPost w (parseAll text)) := by
  have HP := Lib.hid (parse_any w text hW hL)
  obtain ⟨r, hr⟩ : ∃ r, r = parseAll text := ⟨_, rfl⟩
  rw [← hr] at HP ⊢
  clear hr hW hL
  unfold ReadPost
  cases r with
  | error x =>
    obtain ⟨c, p⟩ := x
    go_enter Tryz.func12, Tryz.ntmps12
    go_wp2_with fail
    refine HP.out.mono ?_
    rintro e w1 ⟨hb, x, rfl, hx⟩
    have HB := Lib.hid hb
    have hne : x ≠ .nilIface := by
      rcases hx with ⟨_, rfl⟩ | ⟨q, _, hx⟩
      · simp
      · obtain ⟨_, rfl, _⟩ := hx
        simp
    obtain ⟨T, y, rfl⟩ : ∃ T y, x = .iface T y := by
      rcases hx with ⟨_, rfl⟩ | ⟨q, _, hx⟩
      · exact ⟨_, _, rfl⟩
      · obtain ⟨_, rfl, _⟩ := hx
        exact ⟨_, _, rfl⟩
    clear hb hx hne HP
    go_wp2_with fail
    refine wp_region_plan [(true, 0), (true, 1), (true, 2), (true, 3), (true, 4), (true, 5), (true, 6), (true, 7), (true, 8), (true, 9), (true, 10), (true, 11), (true, 12), (true, 13), (true, 14)] [15] (fun _ => True) (by kernel_rfl) (by kernel_rfl) (fun _ _ d _ _ h => by cases d <;> exact h) trivial (fun hS0 => ?_)
    simp only [planOps, List.filterMap_cons, List.filterMap_nil, List.getElem?_toArray, List.getElem?_cons_zero, List.getElem?_cons_succ, Option.map_some]
    iterate 15
      first
        | (refine wpPlan_take ?_ (by rfl) (fun w' _ => ?_) ?_; rotate_left; (go_simp; first | done | with_reducible rfl); simp only [Act.put, List.setIfInBounds_toArray, List.set_cons_zero, List.set_cons_succ])
        | (refine wpPlan_skip (by rfl) ?_; simp only [Act.put, List.setIfInBounds_toArray, List.set_cons_zero, List.set_cons_succ])
    refine wpPlan_end ?_
    go_wp2
    go_ret2
    exact ⟨HB.out.drew, rfl⟩
  | ok t =>
    go_enter Tryz.func12, Tryz.ntmps12
    go_wp2_with fail
    refine HP.out.mono ?_
    rintro e w1 ⟨hb, a, rfl, hg⟩
    have c0 := hg.at'.c0
    have hk := tree_kind hg.tree
    obtain ⟨kd, hkd⟩ : ∃ kd, kd = a.kind := ⟨_, rfl⟩
    rw [← hkd] at hk c0
    have HK := Lib.hid hk
    have HB := Lib.hid hb
    have HG := Lib.hid hg
    clear hb hg HP hk hkd
    go_wp2_with fail
    refine wp_region_plan [(true, 0), (true, 1), (true, 2), (true, 3), (true, 4), (true, 5), (true, 6), (true, 7), (true, 8), (true, 9), (true, 10), (true, 11), (true, 12), (true, 13), (true, 14)] [15] (fun W => W.cell? ⟨a.b, 0, none⟩ = some (.int .i64 kd)) (by kernel_rfl) (by kernel_rfl) (fun _ _ d _ _ h => by cases d <;> exact h) c0 (fun hS0 => ?_)
    simp only [planOps, List.filterMap_cons, List.filterMap_nil, List.getElem?_toArray, List.getElem?_cons_zero, List.getElem?_cons_succ, Option.map_some]
    iterate 15
      first
        | (refine wpPlan_take ?_ (by rfl) (fun w' hS' => ?_) ?_; rotate_left; (have s0 := hS'; go_simp; first | done | with_reducible rfl); simp only [Act.put, List.setIfInBounds_toArray, List.set_cons_zero, List.set_cons_succ])
        | (refine wpPlan_skip (by rfl) ?_; simp only [Act.put, List.setIfInBounds_toArray, List.set_cons_zero, List.set_cons_succ])
    refine wpPlan_end ?_
    go_wp2
    go_ret2
    exact ⟨HB.out.drew, a, by rw [HK.out]; rfl, HG.out.tree, HG.out.at'.keep fun k _ _ => rfl, HG.out.nodup, HG.out.new⟩
end Go.Proofs.YtgifgiipojedbaaGreatDoor

namespace Go.Proofs.YtgifgiipojedbaaGreatDoor
open Go.RowKit Go.Extern.Stop Go.Stop Go.Extern
set_option maxRecDepth 100000

/-- errors.As(nil, target). -/
theorem as_nil (t : Value) (w : World) :
    Calls Tryz.prog 77 #[.nilIface, t] w fun e w' => e = .returned (.bool false) ∧ w' = w := by
  go_enter Tryz.func77, Tryz.ntmps77
  go_wp2
  go_ret
  exact ⟨rfl, rfl⟩

theorem Tryz.valueOf27 (t : Addr) (w : World) : (ReflectliteValue.unpack (.iface 112 (.pointer (some t)))).run Tryz.prog w
    = .ok (.agg #[.pointer (some ⟨13, 112, none⟩), .pointer (some ⟨w.heap.size, 0, none⟩), .int .u64 150]) (w.alloc (.cells #[.pointer (some t)] 112)) := by kernel_rfl
theorem Tryz.type27 (a : Addr) (w : World) : (ReflectliteValue.methodAny (ReflectliteValue.valueError "reflectlite.Value.Type" 0) (fun t _ _ _ => ReflectliteType.toType t) #[.agg #[.pointer (some ⟨13, 112, none⟩), .pointer (some a), .int .u64 150]]).run Tryz.prog w
    = .ok (.iface 184 (.agg #[.pointer (some ⟨13, 112, none⟩)])) w := by kernel_rfl
theorem Tryz.methodKind (h : Value) (w : World) : (Go.method 439 184 (.agg #[h]) "Kind").run Tryz.prog w = .ok (253, h) w := by kernel_rfl
theorem Tryz.kind27 (w : World) : ((ReflectliteType.abiMethod fun t => (fun a : Nat => Value.int IntKind.u8 (a : Int)) <$> Rtype.kind t) #[.pointer (some ⟨13, 112, none⟩)]).run Tryz.prog w = .ok (.int .u8 22) w := by kernel_rfl
theorem Tryz.kind25 (w : World) : ((ReflectliteType.abiMethod fun t => (fun a : Nat => Value.int IntKind.u8 (a : Int)) <$> Rtype.kind t) #[.pointer (some ⟨13, 62, none⟩)]).run Tryz.prog w = .ok (.int .u8 2) w := by kernel_rfl

/-! ### THE ENTRIES THAT READ OR WRITE MEMORY: laws with a premise on the cell (after Derived/Lib/ReflectliteSlice.lean's manner: each unfolding a lemma of its own, by rfl) -/
theorem rlm (z : Sem Value) (f : TypeId → Addr → Nat → Nat → Sem Value) (v : Value) :
    ReflectliteValue.method z f #[v] = (do match ← ReflectliteValue.parts v with | none => z | some (t, a, fl) => f t a fl (fl % 32)) := rfl
theorem Tryz.parts27 (a : Addr) (w : World) : (ReflectliteValue.parts (.agg #[.pointer (some ⟨13, 112, none⟩), .pointer (some a), .int .u64 150])).run Tryz.prog w = .ok (some (112, a, 150)) w := by kernel_rfl
/-- (Value).IsNil at the Value of a **p.E that is not nil. -/
theorem Tryz.isNil27 (a p : Addr) (W : World) (ha : W.cell? a = some (.pointer (some p))) :
    (ReflectliteValue.method (ReflectliteValue.valueError "reflectlite.Value.IsNil" 0) ReflectliteValue.isNil #[.agg #[.pointer (some ⟨13, 112, none⟩), .pointer (some a), .int .u64 150]]).run Tryz.prog W = .ok (.bool false) W := by
  rw [rlm]
  simp only [Sem.run_bind, Tryz.parts27, Result.andThen]
  simp [ReflectliteValue.isNil, loadVar, isAgg, underlying, Tryz.underlying112, ha, Result.andThen]

theorem Tryz.methodElem (h : Value) (w : World) : (Go.method 439 184 (.agg #[h]) "Elem").run Tryz.prog w = .ok (266, .agg #[h]) w := by kernel_rfl
theorem Tryz.methodImplements (h : Value) (w : World) : (Go.method 439 184 (.agg #[h]) "Implements").run Tryz.prog w = .ok (267, .agg #[h]) w := by kernel_rfl
theorem Tryz.methodAssignableTo (h : Value) (w : World) : (Go.method 439 184 (.agg #[h]) "AssignableTo").run Tryz.prog w = .ok (264, .agg #[h]) w := by kernel_rfl
theorem Tryz.elem27 (w : World) : (ReflectliteType.method ReflectliteType.elem #[.agg #[.pointer (some ⟨13, 112, none⟩)]]).run Tryz.prog w = .ok (.iface 184 (.agg #[.pointer (some ⟨13, 62, none⟩)])) w := by kernel_rfl
theorem Tryz.implements25 (w : World) : (ReflectliteType.relation "Implements" ReflectliteType.implements_ #[.agg #[.pointer (some ⟨13, 62, none⟩)], .iface 184 (.agg #[.pointer (some ⟨13, 27, none⟩)])]).run Tryz.prog w = .ok (.bool true) w := by kernel_rfl
theorem Tryz.typeOf25 (v : Value) (w : World) : (ReflectliteType.typeOf #[.iface 62 v]).run Tryz.prog w = .ok (.iface 184 (.agg #[.pointer (some ⟨13, 62, none⟩)])) w := by kernel_rfl
theorem Tryz.assignable25 (w : World) : (ReflectliteType.relation "AssignableTo" ReflectliteType.assignableTo #[.agg #[.pointer (some ⟨13, 62, none⟩)], .iface 184 (.agg #[.pointer (some ⟨13, 62, none⟩)])]).run Tryz.prog w = .ok (.bool true) w := by kernel_rfl
theorem Tryz.valueOf25 (e : Int) (w : World) : (ReflectliteValue.unpack (.iface 62 (.int .i64 e))).run Tryz.prog w
    = .ok (.agg #[.pointer (some ⟨13, 62, none⟩), .pointer (some ⟨w.heap.size, 0, none⟩), .int .u64 130]) (w.alloc (.cells #[.int .i64 e] 62)) := by kernel_rfl

theorem Tryz.elemOf27 (w : World) : (Rtype.elem? 112).run Tryz.prog w = .ok (some 62) w := by kernel_rfl
theorem Tryz.mk25 (p : Addr) (w : World) : (ReflectliteValue.mk 62 p ReflectliteValue.flagAddr).run Tryz.prog w = .ok (.agg #[.pointer (some ⟨13, 62, none⟩), .pointer (some p), .int .u64 386]) w := by kernel_rfl
/-- (Value).Elem at the Value of a **p.E that is not nil: the Value of the *p.E variable that it points to, addressable. -/
theorem Tryz.elemV27 (a p : Addr) (W : World) (ha : W.cell? a = some (.pointer (some p))) :
    (ReflectliteValue.method (ReflectliteValue.valueError "reflectlite.Value.Elem" 0) ReflectliteValue.elem #[.agg #[.pointer (some ⟨13, 112, none⟩), .pointer (some a), .int .u64 150]]).run Tryz.prog W
      = .ok (.agg #[.pointer (some ⟨13, 62, none⟩), .pointer (some p), .int .u64 386]) W := by
  rw [rlm]
  simp only [Sem.run_bind, Tryz.parts27, Result.andThen]
  simp [ReflectliteValue.elem, loadVar, isAgg, underlying, Tryz.underlying112, ha, Result.andThen, Tryz.elemOf27, Tryz.mk25]
theorem rls (v x : Value) : ReflectliteValue.set #[v, x] = (do
    let (some (dst, a, fl), some (src, b, _)) := (← ReflectliteValue.parts v, ← ReflectliteValue.parts x)
      | unsupported (.noEntry "extern/(internal/reflectlite.Value).Set.zeroValue")
    if fl / ReflectliteValue.flagAddr % 2 == 0 then unsupported (.noEntry "extern/(internal/reflectlite.Value).Set.unaddressable")
    let val ← loadVar src b
    if ← Rtype.directlyAssignable dst src then storeVar dst a val
    else if ← Rtype.implements dst src then
      if (← Rtype.kind src) == 20 then
        match val with
        | .nilIface => unsupported (.noEntry "extern/reflectlite: a nil value of one interface type handed on as a value of another")
        | _ => storeVar dst a val
      else storeVar dst a (.iface src val)
    else panicString ("reflectlite.Set: value of type " ++ (← Rtype.spelt src) ++ " is not assignable to type " ++ (← Rtype.spelt dst))
    pure (.tuple #[])) := rfl
theorem Tryz.parts25a (a : Addr) (w : World) : (ReflectliteValue.parts (.agg #[.pointer (some ⟨13, 62, none⟩), .pointer (some a), .int .u64 386])).run Tryz.prog w = .ok (some (62, a, 386)) w := by kernel_rfl
theorem Tryz.parts25 (a : Addr) (w : World) : (ReflectliteValue.parts (.agg #[.pointer (some ⟨13, 62, none⟩), .pointer (some a), .int .u64 130])).run Tryz.prog w = .ok (some (62, a, 130)) w := by kernel_rfl
theorem Tryz.direct25 (w : World) : (Rtype.directlyAssignable 62 62).run Tryz.prog w = .ok true w := by kernel_rfl
theorem Tryz.size25 (w : World) : (sizeOf 62).run Tryz.prog w = .ok 1 w := by kernel_rfl
/-- (Value).Set: the *p.E variable at 'ta' gets what the Value's own variable 'b' holds. -/
theorem Tryz.set25 (ta b : Addr) (e : Int) (old : Value) (W : World) (hb : W.cell? b = some (.int .i64 e)) (ht : W.cell? ta = some old) (hf : W.frozen? ta = false) :
    (ReflectliteValue.set #[.agg #[.pointer (some ⟨13, 62, none⟩), .pointer (some ta), .int .u64 386], .agg #[.pointer (some ⟨13, 62, none⟩), .pointer (some b), .int .u64 130]]).run Tryz.prog W
      = .ok (.tuple #[]) (W.setCell ta (.int .i64 e)) := by
  rw [rls]
  simp only [Sem.run_bind, Tryz.parts25a, Tryz.parts25, Result.andThen]
  simp [ReflectliteValue.flagAddr, loadVar, isAgg, underlying, Tryz.underlying62, hb, Result.andThen, Tryz.direct25, storeVar, Value.cells, storeCells, Addr.add]
  rw [run_store Tryz.prog W ta _ _ (by rfl)]
  simp [ht, hf]

set_option maxHeartbeats 4000000 in
theorem as_hit (e : Int) (t : Addr) (old : Value) (w : World) (hg : w.cell? ⟨2, 0, none⟩ = some (.iface 184 (.agg #[.pointer (some ⟨13, 27, none⟩)]))) (ht0 : w.cell? t = some old) (hf0 : w.frozen? t = false) :
    Calls Tryz.prog 77 #[.iface 62 (.int .i64 e), .iface 112 (.pointer (some t))] w fun ev w' => ev = .returned (.bool true) ∧ w' = ((((w.alloc (.cells #[.pointer (some t)] 112)).alloc (.cells #[.pointer (some ⟨13, 112, none⟩), .pointer (some ⟨w.heap.size, 0, none⟩), .int .u64 150] 154)).alloc (.cells #[.pointer (some ⟨13, 112, none⟩), .pointer (some ⟨w.heap.size, 0, none⟩), .int .u64 150] 154)).alloc (.cells #[.int .i64 e] 62)).setCell t (.int .i64 e) := by
  have h6 := @run_callFunc_extern Tryz.prog 115 _ (fun args => ReflectliteValue.unpack (args.getD 0 (.tuple #[]))) Tryz.func115 (by kernel_rfl) (by kernel_rfl) (by kernel_rfl) (by kernel_rfl)
  have h7 := @run_callFunc_extern Tryz.prog 116 _ (ReflectliteValue.methodAny (ReflectliteValue.valueError "reflectlite.Value.Type" 0) (fun t _ _ _ => ReflectliteType.toType t)) Tryz.func116 (by kernel_rfl) (by kernel_rfl) (by kernel_rfl) (by kernel_rfl)
  have h8 := @run_callFunc_extern Tryz.prog 117 _ (ReflectliteValue.method (ReflectliteValue.valueError "reflectlite.Value.IsNil" 0) ReflectliteValue.isNil) Tryz.func117 (by kernel_rfl) (by kernel_rfl) (by kernel_rfl) (by kernel_rfl)
  have h27 := @run_callFunc_extern Tryz.prog 253 _ (ReflectliteType.abiMethod fun t => do pure (.int .u8 (← Rtype.kind t))) Tryz.func253 (by kernel_rfl) (by kernel_rfl) (by kernel_rfl) (by kernel_rfl)
  have h37 := @run_callFunc_extern Tryz.prog 266 _ (ReflectliteType.method ReflectliteType.elem) Tryz.func266 (by kernel_rfl) (by kernel_rfl) (by kernel_rfl) (by kernel_rfl)
  have h38 := @run_callFunc_extern Tryz.prog 267 _ (ReflectliteType.relation "Implements" ReflectliteType.implements_) Tryz.func267 (by kernel_rfl) (by kernel_rfl) (by kernel_rfl) (by kernel_rfl)
  have h10 := @run_callFunc_extern Tryz.prog 161 _ ReflectliteType.typeOf Tryz.func161 (by kernel_rfl) (by kernel_rfl) (by kernel_rfl) (by kernel_rfl)
  have h35 := @run_callFunc_extern Tryz.prog 264 _ (ReflectliteType.relation "AssignableTo" ReflectliteType.assignableTo) Tryz.func264 (by kernel_rfl) (by kernel_rfl) (by kernel_rfl) (by kernel_rfl)
  have h11 := @run_callFunc_extern Tryz.prog 162 _ (ReflectliteValue.method (ReflectliteValue.valueError "reflectlite.Value.Elem" 0) ReflectliteValue.elem) Tryz.func162 (by kernel_rfl) (by kernel_rfl) (by kernel_rfl) (by kernel_rfl)
  have h12 := @run_callFunc_extern Tryz.prog 163 _ ReflectliteValue.set Tryz.func163 (by kernel_rfl) (by kernel_rfl) (by kernel_rfl) (by kernel_rfl)
  have tO := Tryz.typeOf25
  have mA := Tryz.methodAssignableTo
  have a25 := Tryz.assignable25
  have v25 := Tryz.valueOf25
  have f6 := Tryz.valueOf27
  have f7 := Tryz.type27
  have mK := Tryz.methodKind
  have mE := Tryz.methodElem
  have mI := Tryz.methodImplements
  have k27 := Tryz.kind27
  have k25 := Tryz.kind25
  have e27 := Tryz.elem27
  have i25 := Tryz.implements25
  have n8 := Tryz.isNil27 ⟨w.heap.size, 0, none⟩ t ((w.alloc (.cells #[.pointer (some t)] 112)).alloc (.cells #[.pointer (some ⟨13, 112, none⟩), .pointer (some ⟨w.heap.size, 0, none⟩), .int .u64 150] 154)) (by simp)
  have hlt : 2 < w.heap.size := by
    rcases Nat.lt_or_ge 2 w.heap.size with h | h
    · exact h
    · simp [World.cell?, Array.getElem?_eq_none h] at hg
  have hg2 : ((w.alloc (.cells #[.pointer (some t)] 112)).alloc (.cells #[.pointer (some ⟨13, 112, none⟩), .pointer (some ⟨w.heap.size, 0, none⟩), .int .u64 150] 154)).cell? ⟨2, 0, none⟩ = some (.iface 184 (.agg #[.pointer (some ⟨13, 27, none⟩)])) := by
    rw [World.cell?_alloc_lt _ _ ⟨2, 0, none⟩ (by simp; omega), World.cell?_alloc_lt _ _ ⟨2, 0, none⟩ hlt]; exact hg
  have htl : t.block < w.heap.size := by
    rcases Nat.lt_or_ge t.block w.heap.size with h | h
    · exact h
    · simp [World.cell?, Array.getElem?_eq_none h] at ht0
  have el := Tryz.elemV27 ⟨w.heap.size, 0, none⟩ t (((w.alloc (.cells #[.pointer (some t)] 112)).alloc (.cells #[.pointer (some ⟨13, 112, none⟩), .pointer (some ⟨w.heap.size, 0, none⟩), .int .u64 150] 154)).alloc (.cells #[.pointer (some ⟨13, 112, none⟩), .pointer (some ⟨w.heap.size, 0, none⟩), .int .u64 150] 154)) (by rw [World.cell?_alloc_lt _ _ ⟨w.heap.size, 0, none⟩ (by simp; omega)]; simp)
  have st := Tryz.set25 t ⟨w.heap.size + 1 + 1 + 1, 0, none⟩ e old ((((w.alloc (.cells #[.pointer (some t)] 112)).alloc (.cells #[.pointer (some ⟨13, 112, none⟩), .pointer (some ⟨w.heap.size, 0, none⟩), .int .u64 150] 154)).alloc (.cells #[.pointer (some ⟨13, 112, none⟩), .pointer (some ⟨w.heap.size, 0, none⟩), .int .u64 150] 154)).alloc (.cells #[.int .i64 e] 62))
    (by rw [World.cell?_alloc_at _ _ _ _ (by simp)]; rfl)
    (by rw [World.cell?_alloc_lt _ _ t (by simp; omega), World.cell?_alloc_lt _ _ t (by simp; omega), World.cell?_alloc_lt _ _ t (by simp; omega), World.cell?_alloc_lt _ _ t htl]; exact ht0)
    (by rw [World.frozen?_alloc_old _ _ t (by simp; omega), World.frozen?_alloc_old _ _ t (by simp; omega), World.frozen?_alloc_old _ _ t (by simp; omega), World.frozen?_alloc_old _ _ t (Nat.ne_of_lt htl)]; exact hf0)
  go_enter Tryz.func77, Tryz.ntmps77
  go_wp2
  refine wp_loop_rounds 1 ?_
  rw [rounds_succ]
  go_wp2
  go_ret
  exact ⟨rfl, rfl⟩
end Go.Proofs.YtgifgiipojedbaaGreatDoor

namespace Go.Proofs.YtgifgiipojedbaaGreatDoor
open Go Go.RowKit
set_option maxRecDepth 100000

/-- what is told of errors.errorType -/
def ErrType (w : World) : Prop := w.cell? ⟨2, 0, none⟩ = some (.iface 184 (.agg #[.pointer (some ⟨13, 27, none⟩)]))
theorem ErrType.lt {w : World} (h : ErrType w) : 2 < w.heap.size := by
  rcases Nat.lt_or_ge 2 w.heap.size with h' | h'
  · exact h'
  · simp [ErrType, World.cell?, Array.getElem?_eq_none h'] at h
theorem ErrType.below {w w' : World} (h : ErrType w) (hB : Below w.heap.size w w') : ErrType w' := (hB.cell (p := ⟨2, 0, none⟩) h.lt).trans h

set_option maxHeartbeats 800000 in
theorem tell_any (w : World) (c : Int) (hg : ErrType w) :
    Calls Tryz.prog 42 #[errV c] w fun e w' => e = .returned (.int .i64 c) ∧ Below w.heap.size w w' := by
  by_cases hc : c = 0
  · subst hc
    simp only [errV, if_true]
    go_enter Tryz.func42, Tryz.ntmps42
    go_wp2
    go_ret
    exact ⟨rfl, Below.refl _ _⟩
  · simp only [errV, if_neg hc]
    have hlt := hg.lt
    have hit := Lib.hid (as_hit c ⟨w.heap.size, 0, none⟩ (.int .i64 0) (w.alloc (.cells #[.int .i64 0] 62)) ((cell_old (p := ⟨2, 0, none⟩) hlt).trans hg) (World.cell?_alloc_new _ _ _ 0) (World.frozen?_alloc_new _ _ _ _))
    clear hg
    go_enter Tryz.func42, Tryz.ntmps42
    go_wp2_with fail
    refine hit.out.mono ?_
    rintro e w1 ⟨rfl, hw1⟩
    have hB : Below w.heap.size w w1 := by
      rw [hw1]
      refine Below.setCell ?_ (by simp) _
      repeat (refine Below.alloc ?_ (by simp; try omega) _)
      exact Below.refl _ _
    have hx : w1.cell? ⟨w.heap.size, 0, none⟩ = some (.int .i64 c) := by
      rw [hw1]
      rw [World.cell?_setCell_same']
      rw [cell_old (by simp; omega), cell_old (by simp; omega), cell_old (by simp; omega), cell_old (by simp)]
      rw [World.cell?_alloc_new]
      rfl
    have HB := Lib.hid hB
    clear hB hw1 hit
    go_wp2
    go_ret
    exact ⟨rfl, HB.out⟩
end Go.Proofs.YtgifgiipojedbaaGreatDoor
