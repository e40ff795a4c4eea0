/- Package tree: Parse, whole. The laws' reading of a program. The law WherePlain: its fact. Package tree: Walk with sloppykeep.WherePlain$1. -/
import Derived.Test.YtgifgiipojedbaaDoorJ27
import Derived.Test.YtgifgiipojedbaaDoorJ16
import Derived.Test.YtgifgiipojedbaaDoorJ10
import Derived.Test.YtgifgiipojedbaaDoorJ17
import Derived.Test.YtgifgiipojedbaaDoorJ08
namespace Go.Proofs.YtgifgiipojedbaaDoor
open Go Go.RowKit
set_option maxRecDepth 100000
set_option linter.unusedVariables false

/-- what comes of what was read -/
def finP : Except (Int × Nat) (Tree × List Tok) → Except (Int × Int) Tree
  | .error (e, p) => .error (e, p)
  | .ok (t, _) => if 1500 < t.many then .error (4, -1) else .ok t
set_option maxHeartbeats 16000000 in
theorem parse_good (w : World) (text : ByteArray) (hm : text.size ≤ 3000) (hW : Words w) (hL : Levels w w.heap.size) (ts : List Tok) (ht : lexAll text = .ok ts) :
    Calls Tryd.prog 62 #[.string text] w (ParsePost w (parseAll text)) := by
  obtain ⟨k1, k2, k3, k4⟩ := cells2_at w
  obtain ⟨w0, hw0⟩ : ∃ w0, w0 = cells2 w := ⟨_, rfl⟩
  rw [← hw0] at k1 k2 k3 k4
  have HC := tokens_any w0 text hm (hW.below k4)
  rw [ht] at HC
  have HC := Lib.hid HC
  have HL := Lib.hid hL
  obtain ⟨s1, s2, s3⟩ := stand_shape ts 0 (Nat.zero_le _) (lexAll_ok ht)
  have S1 := Lib.hid s1
  have S2 := Lib.hid s2
  have HM := Lib.hid hm
  have HT := Lib.hid ht
  have hmf : ∀ (fn : Fn) (first cap : Array Value) (w : World), (Instr.makeFunc fn first cap).run Tryd.prog w = .ok (.func fn first cap) w := fun _ _ _ _ => rfl
  obtain ⟨r, hr⟩ : ∃ r, parseF (40 * ts.length + 31) (.stmts 1 []) 0 ts = some r := by
    have := parse_some (40 * ts.length + 31) (.stmts 1 []) 0 ts (by simp only [Job.rank]; omega)
    cases h : parseF (40 * ts.length + 31) (.stmts 1 []) 0 ts with
    | none => exact absurd h this
    | some r => exact ⟨r, rfl⟩
  have hall : parseAll text = finP r := by
    unfold parseAll
    rw [if_neg (by omega), ht]
    simp only [hr]
    rcases r with ⟨e, p⟩ | ⟨t, us⟩ <;> rfl
  have HR := Lib.hid hr
  have HALL := Lib.hid hall
  have K1 := Lib.hid k1
  have K2 := Lib.hid k2
  have K3 := Lib.hid k3
  have K4 := Lib.hid k4
  unfold cells2 at hw0
  have HW0 := Lib.hid hw0
  clear hw0 k1 k2 k3 k4 s1 s2 s3 ht hr hall hm hL hW
  go_enter_defers Tryd.func62, Tryd.ntmps62
  go_wp2_with fail
  rw [← HW0.out]
  refine HC.out.mono ?_
  rintro e w1 ⟨⟨v, rfl, hv⟩, hB⟩
  obtain ⟨vp, vn, vc, hvv⟩ : ∃ p n c, v = .slice p n c := by
    rcases ownsRow_cases hv with ⟨h1, _⟩ | ⟨g, cap, h1, _⟩
    · exact ⟨_, _, _, h1⟩
    · exact ⟨_, _, _, h1⟩
  subst hvv
  have b1 := (hB.block w.heap.size (by rw [K3.out]; omega)).trans K1.out
  have b2 := (hB.block (w.heap.size + 1) (by rw [K3.out]; omega)).trans K2.out
  obtain ⟨pb, hpb⟩ : ∃ b, b = w.heap.size := ⟨_, rfl⟩
  obtain ⟨eb, heb⟩ : ∃ b, b = w.heap.size + 1 := ⟨_, rfl⟩
  rw [← heb] at b2
  rw [← hpb] at b1
  rw [← heb, ← hpb]
  have hne : pb ≠ eb := by omega
  have c1 : w1.cell? ⟨pb, 0, none⟩ = some (.pointer none) := by simp [World.cell?, b1]
  have c2 : w1.cell? ⟨eb, 0, none⟩ = some .nilIface := by simp [World.cell?, b2]
  have z1 : w1.frozen? ⟨pb, 0, none⟩ = false := by simp [World.frozen?, b1]
  have z2 : w1.frozen? ⟨eb, 0, none⟩ = false := by simp [World.frozen?, b2]
  have hl1 : pb < w1.heap.size := (Array.getElem?_eq_some_iff.1 b1).1
  have hl2 : eb < w1.heap.size := (Array.getElem?_eq_some_iff.1 b2).1
  have B01 := Lib.hid (K4.out.trans (hB.mono K4.out.size))
  have HV := Lib.hid hv
  have HPB := Lib.hid hpb
  have HEB := Lib.hid heb
  have BB1 := Lib.hid b1
  have BB2 := Lib.hid b2
  obtain ⟨w2, hw2⟩ : ∃ w2, w2 = (w1.setCell ⟨eb, 0, none⟩ .nilIface).alloc (.cells #[.slice vp vn vc, .int .i64 0] 169) := ⟨_, rfl⟩
  obtain ⟨rb, hrb⟩ : ∃ b, b = w1.heap.size := ⟨_, rfl⟩
  have hs1 : (w1.setCell ⟨eb, 0, none⟩ .nilIface).heap.size = rb := by rw [hrb]; exact World.size_setCell ..
  have hs2 : w2.heap.size = rb + 1 := by rw [hw2]; simp [hrb]
  have far2 : ∀ k, k < rb → k ≠ eb → w2.heap[k]? = w1.heap[k]? := fun k hk hn => by
    rw [hw2]
    exact (Below.heap_alloc _ _ _ (by rw [hs1]; exact hk)).trans (Below.heap_setCell _ _ _ _ hn)
  have e2 : w2.heap[eb]? = some (.cells #[.nilIface] 45 (0, 0)) := by
    rw [hw2]
    exact (Below.heap_alloc _ _ _ (by rw [hs1]; omega)).trans (setCell_block (o := 0) .nilIface b2)
  have r2 : w2.heap[rb]? = some (.cells #[.slice vp vn vc, .int .i64 0] 169 (0, 0)) := by
    rw [hw2, ← hs1]; exact heap_alloc_new _ _
  have hlev : Levels w2 rb := by
    refine (HL.out.keep (w' := w2) fun k hk => ?_).mono (by have := B01.out.size; omega)
    exact (far2 k (by have := B01.out.size; omega) (by omega)).trans (B01.out.block k hk)
  have hvb : ∀ k, (Value.slice vp vn vc).ownBlock = some k → k ≠ eb := fun k hk => by have := (hv.lt k hk).1; rw [K3.out] at this; omega
  have hrd : Rd w2 rb ts 0 := Rd.new hv S1.out r2 hrb (fun k hk hk2 => far2 k (by omega) (hvb k hk2)) (by omega) hlev
  have hP : Pre w2 rb w2.heap.size 0 ts := ⟨hrd, by omega, by omega, Nat.le_refl _, by have := S2.out; have := HM.out; omega⟩
  have HS := prog_say _ w2 rb w2.heap.size 0 ts r hP HR.out
  simp only at HS
  have HS := Lib.hid HS
  have FAR2 := Lib.hid far2
  have E2 := Lib.hid e2
  have HW2 := Lib.hid hw2
  have HRB := Lib.hid hrb
  have HS2 := Lib.hid hs2
  have p2 := (FAR2.out pb (by omega) hne).trans b1
  have PP2 := Lib.hid p2
  have RFR2 := Lib.hid (show w2.os = w1.os ∧ w2.tape = w1.tape ∧ w2.output = w1.output by rw [hw2]; exact ⟨rfl, rfl, rfl⟩)
  clear hB hv hpb heb b1 b2 HC hw2 hrb hs1 hs2 far2 e2 r2 hlev hvb hrd hP p2
  go_wp2_with fail
  rw [← HW2.out, ← HRB.out]
  refine HS.out.mono ?_
  have BW2 : Hid (∀ k, k < w.heap.size → w2.heap[k]? = w.heap[k]?) := Lib.hid fun k hk => (FAR2.out k (by have := B01.out.size; have := HRB.out; omega) (by have := HEB.out; omega)).trans (B01.out.block k hk)
  have SZ : Hid (w.heap.size + 2 ≤ rb) := Lib.hid (by have := HEB.out; have := HRB.out; omega)
  rcases r with ⟨c, p⟩ | ⟨t, us⟩
  · rintro e w3 ⟨⟨b, rfl, h1, h2⟩, hF⟩
    have p3 := (hF.block pb (by have := HS2.out; have := HRB.out; omega) (by have := SZ.out; have := HPB.out; omega)).trans PP2.out
    have e3 := (hF.block eb (by have := HS2.out; have := HRB.out; omega) (by have := SZ.out; have := HEB.out; omega)).trans E2.out
    have H1 := Lib.hid h1
    have H2 := Lib.hid h2
    have FF := Lib.hid hF
    rw [HALL.out]
    clear h1 h2 hF HS
    refine leaves_cons (f := 88) (args := #[.pointer (some ⟨pb, 0, none⟩), .pointer (some ⟨eb, 0, none⟩)]) (by simp) (by simp [go_sem]) ?_
    refine (catch_fault pb eb b [] w3 _ _ p3 e3 hne).mono ?_
    rintro e u' w4 ⟨rfl, rfl, hCP⟩
    obtain ⟨q1, q2, q3, q4, q5, q6, q7⟩ := hCP
    show Go.Leaves _ _ _ _ [] .returning _
    refine leaves_two (pb := pb) (eb := eb) rfl rfl (x := .pointer none) (y := .iface 153 (.pointer (some ⟨b, 0, none⟩))) (by simp [World.cell?, q1]) (by simp [World.cell?, q2]) ?_
    have hsz := FF.out.size
    have hb3 : b < w3.heap.size := (Array.getElem?_eq_some_iff.1 H2.out).1
    have hbb := H1.out
    refine ⟨⟨?_, ?_, ?_, ?_, fun k hk => ?_⟩, .iface 153 (.pointer (some ⟨b, 0, none⟩)), rfl, .inr ⟨p, rfl, b, rfl, ?_, ?_⟩⟩
    · exact q3.trans (FF.out.os.trans (RFR2.out.1.trans B01.out.os))
    · exact q4.trans (FF.out.tape.trans (RFR2.out.2.1.trans B01.out.tape))
    · exact q5.trans (FF.out.output.trans (RFR2.out.2.2.trans B01.out.output))
    · have := HS2.out; have := SZ.out; omega
    · have h2 := HS2.out; have h3 := SZ.out; have h4 := HPB.out; have h5 := HEB.out
      exact (q7 k (by omega) (by omega) (by omega)).trans ((FF.out.block k (by omega) (by omega)).trans (BW2.out k hk))
    · have := HS2.out; have := SZ.out; omega
    · have h2 := HS2.out; have h3 := SZ.out; have h4 := HPB.out; have h5 := HEB.out
      exact (q7 b hb3 (by omega) (by omega)).trans H2.out
  · rintro e w3 ⟨a, rfl, hG, hR3, hF⟩
    have h2 := HS2.out; have h3 := SZ.out; have h4 := HPB.out; have h5 := HEB.out; have h6 := HRB.out
    have p3 := (hF.block pb (by omega) (by omega)).trans PP2.out
    have e3 := (hF.block eb (by omega) (by omega)).trans E2.out
    have hsz := hF.size
    obtain ⟨mb, hmb⟩ : ∃ b, b = w3.heap.size := ⟨_, rfl⟩
    obtain ⟨w4, hw4⟩ : ∃ w4, w4 = (w3.setCell ⟨pb, 0, none⟩ (.pointer (some ⟨a.b, 0, none⟩))).alloc (.cells #[.int .i64 0] 3) := ⟨_, rfl⟩
    have hs3 : (w3.setCell ⟨pb, 0, none⟩ (.pointer (some ⟨a.b, 0, none⟩))).heap.size = mb := by rw [hmb]; exact World.size_setCell ..
    have hs4 : w4.heap.size = mb + 1 := by rw [hw4]; simp [hmb]
    have far4 : ∀ k, k < mb → k ≠ pb → w4.heap[k]? = w3.heap[k]? := fun k hk hn => by
      rw [hw4]
      exact (Below.heap_alloc _ _ _ (by rw [hs3]; exact hk)).trans (Below.heap_setCell _ _ _ _ hn)
    have p4 : w4.heap[pb]? = some (.cells #[.pointer (some ⟨a.b, 0, none⟩)] 70 (0, 0)) := by
      rw [hw4]
      exact (Below.heap_alloc _ _ _ (by rw [hs3]; omega)).trans (setCell_block (o := 0) _ p3)
    have m4 : w4.heap[mb]? = some (.cells #[.int .i64 0] 3 (0, 0)) := by
      rw [hw4, ← hs3]; exact heap_alloc_new _ _
    have hT4 : TreeAt w4 w2.heap.size a := hG.at'.keepB fun k hk => far4 k (by have := (hG.new k hk).2; omega) (by have := (hG.new k hk).1; omega)
    have hI : CntInv w4 w2.heap.size mb a 0 w4 := ⟨hT4, m4, rfl, rfl, rfl, Nat.le_refl _, fun _ _ _ => rfl⟩
    have hmn : mb ∉ a.blocks := fun hx => by have := (hG.new mb hx).2; omega
    have HWK := walk_Pz ⟨mb, 0, none⟩ (CntInv w4 w2.heap.size mb a) cntG w2.heap.size a.many a (Nat.le_refl _) (fun s W h => h.1) (fun x hx s W h => cnt_any w4 w2.heap.size mb a x (.inr hmn) (by omega) s W h) 0 w4 hI
    unfold ATree.ptr at HWK
    rw [cnt_many, Nat.zero_add, ← many_tree, hG.tree] at HWK
    have HWK := Lib.hid HWK
    have c3 : w3.cell? ⟨pb, 0, none⟩ = some (.pointer none) := by simp [World.cell?, p3]
    have z3 : w3.frozen? ⟨pb, 0, none⟩ = false := by simp [World.frozen?, p3]
    have hpl3 : pb < w3.heap.size := by omega
    have HG := Lib.hid hG
    have FF := Lib.hid hF
    have HW4 := Lib.hid hw4
    have HMB := Lib.hid hmb
    have HS4 := Lib.hid hs4
    have FAR4 := Lib.hid far4
    have P4 := Lib.hid p4
    have E3 := Lib.hid e3
    have hmany : t.many ≤ 6100 := by
      have := parse_many _ _ _ _ _ _ HR.out
      simp only [Job.base, manyL] at this
      have := S2.out; have := HM.out
      omega
    have RF4 := Lib.hid (show w4.os = w3.os ∧ w4.tape = w3.tape ∧ w4.output = w3.output by rw [hw4]; exact ⟨rfl, rfl, rfl⟩)
    clear hG hR3 hF hw4 hmb hs3 hs4 far4 p4 m4 hT4 hI hmn p3 e3 h2 h3 h4 h5 h6 hsz HS
    go_wp2_with fail
    rw [← HW4.out, ← HMB.out]
    refine HWK.out.mono ?_
    rintro e w5 ⟨rfl, i1, i2, i3, i4, i5, i6, i7⟩
    rw [show IntKind.i64.wrap ((t.many : Nat) : Int) = (t.many : Int) by simp only [IntKind.wrap_i64]; omega] at i2
    have h2 := HS2.out; have h3 := SZ.out; have h4 := HPB.out; have h5 := HEB.out; have h6 := HRB.out; have h7 := HS4.out; have h8 := HMB.out; have h9 := FF.out.size
    have p5 := (i7 pb (by omega) (by omega)).trans P4.out
    have e5 := (i7 eb (by omega) (by omega)).trans ((FAR4.out eb (by omega) (by omega)).trans E3.out)
    have cm : w5.cell? ⟨mb, 0, none⟩ = some (.int .i64 (t.many : Int)) := by simp [World.cell?, i2]
    have cp : w5.cell? ⟨pb, 0, none⟩ = some (.pointer (some ⟨a.b, 0, none⟩)) := by simp [World.cell?, p5]
    have ce : w5.cell? ⟨eb, 0, none⟩ = some .nilIface := by simp [World.cell?, e5]
    have zp : w5.frozen? ⟨pb, 0, none⟩ = false := by simp [World.frozen?, p5]
    have ze : w5.frozen? ⟨eb, 0, none⟩ = false := by simp [World.frozen?, e5]
    have hl5 : pb < w5.heap.size := by omega
    have hl6 : eb < w5.heap.size := by omega
    -- all that was there stands, and the program
    have fin : Hid (∀ (W : World) (x y : Value), W = (w5.setCell ⟨pb, 0, none⟩ x).setCell ⟨eb, 0, none⟩ y → Below w.heap.size w W ∧ Got w w.heap.size W a t) := by
      refine Lib.hid fun W x y hW => ?_
      have hsW : W.heap.size = w5.heap.size := by rw [hW, World.size_setCell, World.size_setCell]
      have farW : ∀ k, k ≠ pb → k ≠ eb → W.heap[k]? = w5.heap[k]? := fun k h1 h2 => by rw [hW]; exact (Below.heap_setCell _ _ _ _ h2).trans (Below.heap_setCell _ _ _ _ h1)
      have farA : ∀ k, k < mb → k ≠ pb → k ≠ eb → W.heap[k]? = w3.heap[k]? := fun k hk h1 h2 => (farW k h1 h2).trans ((i7 k (by omega) (by omega)).trans (FAR4.out k (by omega) h1))
      have o1 : W.os = w5.os ∧ W.tape = w5.tape ∧ W.output = w5.output := by rw [hW]; exact ⟨rfl, rfl, rfl⟩
      refine ⟨⟨?_, ?_, ?_, by omega, fun k hk => ?_⟩, ⟨HG.out.tree, ?_, HG.out.nodup, fun z hz => ?_⟩⟩
      · exact o1.1.trans (i3.trans (RF4.out.1.trans (FF.out.os.trans (RFR2.out.1.trans B01.out.os))))
      · exact o1.2.1.trans (i4.trans (RF4.out.2.1.trans (FF.out.tape.trans (RFR2.out.2.1.trans B01.out.tape))))
      · exact o1.2.2.trans (i5.trans (RF4.out.2.2.trans (FF.out.output.trans (RFR2.out.2.2.trans B01.out.output))))
      · exact (farA k (by omega) (by omega) (by omega)).trans ((FF.out.block k (by omega) (by omega)).trans (BW2.out k hk))
      · refine (HG.out.at'.keepB fun k hk => ?_).base (by omega)
        have := HG.out.new k hk
        exact farA k (by omega) (by omega) (by omega)
      · have := HG.out.new z hz; omega
    have HALL2 : parseAll text = if 1500 < t.many then .error (4, -1) else .ok t := HALL.out
    clear i1 i2 i3 i4 i5 i6 i7 p5 e5 h2 h3 h4 h5 h6 h7 h8 h9 HWK
    by_cases hbig : 1500 < t.many
    · rw [if_pos hbig] at HALL2
      have hb : decide ((t.many : Int) > 1500) = true := by simp; omega
      have HA := Lib.hid HALL2
      clear HALL2 hbig
      go_wp2_with fail
      refine leaves_cons (f := 88) (args := #[.pointer (some ⟨pb, 0, none⟩), .pointer (some ⟨eb, 0, none⟩)]) (by simp) (by simp [go_sem]) ?_
      refine (catch_idle ⟨pb, 0, none⟩ ⟨eb, 0, none⟩ _).mono ?_
      rintro e u' w6 ⟨rfl, rfl, rfl⟩
      show Go.Leaves _ _ _ _ [] .returning _
      refine leaves_two (pb := pb) (eb := eb) rfl rfl (x := .pointer none) (y := .iface 47 (.int .i64 4)) (by go_simp) (by go_simp) ?_
      rw [HA.out]
      have hf := fin.out _ (.pointer none) (.iface 47 (.int .i64 4)) rfl
      exact ⟨hf.1, _, rfl, .inl ⟨rfl, rfl⟩⟩
    · rw [if_neg hbig] at HALL2
      have hb : decide ((t.many : Int) > 1500) = false := by simp; omega
      have HA := Lib.hid HALL2
      clear HALL2 hbig
      go_wp2_with fail
      refine leaves_cons (f := 88) (args := #[.pointer (some ⟨pb, 0, none⟩), .pointer (some ⟨eb, 0, none⟩)]) (by simp) (by simp [go_sem]) ?_
      refine (catch_idle ⟨pb, 0, none⟩ ⟨eb, 0, none⟩ _).mono ?_
      rintro e u' w6 ⟨rfl, rfl, rfl⟩
      show Go.Leaves _ _ _ _ [] .returning _
      refine leaves_two (pb := pb) (eb := eb) rfl rfl (x := .pointer (some ⟨a.b, 0, none⟩)) (y := .nilIface) (by go_simp) (by go_simp) ?_
      rw [HA.out]
      have hf := fin.out _ (.pointer (some ⟨a.b, 0, none⟩)) (.nilIface) rfl
      exact ⟨hf.1, a, rfl, hf.2⟩
theorem parse_any (w : World) (text : ByteArray) (hW : Words w) (hL : Levels w w.heap.size) :
    Calls Tryd.prog 62 #[.string text] w (ParsePost w (parseAll text)) := by
  have k4 := (cells2_at w).2.2.2
  by_cases hm : 3000 < text.size
  · have e : parseAll text = .error (4, -1) := by unfold parseAll; rw [if_pos hm]
    rw [e]
    exact parse_bad w text 4 (-1) ((tokens_big' (cells2 w) text hm).mono fun e w' ⟨h1, h2⟩ => by subst h1; subst h2; exact ⟨⟨_, rfl, .inl ⟨rfl, rfl⟩⟩, Below.refl _ _⟩)
  · cases ht : lexAll text with
    | ok ts => exact parse_good w text (by omega) hW hL ts ht
    | error x =>
      obtain ⟨c, p⟩ := x
      have e : parseAll text = .error (c, (p : Int)) := by unfold parseAll; rw [if_neg hm, ht]
      rw [e]
      have HC := tokens_any (cells2 w) text (by omega) (hW.below k4)
      rw [ht] at HC
      exact parse_bad w text c p (HC.mono fun e w' ⟨⟨x, h1, h2⟩, h3⟩ => ⟨⟨x, h1, .inr ⟨p, rfl, h2⟩⟩, h3⟩)
end Go.Proofs.YtgifgiipojedbaaDoor

namespace Go.Proofs.YtgifgiipojedbaaDoor
open Go Go.RowKit
set_option maxRecDepth 100000
set_option linter.unusedVariables false

theorem parseAll_ok {text : ByteArray} {t : Tree} (h : parseAll text = .ok t) : WT t ∧ t.many ≤ 1500 := by
  unfold parseAll at h
  split at h
  · cases h
  · split at h
    · cases h
    · rename_i ts _
      split at h
      · cases h
      · cases h
      · rename_i t' ts' hp
        split at h
        · cases h
        · have e : t' = t := by simpa using h
          subst e
          refine ⟨parse_shape _ _ _ _ (show Job.good (.stmts 1 []) from ⟨.inl rfl, trivial⟩) _ _ hp, by omega⟩

/-- what read hands back -/
def ReadPost (w : World) (r : Except (Int × Int) Tree) (e : Ending) (w' : World) : Prop :=
  Below w.heap.size w w' ∧ match r with
  | .ok t => ∃ a, e = .returned (.tuple #[.pointer (some ⟨a.b, 0, none⟩), .bool (t.kind == 1)]) ∧ Got w w.heap.size w' a t
  | .error _ => e = .returned (.tuple #[.pointer none, .bool false])
theorem tree_kind {a : ATree} {t : Tree} (h : a.tree = t) : t.kind = a.kind := by subst h; cases a; rfl

set_option maxHeartbeats 8000000 in
theorem lawread_any (w : World) (text : ByteArray) (hW : Words w) (hL : Levels w w.heap.size) :
    Calls Tryd.prog 39 #[.string text] w (ReadPost w (parseAll text)) := by
  have HP := Lib.hid (parse_any w text hW hL)
  obtain ⟨r, hr⟩ : ∃ r, r = parseAll text := ⟨_, rfl⟩
  rw [← hr] at HP ⊢
  clear hr hW hL
  unfold ReadPost
  cases r with
  | error x =>
    obtain ⟨c, p⟩ := x
    go_enter Tryd.func39, Tryd.ntmps39
    go_wp2_with fail
    refine HP.out.mono ?_
    rintro e w1 ⟨hb, x, rfl, hx⟩
    have HB := Lib.hid hb
    have hne : x ≠ .nilIface := by
      rcases hx with ⟨_, rfl⟩ | ⟨q, _, hx⟩
      · simp
      · obtain ⟨_, rfl, _⟩ := hx
        simp
    obtain ⟨T, y, rfl⟩ : ∃ T y, x = .iface T y := by
      rcases hx with ⟨_, rfl⟩ | ⟨q, _, hx⟩
      · exact ⟨_, _, rfl⟩
      · obtain ⟨_, rfl, _⟩ := hx
        exact ⟨_, _, rfl⟩
    clear hb hx hne HP
    go_wp2_with fail
    refine wp_region_plan [(true, 0), (true, 1), (true, 2), (true, 3), (true, 4), (true, 5), (true, 6), (true, 7), (true, 8), (true, 9), (true, 10), (true, 11), (true, 12), (true, 13), (true, 14)] [15] (fun _ => True) (by kernel_rfl) (by kernel_rfl) (fun _ _ d _ _ h => by cases d <;> exact h) trivial (fun hS0 => ?_)
    simp only [planOps, List.filterMap_cons, List.filterMap_nil, List.getElem?_toArray, List.getElem?_cons_zero, List.getElem?_cons_succ, Option.map_some]
    iterate 15
      first
        | (refine wpPlan_take ?_ (by rfl) (fun w' _ => ?_) ?_; rotate_left; (go_simp; first | done | with_reducible rfl); simp only [Act.put, List.setIfInBounds_toArray, List.set_cons_zero, List.set_cons_succ])
        | (refine wpPlan_skip (by rfl) ?_; simp only [Act.put, List.setIfInBounds_toArray, List.set_cons_zero, List.set_cons_succ])
    refine wpPlan_end ?_
    go_wp2
    go_ret2
    exact ⟨HB.out.drew, rfl⟩
  | ok t =>
    go_enter Tryd.func39, Tryd.ntmps39
    go_wp2_with fail
    refine HP.out.mono ?_
    rintro e w1 ⟨hb, a, rfl, hg⟩
    have c0 := hg.at'.c0
    have hk := tree_kind hg.tree
    obtain ⟨kd, hkd⟩ : ∃ kd, kd = a.kind := ⟨_, rfl⟩
    rw [← hkd] at hk c0
    have HK := Lib.hid hk
    have HB := Lib.hid hb
    have HG := Lib.hid hg
    clear hb hg HP hk hkd
    go_wp2_with fail
    refine wp_region_plan [(true, 0), (true, 1), (true, 2), (true, 3), (true, 4), (true, 5), (true, 6), (true, 7), (true, 8), (true, 9), (true, 10), (true, 11), (true, 12), (true, 13), (true, 14)] [15] (fun W => W.cell? ⟨a.b, 0, none⟩ = some (.int .i64 kd)) (by kernel_rfl) (by kernel_rfl) (fun _ _ d _ _ h => by cases d <;> exact h) c0 (fun hS0 => ?_)
    simp only [planOps, List.filterMap_cons, List.filterMap_nil, List.getElem?_toArray, List.getElem?_cons_zero, List.getElem?_cons_succ, Option.map_some]
    iterate 15
      first
        | (refine wpPlan_take ?_ (by rfl) (fun w' hS' => ?_) ?_; rotate_left; (have s0 := hS'; go_simp; first | done | with_reducible rfl); simp only [Act.put, List.setIfInBounds_toArray, List.set_cons_zero, List.set_cons_succ])
        | (refine wpPlan_skip (by rfl) ?_; simp only [Act.put, List.setIfInBounds_toArray, List.set_cons_zero, List.set_cons_succ])
    refine wpPlan_end ?_
    go_wp2
    go_ret2
    exact ⟨HB.out.drew, a, by rw [HK.out]; rfl, HG.out.tree, HG.out.at'.keep fun k _ _ => rfl, HG.out.nodup, HG.out.new⟩
end Go.Proofs.YtgifgiipojedbaaDoor

namespace Go.Proofs.YtgifgiipojedbaaDoor
open Go Go.RowKit
set_option maxRecDepth 100000
set_option linter.unusedVariables false

def toldText : ByteArray := ⟨#[102, 117, 110, 99, 116, 105, 111, 110, 32, 102, 40, 97, 41, 32, 123, 32, 114, 101, 116, 117, 114, 110, 32, 97, 59, 32, 125]⟩
def toldTree : Tree := .mk 1 ⟨#[]⟩ 0 [.mk 5 ⟨#[102]⟩ 0 [.mk 40 ⟨#[]⟩ 0 [.mk 23 ⟨#[97]⟩ 0 []], .mk 6 ⟨#[]⟩ 0 [.mk 10 ⟨#[]⟩ 0 [.mk 23 ⟨#[97]⟩ 0 []]]]]
theorem told_parse : parseAll toldText = .ok toldTree := by kernel_rfl
theorem tree_mk {a : ATree} {k : Int} {s : ByteArray} {n : Int} {l : List Tree} (h : a.tree = .mk k s n l) : ∃ b v ks, a = .mk b v k s n ks ∧ treeL ks = l := by
  obtain ⟨b, v, k', s', n', ks⟩ := a
  simp only [ATree.tree, Tree.mk.injEq] at h
  obtain ⟨rfl, rfl, rfl, h⟩ := h
  exact ⟨b, v, ks, rfl, h⟩
theorem treeL_one {l : List ATree} {t : Tree} {r : List Tree} (h : treeL l = t :: r) : ∃ a l', l = a :: l' ∧ a.tree = t ∧ treeL l' = r := by
  cases l with
  | nil => simp [treeL] at h
  | cons a l => simp only [treeL, List.cons.injEq] at h; exact ⟨a, l, rfl, h.1, h.2⟩
theorem treeL_none {l : List ATree} (h : treeL l = []) : l = [] := by
  cases l with
  | nil => rfl
  | cons a l => simp [treeL] at h
theorem told_of {a : ATree} (h : a.tree = toldTree) (hd : (a.subs.map ATree.b).Nodup) : ofF a = [⟨6, (1, true)⟩] := by
  obtain ⟨b0, v0, l0, rfl, g0⟩ := tree_mk h
  obtain ⟨a1, r0, rfl, h1, e0⟩ := treeL_one g0
  obtain rfl := treeL_none e0
  obtain ⟨b1, v1, l1, rfl, g1⟩ := tree_mk h1
  obtain ⟨a2, r1, rfl, h2, f1⟩ := treeL_one g1
  obtain ⟨a4, r2, rfl, h4, e2⟩ := treeL_one f1
  obtain rfl := treeL_none e2
  obtain ⟨b2, v2, l2, rfl, g2⟩ := tree_mk h2
  obtain ⟨a3, r3, rfl, h3, e3⟩ := treeL_one g2
  obtain rfl := treeL_none e3
  obtain ⟨b3, v3, l3, rfl, g3⟩ := tree_mk h3
  obtain rfl := treeL_none g3
  obtain ⟨b4, v4, l4, rfl, g4⟩ := tree_mk h4
  obtain ⟨a5, r5, rfl, h5, e5⟩ := treeL_one g4
  obtain rfl := treeL_none e5
  obtain ⟨b5, v5, l5, rfl, g5⟩ := tree_mk h5
  obtain ⟨a6, r6, rfl, h6, e6⟩ := treeL_one g5
  obtain rfl := treeL_none e6
  obtain ⟨b6, v6, l6, rfl, g6⟩ := tree_mk h6
  obtain rfl := treeL_none g6
  clear h g0 h1 e0 g1 h2 f1 h4 e2 g2 h3 e3 g3 g4 h5 e5 g5 h6 e6 g6
  have h1 := idx_nodup hd 1 (by simp [ATree.subs, subsL])
  have h6 := idx_nodup hd 6 (by simp [ATree.subs, subsL])
  unfold ofF
  have key : ∀ (N : Nat → Nat) (S : List Sc) (st : Bool), kidsF N [.mk b1 v1 5 ⟨#[102]⟩ 0 [.mk b2 v2 40 ⟨#[]⟩ 0 [.mk b3 v3 23 ⟨#[97]⟩ 0 []], .mk b4 v4 6 ⟨#[]⟩ 0 [.mk b5 v5 10 ⟨#[]⟩ 0 [.mk b6 v6 23 ⟨#[97]⟩ 0 []]]]] S st = [⟨N b6, (N b1, true)⟩] := fun N S st => by
    cases st <;> rfl
  simp only [ATree.kids]
  rw [key]
  have e6 : numOf (.mk b0 v0 1 ⟨#[]⟩ 0 [.mk b1 v1 5 ⟨#[102]⟩ 0 [.mk b2 v2 40 ⟨#[]⟩ 0 [.mk b3 v3 23 ⟨#[97]⟩ 0 []], .mk b4 v4 6 ⟨#[]⟩ 0 [.mk b5 v5 10 ⟨#[]⟩ 0 [.mk b6 v6 23 ⟨#[97]⟩ 0 []]]]]) b6 = 6 := h6
  have e1 : numOf (.mk b0 v0 1 ⟨#[]⟩ 0 [.mk b1 v1 5 ⟨#[102]⟩ 0 [.mk b2 v2 40 ⟨#[]⟩ 0 [.mk b3 v3 23 ⟨#[97]⟩ 0 []], .mk b4 v4 6 ⟨#[]⟩ 0 [.mk b5 v5 10 ⟨#[]⟩ 0 [.mk b6 v6 23 ⟨#[97]⟩ 0 []]]]]) b1 = 1 := h1
  rw [e6, e1]
  rfl
theorem Levels.up {w w1 : World} (h : Levels w w.heap.size) (hB : Below w.heap.size w w1) : Levels w1 w1.heap.size := by
  intro lv hl
  obtain ⟨b, off, cap, h1, h2, h3, h4, h5⟩ := h.keep (fun k hk => hB.block k hk) lv hl
  exact ⟨b, off, cap, Nat.lt_of_lt_of_le h1 hB.size, Nat.lt_of_lt_of_le h2 hB.size, h3, h4, h5⟩

theorem us_cell {w : World} {base : Nat} {v : Value} {l : List Us} (h : w.ownsRow base 82 3 v l.length (l.flatMap Us.cells)) {g : Nat} (hg : v.ownBlock = some g) {i j : Nat} {u : Us} {x : Value} (hi : l[i]? = some u) (hj : u.cells[j]? = some x) :
    w.cell? ⟨g, i * 3 + j, none⟩ = some x := row_cell (f := Us.cells) (fun _ => rfl) h hg hi hj

set_option maxHeartbeats 8000000 in
theorem told_any (w : World) (hW : Words w) (hL : Levels w w.heap.size) :
    Calls Tryd.prog 40 #[] w fun e w' => e = .returned (.bool true) ∧ Below w.heap.size w w' := by
  have hR := lawread_any w toldText hW hL
  rw [told_parse] at hR
  unfold toldText at hR
  have HR := Lib.hid hR
  clear hR
  go_enter Tryd.func40, Tryd.ntmps40
  go_wp2_with fail
  refine HR.out.mono ?_
  rintro e w1 ⟨hb, a, rfl, hg⟩
  have hk : (toldTree.kind == 1) = true := by rfl
  have hwt := (parseAll_ok told_parse)
  have hO := of_any w1 w.heap.size a hg.at' (wa_of a (by rw [hg.tree]; exact hwt.1)) hg.apart (by have := congrArg Tree.many hg.tree; rw [many_tree] at this; have := hwt.2; omega)
  rw [told_of hg.tree hg.apart] at hO
  have HO := Lib.hid hO
  have HB := Lib.hid hb
  unfold ATree.ptr at HO
  rw [hk]
  clear hwt hO hg hb hk HR
  go_wp2_with fail
  refine HO.out.mono ?_
  rintro e w2 ⟨v, rfl, hrow, hb2⟩
  rcases ownsRow_cases hrow with ⟨_, h2⟩ | ⟨g, cap, rfl, k1, k2, k3⟩
  · simp at h2
  have x0 := us_cell hrow (g := g) rfl (i := 0) (j := 0) rfl rfl
  have x1 := us_cell hrow (g := g) rfl (i := 0) (j := 1) rfl rfl
  have x2 := us_cell hrow (g := g) rfl (i := 0) (j := 2) rfl rfl
  simp only [Nat.zero_mul, Nat.zero_add] at x0 x1 x2
  have HB2 := Lib.hid (Below.trans HB.out (hb2.mono HB.out.size))
  simp only [List.length_cons, List.length_nil, Nat.zero_add] at k1 ⊢
  unfold maxLen at k2
  clear hrow hb2 HB HO
  go_wp2
  go_ret
  exact ⟨rfl, HB2.out⟩
end Go.Proofs.YtgifgiipojedbaaDoor

namespace Go.Proofs.YtgifgiipojedbaaDoor
open Go Go.RowKit
set_option maxRecDepth 100000
set_option linter.unusedVariables false

set_option maxHeartbeats 4000000 in
theorem walk_Wp (p0 : Addr) {σ : Type} (Inv : σ → World → Prop) (g : σ → ATree → Bool × σ) (B : Nat) : ∀ (m : Nat) (a : ATree), a.many ≤ m → (∀ s w, Inv s w → TreeAt w B a) →
    ∀ s, (∀ x s', Reach g a s x s' → ∀ w, Inv s' w → Calls Tryd.prog 42 #[x.ptr, .pointer (some p0)] w fun e w' => e = .returned (.bool (g s' x).1) ∧ Inv (g s' x).2 w') →
    ∀ w, Inv s w → Calls Tryd.prog 41 #[a.ptr, .func (.func 42) #[] #[.pointer (some p0)]] w fun e w' => e = .returned (.tuple #[]) ∧ Inv (walkA g a s) w' := by
  intro m
  induction m with
  | zero => intro a h; exfalso; cases a; simp [ATree.many] at h
  | succ m ih =>
    intro a hm hT s hg w hI
    have IH := Lib.hid ih
    have HT := Lib.hid hT
    have HG := Lib.hid hg
    have HM := Lib.hid hm
    have HC := hg a s (.self a s) w hI
    rw [walkA_eq]
    unfold ATree.ptr at HC ⊢
    have hkid : ∀ (i : Nat) (k x : ATree) (s' : σ), (g s a).1 = true → a.kids[i]? = some k → Reach g k (walkL g (a.kids.take i) (g s a).2) x s' → Reach g a s x s' := fun i k x s' h1 h2 h3 => .kid h1 h2 h3
    obtain ⟨ok, s1, hgs⟩ : ∃ ok s1, g s a = (ok, s1) := ⟨_, _, rfl⟩
    rw [hgs] at HC hkid ⊢
    have HKID := Lib.hid hkid
    clear hkid
    have HC := Lib.hid HC
    clear ih hT hg hm hI hgs
    cases ok
    · go_enter Tryd.func41, Tryd.ntmps41
      go_wp2_with fail
      refine HC.out.mono ?_
      rintro e w1 ⟨rfl, hI1⟩
      have HI1 := Lib.hid hI1
      clear hI1 HC
      go_wp2
      refine bodyPost_ret (results_none rfl _ _ _) rfl ?_
      exact ⟨rfl, HI1.out⟩
    · simp only [if_true]
      go_enter Tryd.func41, Tryd.ntmps41
      go_wp2_with fail
      refine HC.out.mono ?_
      rintro e w1 ⟨rfl, hI1⟩
      have hT1 := HT.out _ _ hI1
      have hblk := hT1.blkOf
      have hrow := hT1.rowOf
      obtain ⟨p, cp, hv⟩ : ∃ p cp, a.v = .slice p a.kids.length cp := by
        rcases ownsRow_cases hrow with ⟨h1, h2⟩ | ⟨g0, cap0, h1, _⟩
        · exact ⟨none, 0, by rw [h1, h2]⟩
        · exact ⟨_, _, h1⟩
      rw [hv] at hblk
      have c3 : w1.cell? ⟨a.b, 3, none⟩ = some (.slice p a.kids.length cp) := by simp [World.cell?, hblk]
      have hlen : a.kids.length ≤ 9223372036854775807 := by
        rcases ownsRow_cases hrow with ⟨h1, h2⟩ | ⟨g0, cap0, h1, k1, k2, k3⟩
        · omega
        · unfold maxLen at k2; omega
      have HI1 := Lib.hid hI1
      have HV := Lib.hid hv
      obtain ⟨n, hn⟩ : ∃ n, n = a.kids.length := ⟨_, rfl⟩
      rw [← hn] at c3 hlen
      have HN := Lib.hid hn
      clear hI1 hT1 hblk hrow hv hn HC
      go_wp2_with fail
      go_loopw [19] (fun i wr => ∃ k : Nat, k ≤ n ∧ i = .int .i64 k ∧ Hid (Inv (walkL g (a.kids.take k) s1) wr)) (fun i _ => n - (intOf i).toNat)
      case atStart => exact ⟨0, Nat.zero_le _, rfl, Lib.hid (by simpa [walkL] using HI1.out)⟩
      case round =>
        obtain ⟨k, hk, rfl, HI⟩ := hrel
        by_cases hkn : k < n
        · obtain ⟨x, hx⟩ : ∃ x, a.kids[k]? = some x := ⟨_, List.getElem?_eq_getElem (by rw [← HN.out]; exact hkn)⟩
          have hT2 := HT.out _ _ HI.out
          have hrow := hT2.rowOf
          rcases ownsRow_cases hrow with ⟨_, h2⟩ | ⟨g0, cap0, hv0, k1, k2, k3⟩
          · rw [← HN.out] at h2; omega
          have hp : p = some ⟨g0, 0, none⟩ := by
            have := HV.out.symm.trans hv0
            simp only [Value.slice.injEq] at this
            exact this.1
          subst hp
          have cx := ownsRow_cell1 hrow (g := g0) (by rw [hv0]; rfl) (i := k) (x := x.ptr) (by rw [List.getElem?_map, hx]; rfl)
          unfold ATree.ptr at cx
          have hmem : x ∈ a.kids := List.mem_of_getElem? hx
          have hcall := IH.out x (by have := many_kid hmem; have := HM.out; omega) (fun s w h => (HT.out s w h).kid hmem) _ (fun y s' hy => HG.out y s' (HKID.out k x y s' (by first | rfl | trivial) hx hy)) _ HI.out
          unfold ATree.ptr at hcall
          have HCALL := Lib.hid hcall
          have HX := Lib.hid hx
          have hge : n ≤ cp := by
            have := HV.out.symm.trans hv0
            simp only [Value.slice.injEq] at this
            rw [HN.out, this.2.2]; exact k1
          clear hx hT2 hrow hv0 k1 k2 k3 hmem hcall
          go_wp2_with fail
          refine HCALL.out.mono ?_
          rintro e w2 ⟨rfl, hI2⟩
          have HI2 := Lib.hid hI2
          clear hI2 HCALL
          go_wp2
          go_roundw
          case rel => exact ⟨k + 1, by omega, by go_num, Lib.hid (by rw [take_succ_kid HX.out, walkL_snoc]; exact HI2.out)⟩
          case measure => simp [intOf]; omega
        · have hk2 : k = n := by omega
          subst hk2
          go_wp2
          go_end0
          refine ⟨rfl, ?_⟩
          have := HI.out
          rwa [List.take_of_length_le (by rw [← HN.out]; exact Nat.le_refl _)] at this
end Go.Proofs.YtgifgiipojedbaaDoor
