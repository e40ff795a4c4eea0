/- The law HeapLate, walked. -/
import Derived.Test.YtgoaljfhciimhaaDoorHeapT
import Derived.Test.YtgoaljfhciimhaaDoorHeapO
namespace Go.Proofs.YtgoaljfhciimhaaDoor
open Go Go.RowKit
set_option maxRecDepth 100000

structure KRow (ρ : Nat → Option Role) (w : World) (gs : Nat) : Prop where
  c0 : w.cell? ⟨gs, 0, none⟩ = some (.int .i64 1)
  c1 : w.cell? ⟨gs, 1, none⟩ = some (.int .i64 2)
  far : ρ gs = none
  lt : gs < w.heap.size
theorem KRow.keep {ρ ρ' : Nat → Option Role} {w w' : World} {b : Nat} (o : KRow ρ w b) (hb : w'.heap[b]? = w.heap[b]?) (hf : ρ' b = none) (hs : w.heap.size ≤ w'.heap.size) : KRow ρ' w' b :=
  ⟨(World.cell?_of_block hb).trans o.c0, (World.cell?_of_block hb).trans o.c1, hf, Nat.lt_of_lt_of_le o.lt hs⟩
theorem KRow.step {ρ ρ' : Nat → Option Role} {w w' : World} {hb b : Nat} (o : KRow ρ w b) (f : Fr ρ ρ' hb 0 w w') : KRow ρ' w' b :=
  o.keep (f.block b o.lt o.far) (f.role b o.lt o.far) f.size
theorem KRow.below {ρ : Nat → Option Role} {w w' : World} {b : Nat} (o : KRow ρ w b) (f : Below w.heap.size w w') : KRow ρ w' b :=
  o.keep (f.block b o.lt) o.far f.size
theorem KRow.drew {ρ : Nat → Option Role} {w : World} {b : Nat} (o : KRow ρ w b) : KRow ρ w.drew b := o.keep rfl o.far (Nat.le_refl _)

section
variable {w0 w : World} {ρ : Nat → Option Role} {hb : Nat} {L : HL} {l : List LBind} {n : ByteArray} {v v' : LVal} {kd : Int}
theorem lt_declare (o : Own w0 ρ w hb L (lateH l)) (h : l.findIdx? (LBind.is n) = none) (hk : kd = 1 ∨ kd = 2) (hl : l.length < 1000) :
    Calls Tryd.prog 18 #[.pointer (some ⟨hb, 0, none⟩), .int .i64 0, .string n, .int .i64 kd, v.agg] w fun e w' => e = .returned .nilIface ∧
      ∃ ρ' L', HeapAt ρ' w' hb 0 L' (lateH (l ++ [⟨n, v, kd, false⟩])) ∧ Fr ρ ρ' hb 0 w w' := by
  have := declare_any o.at' ((0 : Nat) : Int) n kd v (late_lens hl)
  rw [late_declare h hk] at this
  exact this
theorem lt_read0 (o : Own w0 ρ w hb L (lateH (l ++ [⟨n, v, kd, false⟩]))) (h : l.findIdx? (LBind.is n) = none) :
    Calls Tryd.prog 20 #[.pointer (some ⟨hb, 0, none⟩), .int .i64 0, .string n] w fun e w' => e = .returned (.tuple #[.agg #[.int .i64 0, .int .i64 0, .string ⟨#[]⟩], errV 6]) ∧ Below w.heap.size w w' := by
  have := read_any o.at' ((0 : Nat) : Int) n
  rw [late_read0 h] at this
  exact this
theorem lt_read (o : Own w0 ρ w hb L (lateH (l ++ [⟨n, v, kd, true⟩]))) (h : l.findIdx? (LBind.is n) = none) :
    Calls Tryd.prog 20 #[.pointer (some ⟨hb, 0, none⟩), .int .i64 0, .string n] w fun e w' => e = .returned (.tuple #[v.agg, .nilIface]) ∧ Below w.heap.size w w' := by
  have := read_any o.at' ((0 : Nat) : Int) n
  rw [late_read h] at this
  exact this
theorem lt_write0 (o : Own w0 ρ w hb L (lateH (l ++ [⟨n, v, kd, false⟩]))) (h : l.findIdx? (LBind.is n) = none) :
    Calls Tryd.prog 21 #[.pointer (some ⟨hb, 0, none⟩), .int .i64 0, .string n, v'.agg] w fun e w' => e = .returned (errV 6) ∧
      ∃ ρ' L', HeapAt ρ' w' hb 0 L' (lateH (l ++ [⟨n, v, kd, false⟩])) ∧ Fr ρ ρ' hb 0 w w' := by
  have := write_any o.at' ((0 : Nat) : Int) n v' chain_objs
  rw [late_write0 h] at this
  exact this
theorem lt_start (o : Own w0 ρ w hb L (lateH (l ++ [⟨n, v, kd, false⟩]))) (h : l.findIdx? (LBind.is n) = none) :
    Calls Tryd.prog 22 #[.pointer (some ⟨hb, 0, none⟩), .int .i64 0, .string n, v'.agg] w fun e w' => e = .returned .nilIface ∧
      ∃ ρ' L', HeapAt ρ' w' hb 0 L' (lateH (l ++ [⟨n, v', kd, true⟩])) ∧ Fr ρ ρ' hb 0 w w' := by
  have := start_any o.at' ((0 : Nat) : Int) n v'
  rw [late_start h] at this
  exact this
/-- what writing gives: a value that is final stays -/
def lateW (kd : Int) (v v' : LVal) : LVal := if kd = 2 then v else v'
def lateC (kd : Int) : Int := if kd = 2 then 1 else 0
theorem lt_write (o : Own w0 ρ w hb L (lateH (l ++ [⟨n, v, kd, true⟩]))) (h : l.findIdx? (LBind.is n) = none) (hk : kd = 1 ∨ kd = 2) :
    Calls Tryd.prog 21 #[.pointer (some ⟨hb, 0, none⟩), .int .i64 0, .string n, v'.agg] w fun e w' => e = .returned (errV (lateC kd)) ∧
      ∃ ρ' L', HeapAt ρ' w' hb 0 L' (lateH (l ++ [⟨n, lateW kd v v', kd, true⟩])) ∧ Fr ρ ρ' hb 0 w w' := by
  have := write_any o.at' ((0 : Nat) : Int) n v' chain_objs
  rcases hk with rfl | rfl
  · rw [late_write1 h] at this
    exact this
  · rw [late_write2 h] at this
    exact this
end

theorem enc_ne (name : ByteArray) : name ++ Utf8.encode 49 ≠ name ++ Utf8.encode 50 := by
  intro h
  have := congrArg (fun b : ByteArray => b.data.toList) h
  simp only [ByteArray.data_append, Array.toList_append, List.append_cancel_left_eq] at this
  exact absurd this (by decide)
theorem enc49 : (Utf8.encode 49).size = 1 := by kernel_rfl
theorem enc50 : (Utf8.encode 50).size = 1 := by kernel_rfl
theorem idx_nil {n : ByteArray} {l : List LBind} (h : ∀ b ∈ l, b.name ≠ n) : l.findIdx? (LBind.is n) = none := by
  rw [List.findIdx?_eq_none_iff]
  intro b hb
  simpa [LBind.is, sameS] using h b hb

set_option maxHeartbeats 20000000 in
theorem late_walk (w : World) (name : ByteArray) (v v2 : Int) (hT : ErrType w) :
    Calls Tryd.prog 5 #[.string name, .int .i64 v, .int .i64 v2] w fun e w' => e = .returned (.bool true) ∧ Below w.heap.size w w' := by
  by_cases hlen : 20 < name.size
  · clear hT
    go_enter Tryd.func5, Tryd.ntmps5
    go_wp2
    go_ret
    exact ⟨rfl, Below.refl _ _⟩
  obtain ⟨ρ, L, h0, hr⟩ := heap_new w 34
  have o0 : Own w ρ (w.alloc (.cells #[.slice none 0 0, .slice none 0 0] 34)) w.heap.size L .empty :=
    ⟨h0, (Below.refl _ _).alloc (Nat.le_refl _) _, fun b hb => hr b (by omega)⟩
  have HC := newScope_any h0 (-1) (-1) (by simp [LHeap.empty])
  rw [empty_chain] at HC
  have HC := Lib.hid (HC.mono (R' := fun e w' => e = .returned (.int .i64 0) ∧ ∃ ρ' L', HeapAt ρ' w' w.heap.size 0 L' (lateH []) ∧ Fr ρ ρ' w.heap.size 0 (w.alloc (.cells #[.slice none 0 0, .slice none 0 0] 34)) w') (fun e w' h => ⟨h.1.trans (ret_int rfl), h.2⟩))
  have O0 := Lib.hid o0
  have HT := Lib.hid hT
  clear h0 hr o0 hT
  go_enter Tryd.func5, Tryd.ntmps5
  go_wp2_with fail
  refine HC.out.mono ?_
  rintro e w1 ⟨rfl, ρ1, L1, hA1, hF1⟩
  have O1 := Lib.hid (O0.out.step hA1 hF1)
  clear HC O0 hA1 hF1
  go_wp2_with fail
  refine (heaped_any _).mono ?_
  rintro e w2 ⟨rfl, hB⟩
  have O2 := Lib.hid (O1.out.below hB)
  clear hB O1
  go_wp2
  obtain ⟨gs, hgs⟩ : ∃ g, g = w2.heap.size := ⟨_, rfl⟩
  obtain ⟨w3, hw3⟩ : ∃ W, W = w2.alloc (.cells #[.int .i64 1, .int .i64 2] 3) := ⟨_, rfl⟩
  rw [← hgs, ← hw3]
  have K3 : KRow ρ1 w3 gs := by
    rw [hgs, hw3]
    exact ⟨World.cell?_alloc_new _ _ _ 0, World.cell?_alloc_new _ _ _ 1, O2.out.at'.fresh (Nat.le_refl _), by simp⟩
  have O3 : Own w ρ1 w3 w.heap.size L1 (lateH []) := by rw [hw3]; exact O2.out.below ((Below.refl _ _).alloc (Nat.le_refl _) _)
  have hst : ∃ (k : Nat) (l : List LBind) (ρ' : Nat → Option Role) (L' : HL), Value.int .i64 0 = .int .i64 (k : Int) ∧ Value.bool true = .bool true ∧ k ≤ 2 ∧ Own w ρ' w3 w.heap.size L' (lateH l) ∧ KRow ρ' w3 gs ∧ l.length = k ∧ (k ≤ 1 → ∀ b ∈ l, b.name = name ++ Utf8.encode 49) :=
    ⟨0, [], ρ1, L1, rfl, rfl, by omega, O3, K3, rfl, fun _ b hb => by cases hb⟩
  have ST := Lib.hid hst
  clear hst K3 O3 O2 hgs hw3
  go_loopw [9, 32] (fun ok i wr => ∃ (k : Nat) (l : List LBind) (ρ' : Nat → Option Role) (L' : HL), i = .int .i64 (k : Int) ∧ ok = .bool true ∧ k ≤ 2 ∧ Own w ρ' wr w.heap.size L' (lateH l) ∧ KRow ρ' wr gs ∧ l.length = k ∧ (k ≤ 1 → ∀ b ∈ l, b.name = name ++ Utf8.encode 49)) (fun _ i _ => 2 - (intOf i).toNat)
  case atStart => exact ST.out
  case round =>
    obtain ⟨k, l, ρ4, L4, rfl, rfl, hk, hO, hK, hl, hn⟩ := hrel
    have O4 := Lib.hid hO
    have K4 := Lib.hid hK
    have HN := Lib.hid hn
    have ck0 := hK.c0
    have ck1 := hK.c1
    have e49 := enc49
    have e50 := enc50
    have hz49 : ¬ 9223372036854775807 < name.size + (Utf8.encode 49).size := by omega
    have hz50 : ¬ 9223372036854775807 < name.size + (Utf8.encode 50).size := by omega
    have HL := Lib.hid hl
    clear hO hK hn ST e49 e50 hl
    by_cases hk2 : k = 2
    · subst hk2
      go_wp2
      go_ret
      exact ⟨rfl, O4.out.old⟩
    · have hk01 : k = 0 ∨ k = 1 := by omega
      rcases hk01 with rfl | rfl
      · go_wp2_with fail
        have hidx : l.findIdx? (LBind.is (name ++ Utf8.encode 49)) = none := idx_nil (fun b hb => by have := HL.out; simp at this; subst this; cases hb)
        have hnn : Hid (∀ b : LBind, b.name = name ++ Utf8.encode 49 → 1 ≤ 1 → ∀ x ∈ l ++ [b], x.name = name ++ Utf8.encode 49) := (fun b hb _ x hx => by have h0 := HL.out; simp at h0; subst h0; simp at hx; subst hx; exact hb)
        obtain ⟨n, hnm0⟩ : ∃ n, n = name ++ Utf8.encode 49 := ⟨_, rfl⟩
        rw [← hnm0] at hidx ⊢
        have hnm := Lib.hid hnm0
        clear hnm0
        have HI := Lib.hid hidx
        clear hidx HN hz49 hz50 ck0 ck1
        refine (of_any _ v).mono ?_
        rintro e w5 ⟨rfl, hB⟩
        have O5 := Lib.hid (O4.out.below hB)
        have K5 := Lib.hid (K4.out.below hB)
        clear hB O4 K4
        have HD := lt_declare (n := n) (v := ⟨3, v, ⟨#[]⟩⟩) (kd := 1) O5.out HI.out (by omega) (by have := HL.out; omega)
        simp only [LVal.agg] at HD ⊢
        go_wp2_with fail
        refine HD.mono ?_
        rintro e w6 ⟨rfl, ρ6, L6, hA, hF⟩
        have O6 := Lib.hid (O5.out.step hA hF)
        have K6 := Lib.hid (K5.out.step hF)
        clear HD hA hF O5 K5
        go_wp2_with fail
        refine (lt_read0 O6.out HI.out).mono ?_
        rintro e w7 ⟨rfl, hB⟩
        have hb : Below w7.heap.size w7 (w7.alloc (.cells #[.int .i64 0, .int .i64 0, .string ⟨#[]⟩] 39)) := (Below.refl _ _).alloc (Nat.le_refl _) _
        have O7 := Lib.hid ((O6.out.below hB).below hb)
        have K7 := Lib.hid ((K6.out.below hB).below hb)
        clear hB hb O6 K6
        go_wp2_with fail
        refine (of_any _ v2).mono ?_
        rintro e w8 ⟨rfl, hB⟩
        have O8 := Lib.hid (O7.out.below hB)
        have K8 := Lib.hid (K7.out.below hB)
        clear hB O7 K7
        have HW := lt_write0 (v' := ⟨3, v2, ⟨#[]⟩⟩) O8.out HI.out
        simp only [LVal.agg] at HW ⊢
        go_wp2_with fail
        refine HW.mono ?_
        rintro e w9 ⟨rfl, ρ9, L9, hA, hF⟩
        have O9 := Lib.hid (O8.out.step hA hF)
        have K9 := Lib.hid (K8.out.step hF)
        clear HW hA hF O8 K8
        go_wp2_with fail
        refine (of_any _ v).mono ?_
        rintro e w10 ⟨rfl, hB⟩
        have O10 := Lib.hid (O9.out.below hB)
        have K10 := Lib.hid (K9.out.below hB)
        clear hB O9 K9
        have HS := lt_start (v' := ⟨3, v, ⟨#[]⟩⟩) O10.out HI.out
        simp only [LVal.agg] at HS ⊢
        go_wp2_with fail
        refine HS.mono ?_
        rintro e w11 ⟨rfl, ρ11, L11, hA, hF⟩
        have O11 := Lib.hid (O10.out.step hA hF)
        have K11 := Lib.hid (K10.out.step hF)
        clear HS hA hF O10 K10
        go_wp2_with fail
        refine (lt_read O11.out HI.out).mono ?_
        rintro e w12 ⟨rfl, hB⟩
        have hb : Below w12.heap.size w12 (w12.alloc (.cells #[.int .i64 3, .int .i64 v, .string ⟨#[]⟩] 39)) := (Below.refl _ _).alloc (Nat.le_refl _) _
        have O12 := Lib.hid ((O11.out.below hB).below hb)
        have K12 := Lib.hid ((K11.out.below hB).below hb)
        have X12 := Lib.hid (Box.new ⟨3, v, ⟨#[]⟩⟩ (O11.out.below hB).at' 39)
        clear hB hb O11 K11
        simp only [LVal.agg]
        go_wp2_with fail
        refine (of_any _ v2).mono ?_
        rintro e w13 ⟨rfl, hB⟩
        have O13 := Lib.hid (O12.out.below hB)
        have K13 := Lib.hid (K12.out.below hB)
        have X13 := Lib.hid (X12.out.below hB)
        clear hB O12 K12 X12
        have HW := lt_write (v' := ⟨3, v2, ⟨#[]⟩⟩) O13.out HI.out (by omega)
        simp only [LVal.agg] at HW ⊢
        go_wp2_with fail
        refine HW.mono ?_
        rintro e w14 ⟨rfl, ρ14, L14, hA, hF⟩
        have O14 := Lib.hid (O13.out.step hA hF)
        have K14 := Lib.hid (K13.out.step hF)
        have X14 := Lib.hid (X13.out.step hF)
        clear HW hA hF O13 K13 X13
        go_wp2_with fail
        refine (lt_read O14.out HI.out).mono ?_
        rintro e w15 ⟨rfl, hB⟩
        have e15 : lateW 1 ⟨3, v, ⟨#[]⟩⟩ ⟨3, v2, ⟨#[]⟩⟩ = ⟨3, v2, ⟨#[]⟩⟩ := rfl
        have c15 : lateC 1 = 0 := rfl
        have O14' := O14.out
        rw [e15] at O14' ⊢
        rw [c15]
        have hb : Below w15.heap.size w15 (w15.alloc (.cells #[.int .i64 3, .int .i64 v2, .string ⟨#[]⟩] 39)) := (Below.refl _ _).alloc (Nat.le_refl _) _
        have O15 := Lib.hid ((O14'.below hB).below hb)
        have K15 := Lib.hid ((K14.out.below hB).below hb)
        have X15 := Lib.hid ((X14.out.below hB).below hb)
        have Y15 := Lib.hid (Box.new ⟨3, v2, ⟨#[]⟩⟩ (O14'.below hB).at' 39)
        clear hB hb O14 O14' K14 X14 e15 c15
        simp only [LVal.agg]
        go_wp2_with fail
        obtain ⟨yb, hyb⟩ : ∃ b, b = w15.heap.size := ⟨_, rfl⟩
        obtain ⟨w16, hw16⟩ : ∃ W, W = w15.alloc (.cells #[.int .i64 3, .int .i64 v2, .string ⟨#[]⟩] 39) := ⟨_, rfl⟩
        obtain ⟨xb, hxb⟩ : ∃ b, b = w12.heap.size := ⟨_, rfl⟩
        rw [← hyb, ← hw16] at Y15
        rw [← hw16] at O15 K15 X15
        rw [← hxb] at X15
        rw [← hyb, ← hw16, ← hxb]
        obtain ⟨x0, x1, x2, _, _⟩ := X15.out
        obtain ⟨y0, y1, y2, _, _⟩ := Y15.out
        simp only at x0 x1 x2 y0 y1 y2
        clear hyb hw16 hxb
        refine wp_region_plan [(true, 0), (true, 1), (true, 2), (true, 3), (true, 4), (true, 5), (true, 6), (false, 7), (true, 8), (true, 9), (true, 10), (true, 11), (false, 12), (true, 13), (true, 14), (true, 15), (true, 16), (true, 17), (true, 18), (true, 19), (true, 20), (true, 21), (true, 22), (true, 23), (true, 24), (true, 25), (false, 26), (true, 27), (true, 28), (true, 29), (true, 30), (true, 32), (false, 31), (true, 33), (true, 34), (true, 35), (true, 36), (true, 37), (true, 38), (true, 39), (true, 40), (true, 41), (false, 42)] [43, 44, 45] (fun W => W.cell? ⟨xb, 0, none⟩ = some (.int .i64 3) ∧ W.cell? ⟨xb, 1, none⟩ = some (.int .i64 v) ∧ W.cell? ⟨xb, 2, none⟩ = some (.string ⟨#[]⟩) ∧ W.cell? ⟨yb, 0, none⟩ = some (.int .i64 3) ∧ W.cell? ⟨yb, 1, none⟩ = some (.int .i64 v2) ∧ W.cell? ⟨yb, 2, none⟩ = some (.string ⟨#[]⟩)) (by kernel_rfl) (by kernel_rfl) (fun _ _ d _ _ h => by cases d <;> exact h) ⟨x0, x1, x2, y0, y1, y2⟩ (fun hS0 => ?_)
        simp only [planOps, List.filterMap_cons, List.filterMap_nil, List.getElem?_toArray, List.getElem?_cons_zero, List.getElem?_cons_succ, Option.map_some]
        iterate 7
          first
            | (refine wpPlan_take ?_ (by rfl) (fun w' hS' => ?_) ?_; rotate_left; (obtain ⟨s0, s1, s2, s3, s4, s5⟩ := hS'; go_simp; first | done | with_reducible rfl); simp only [Act.put, List.setIfInBounds_toArray, List.set_cons_zero, List.set_cons_succ])
            | (refine wpPlan_skip (by rfl) ?_; simp only [Act.put, List.setIfInBounds_toArray, List.set_cons_zero, List.set_cons_succ])
        clear x0 x1 x2 y0 y1 y2
        refine wpPlan_go (fun K hK => ?_)
        go_simp
        refine (tell_any _ 6 (HT.out.below O15.out.drew.old)).mono ?_
        rintro e w17 ⟨rfl, hB⟩
        have O17 := Lib.hid (O15.out.drew.below hB)
        have K17 := Lib.hid (K15.out.drew.below hB)
        have X17 := Lib.hid (X15.out.drew.below hB)
        have Y17 := Lib.hid (Y15.out.drew.below hB)
        refine hK _ _ ⟨X17.out.c0, X17.out.c1, X17.out.c2, Y17.out.c0, Y17.out.c1, Y17.out.c2⟩ ?_
        clear hK K hB O15 K15 X15 Y15
        iterate 4
          first
            | (refine wpPlan_take ?_ (by rfl) (fun w' hS' => ?_) ?_; rotate_left; (obtain ⟨s0, s1, s2, s3, s4, s5⟩ := hS'; go_simp; first | done | with_reducible rfl); simp only [Act.put, List.setIfInBounds_toArray, List.set_cons_zero, List.set_cons_succ])
            | (refine wpPlan_skip (by rfl) ?_; simp only [Act.put, List.setIfInBounds_toArray, List.set_cons_zero, List.set_cons_succ])
        refine wpPlan_go (fun K hK => ?_)
        go_simp
        refine (tell_any _ 6 (HT.out.below O17.out.old)).mono ?_
        rintro e w18 ⟨rfl, hB⟩
        have O18 := Lib.hid (O17.out.below hB)
        have K18 := Lib.hid (K17.out.below hB)
        have X18 := Lib.hid (X17.out.below hB)
        have Y18 := Lib.hid (Y17.out.below hB)
        refine hK _ _ ⟨X18.out.c0, X18.out.c1, X18.out.c2, Y18.out.c0, Y18.out.c1, Y18.out.c2⟩ ?_
        clear hK K hB O17 K17 X17 Y17
        iterate 13
          first
            | (refine wpPlan_take ?_ (by rfl) (fun w' hS' => ?_) ?_; rotate_left; (obtain ⟨s0, s1, s2, s3, s4, s5⟩ := hS'; go_simp; first | done | with_reducible rfl); simp only [Act.put, List.setIfInBounds_toArray, List.set_cons_zero, List.set_cons_succ])
            | (refine wpPlan_skip (by rfl) ?_; simp only [Act.put, List.setIfInBounds_toArray, List.set_cons_zero, List.set_cons_succ])
        refine wpPlan_go (fun K hK => ?_)
        go_simp
        refine (of_any _ v).mono ?_
        rintro e w19 ⟨rfl, hB⟩
        have O19 := Lib.hid (O18.out.below hB)
        have K19 := Lib.hid (K18.out.below hB)
        have X19 := Lib.hid (X18.out.below hB)
        have Y19 := Lib.hid (Y18.out.below hB)
        refine hK _ _ ⟨X19.out.c0, X19.out.c1, X19.out.c2, Y19.out.c0, Y19.out.c1, Y19.out.c2⟩ ?_
        clear hK K hB O18 K18 X18 Y18
        simp only [LVal.agg]
        iterate 5
          first
            | (refine wpPlan_take ?_ (by rfl) (fun w' hS' => ?_) ?_; rotate_left; (obtain ⟨s0, s1, s2, s3, s4, s5⟩ := hS'; go_simp; first | done | with_reducible rfl); simp only [Act.put, List.setIfInBounds_toArray, List.set_cons_zero, List.set_cons_succ])
            | (refine wpPlan_skip (by rfl) ?_; simp only [Act.put, List.setIfInBounds_toArray, List.set_cons_zero, List.set_cons_succ])
        refine wpPlan_go (fun K hK => ?_)
        go_simp
        refine (tell_any _ 0 (HT.out.below O19.out.old)).mono ?_
        rintro e w20 ⟨rfl, hB⟩
        have O20 := Lib.hid (O19.out.below hB)
        have K20 := Lib.hid (K19.out.below hB)
        have X20 := Lib.hid (X19.out.below hB)
        have Y20 := Lib.hid (Y19.out.below hB)
        refine hK _ _ ⟨X20.out.c0, X20.out.c1, X20.out.c2, Y20.out.c0, Y20.out.c1, Y20.out.c2⟩ ?_
        clear hK K hB O19 K19 X19 Y19
        iterate 9
          first
            | (refine wpPlan_take ?_ (by rfl) (fun w' hS' => ?_) ?_; rotate_left; (obtain ⟨s0, s1, s2, s3, s4, s5⟩ := hS'; go_simp; first | done | with_reducible rfl); simp only [Act.put, List.setIfInBounds_toArray, List.set_cons_zero, List.set_cons_succ])
            | (refine wpPlan_skip (by rfl) ?_; simp only [Act.put, List.setIfInBounds_toArray, List.set_cons_zero, List.set_cons_succ])
        refine wpPlan_go (fun K hK => ?_)
        go_simp
        refine (of_any _ v2).mono ?_
        rintro e w21 ⟨rfl, hB⟩
        have O21 := Lib.hid (O20.out.below hB)
        have K21 := Lib.hid (K20.out.below hB)
        have X21 := Lib.hid (X20.out.below hB)
        have Y21 := Lib.hid (Y20.out.below hB)
        refine hK _ _ ⟨X21.out.c0, X21.out.c1, X21.out.c2, Y21.out.c0, Y21.out.c1, Y21.out.c2⟩ ?_
        clear hK K hB O20 K20 X20 Y20
        simp only [LVal.agg]
        refine wpPlan_end ?_
        go_wp2
        go_roundw
        case rel => exact ⟨1, _, ρ14, L14, by go_num, rfl, by omega, O21.out, K21.out, by simp [HL.out], fun h => hnn.out _ hnm.out h⟩
        case measure => simp [intOf]
      · go_wp2_with fail
        have hidx : l.findIdx? (LBind.is (name ++ Utf8.encode 50)) = none := idx_nil (fun b hb => by rw [HN.out (by omega) b hb]; exact enc_ne name)
        have hnn : Hid (∀ b : LBind, b.name = name ++ Utf8.encode 50 → 2 ≤ 1 → ∀ x ∈ l ++ [b], x.name = name ++ Utf8.encode 49) := (fun b hb h x hx => by omega)
        generalize name ++ Utf8.encode 50 = n at hidx hnn ⊢
        have HI := Lib.hid hidx
        clear hidx HN hz49 hz50 ck0 ck1
        refine (of_any _ v).mono ?_
        rintro e w5 ⟨rfl, hB⟩
        have O5 := Lib.hid (O4.out.below hB)
        have K5 := Lib.hid (K4.out.below hB)
        clear hB O4 K4
        have HD := lt_declare (n := n) (v := ⟨3, v, ⟨#[]⟩⟩) (kd := 2) O5.out HI.out (by omega) (by have := HL.out; omega)
        simp only [LVal.agg] at HD ⊢
        go_wp2_with fail
        refine HD.mono ?_
        rintro e w6 ⟨rfl, ρ6, L6, hA, hF⟩
        have O6 := Lib.hid (O5.out.step hA hF)
        have K6 := Lib.hid (K5.out.step hF)
        clear HD hA hF O5 K5
        go_wp2_with fail
        refine (lt_read0 O6.out HI.out).mono ?_
        rintro e w7 ⟨rfl, hB⟩
        have hb : Below w7.heap.size w7 (w7.alloc (.cells #[.int .i64 0, .int .i64 0, .string ⟨#[]⟩] 39)) := (Below.refl _ _).alloc (Nat.le_refl _) _
        have O7 := Lib.hid ((O6.out.below hB).below hb)
        have K7 := Lib.hid ((K6.out.below hB).below hb)
        clear hB hb O6 K6
        go_wp2_with fail
        refine (of_any _ v2).mono ?_
        rintro e w8 ⟨rfl, hB⟩
        have O8 := Lib.hid (O7.out.below hB)
        have K8 := Lib.hid (K7.out.below hB)
        clear hB O7 K7
        have HW := lt_write0 (v' := ⟨3, v2, ⟨#[]⟩⟩) O8.out HI.out
        simp only [LVal.agg] at HW ⊢
        go_wp2_with fail
        refine HW.mono ?_
        rintro e w9 ⟨rfl, ρ9, L9, hA, hF⟩
        have O9 := Lib.hid (O8.out.step hA hF)
        have K9 := Lib.hid (K8.out.step hF)
        clear HW hA hF O8 K8
        go_wp2_with fail
        refine (of_any _ v).mono ?_
        rintro e w10 ⟨rfl, hB⟩
        have O10 := Lib.hid (O9.out.below hB)
        have K10 := Lib.hid (K9.out.below hB)
        clear hB O9 K9
        have HS := lt_start (v' := ⟨3, v, ⟨#[]⟩⟩) O10.out HI.out
        simp only [LVal.agg] at HS ⊢
        go_wp2_with fail
        refine HS.mono ?_
        rintro e w11 ⟨rfl, ρ11, L11, hA, hF⟩
        have O11 := Lib.hid (O10.out.step hA hF)
        have K11 := Lib.hid (K10.out.step hF)
        clear HS hA hF O10 K10
        go_wp2_with fail
        refine (lt_read O11.out HI.out).mono ?_
        rintro e w12 ⟨rfl, hB⟩
        have hb : Below w12.heap.size w12 (w12.alloc (.cells #[.int .i64 3, .int .i64 v, .string ⟨#[]⟩] 39)) := (Below.refl _ _).alloc (Nat.le_refl _) _
        have O12 := Lib.hid ((O11.out.below hB).below hb)
        have K12 := Lib.hid ((K11.out.below hB).below hb)
        have X12 := Lib.hid (Box.new ⟨3, v, ⟨#[]⟩⟩ (O11.out.below hB).at' 39)
        clear hB hb O11 K11
        simp only [LVal.agg]
        go_wp2_with fail
        refine (of_any _ v2).mono ?_
        rintro e w13 ⟨rfl, hB⟩
        have O13 := Lib.hid (O12.out.below hB)
        have K13 := Lib.hid (K12.out.below hB)
        have X13 := Lib.hid (X12.out.below hB)
        clear hB O12 K12 X12
        have HW := lt_write (v' := ⟨3, v2, ⟨#[]⟩⟩) O13.out HI.out (by omega)
        simp only [LVal.agg] at HW ⊢
        go_wp2_with fail
        refine HW.mono ?_
        rintro e w14 ⟨rfl, ρ14, L14, hA, hF⟩
        have O14 := Lib.hid (O13.out.step hA hF)
        have K14 := Lib.hid (K13.out.step hF)
        have X14 := Lib.hid (X13.out.step hF)
        clear HW hA hF O13 K13 X13
        go_wp2_with fail
        refine (lt_read O14.out HI.out).mono ?_
        rintro e w15 ⟨rfl, hB⟩
        have e15 : lateW 2 ⟨3, v, ⟨#[]⟩⟩ ⟨3, v2, ⟨#[]⟩⟩ = ⟨3, v, ⟨#[]⟩⟩ := rfl
        have c15 : lateC 2 = 1 := rfl
        have O14' := O14.out
        rw [e15] at O14' ⊢
        rw [c15]
        have hb : Below w15.heap.size w15 (w15.alloc (.cells #[.int .i64 3, .int .i64 v, .string ⟨#[]⟩] 39)) := (Below.refl _ _).alloc (Nat.le_refl _) _
        have O15 := Lib.hid ((O14'.below hB).below hb)
        have K15 := Lib.hid ((K14.out.below hB).below hb)
        have X15 := Lib.hid ((X14.out.below hB).below hb)
        have Y15 := Lib.hid (Box.new ⟨3, v, ⟨#[]⟩⟩ (O14'.below hB).at' 39)
        clear hB hb O14 O14' K14 X14 e15 c15
        simp only [LVal.agg]
        go_wp2_with fail
        obtain ⟨yb, hyb⟩ : ∃ b, b = w15.heap.size := ⟨_, rfl⟩
        obtain ⟨w16, hw16⟩ : ∃ W, W = w15.alloc (.cells #[.int .i64 3, .int .i64 v, .string ⟨#[]⟩] 39) := ⟨_, rfl⟩
        obtain ⟨xb, hxb⟩ : ∃ b, b = w12.heap.size := ⟨_, rfl⟩
        rw [← hyb, ← hw16] at Y15
        rw [← hw16] at O15 K15 X15
        rw [← hxb] at X15
        rw [← hyb, ← hw16, ← hxb]
        obtain ⟨x0, x1, x2, _, _⟩ := X15.out
        obtain ⟨y0, y1, y2, _, _⟩ := Y15.out
        simp only at x0 x1 x2 y0 y1 y2
        clear hyb hw16 hxb
        refine wp_region_plan [(true, 0), (true, 1), (true, 2), (true, 3), (true, 4), (true, 5), (true, 6), (false, 7), (true, 8), (true, 9), (true, 10), (true, 11), (false, 12), (true, 13), (true, 14), (true, 15), (true, 16), (true, 17), (true, 18), (true, 19), (true, 20), (true, 21), (true, 22), (true, 23), (true, 24), (true, 25), (false, 26), (true, 27), (true, 28), (true, 29), (true, 30), (true, 32), (false, 31), (true, 33), (true, 34), (true, 35), (true, 36), (true, 37), (true, 38), (true, 39), (true, 40), (true, 41), (false, 42)] [43, 44, 45] (fun W => W.cell? ⟨xb, 0, none⟩ = some (.int .i64 3) ∧ W.cell? ⟨xb, 1, none⟩ = some (.int .i64 v) ∧ W.cell? ⟨xb, 2, none⟩ = some (.string ⟨#[]⟩) ∧ W.cell? ⟨yb, 0, none⟩ = some (.int .i64 3) ∧ W.cell? ⟨yb, 1, none⟩ = some (.int .i64 v) ∧ W.cell? ⟨yb, 2, none⟩ = some (.string ⟨#[]⟩)) (by kernel_rfl) (by kernel_rfl) (fun _ _ d _ _ h => by cases d <;> exact h) ⟨x0, x1, x2, y0, y1, y2⟩ (fun hS0 => ?_)
        simp only [planOps, List.filterMap_cons, List.filterMap_nil, List.getElem?_toArray, List.getElem?_cons_zero, List.getElem?_cons_succ, Option.map_some]
        iterate 7
          first
            | (refine wpPlan_take ?_ (by rfl) (fun w' hS' => ?_) ?_; rotate_left; (obtain ⟨s0, s1, s2, s3, s4, s5⟩ := hS'; go_simp; first | done | with_reducible rfl); simp only [Act.put, List.setIfInBounds_toArray, List.set_cons_zero, List.set_cons_succ])
            | (refine wpPlan_skip (by rfl) ?_; simp only [Act.put, List.setIfInBounds_toArray, List.set_cons_zero, List.set_cons_succ])
        clear x0 x1 x2 y0 y1 y2
        refine wpPlan_go (fun K hK => ?_)
        go_simp
        refine (tell_any _ 6 (HT.out.below O15.out.drew.old)).mono ?_
        rintro e w17 ⟨rfl, hB⟩
        have O17 := Lib.hid (O15.out.drew.below hB)
        have K17 := Lib.hid (K15.out.drew.below hB)
        have X17 := Lib.hid (X15.out.drew.below hB)
        have Y17 := Lib.hid (Y15.out.drew.below hB)
        refine hK _ _ ⟨X17.out.c0, X17.out.c1, X17.out.c2, Y17.out.c0, Y17.out.c1, Y17.out.c2⟩ ?_
        clear hK K hB O15 K15 X15 Y15
        iterate 4
          first
            | (refine wpPlan_take ?_ (by rfl) (fun w' hS' => ?_) ?_; rotate_left; (obtain ⟨s0, s1, s2, s3, s4, s5⟩ := hS'; go_simp; first | done | with_reducible rfl); simp only [Act.put, List.setIfInBounds_toArray, List.set_cons_zero, List.set_cons_succ])
            | (refine wpPlan_skip (by rfl) ?_; simp only [Act.put, List.setIfInBounds_toArray, List.set_cons_zero, List.set_cons_succ])
        refine wpPlan_go (fun K hK => ?_)
        go_simp
        refine (tell_any _ 6 (HT.out.below O17.out.old)).mono ?_
        rintro e w18 ⟨rfl, hB⟩
        have O18 := Lib.hid (O17.out.below hB)
        have K18 := Lib.hid (K17.out.below hB)
        have X18 := Lib.hid (X17.out.below hB)
        have Y18 := Lib.hid (Y17.out.below hB)
        refine hK _ _ ⟨X18.out.c0, X18.out.c1, X18.out.c2, Y18.out.c0, Y18.out.c1, Y18.out.c2⟩ ?_
        clear hK K hB O17 K17 X17 Y17
        iterate 13
          first
            | (refine wpPlan_take ?_ (by rfl) (fun w' hS' => ?_) ?_; rotate_left; (obtain ⟨s0, s1, s2, s3, s4, s5⟩ := hS'; go_simp; first | done | with_reducible rfl); simp only [Act.put, List.setIfInBounds_toArray, List.set_cons_zero, List.set_cons_succ])
            | (refine wpPlan_skip (by rfl) ?_; simp only [Act.put, List.setIfInBounds_toArray, List.set_cons_zero, List.set_cons_succ])
        refine wpPlan_go (fun K hK => ?_)
        go_simp
        refine (of_any _ v).mono ?_
        rintro e w19 ⟨rfl, hB⟩
        have O19 := Lib.hid (O18.out.below hB)
        have K19 := Lib.hid (K18.out.below hB)
        have X19 := Lib.hid (X18.out.below hB)
        have Y19 := Lib.hid (Y18.out.below hB)
        refine hK _ _ ⟨X19.out.c0, X19.out.c1, X19.out.c2, Y19.out.c0, Y19.out.c1, Y19.out.c2⟩ ?_
        clear hK K hB O18 K18 X18 Y18
        simp only [LVal.agg]
        iterate 5
          first
            | (refine wpPlan_take ?_ (by rfl) (fun w' hS' => ?_) ?_; rotate_left; (obtain ⟨s0, s1, s2, s3, s4, s5⟩ := hS'; go_simp; first | done | with_reducible rfl); simp only [Act.put, List.setIfInBounds_toArray, List.set_cons_zero, List.set_cons_succ])
            | (refine wpPlan_skip (by rfl) ?_; simp only [Act.put, List.setIfInBounds_toArray, List.set_cons_zero, List.set_cons_succ])
        refine wpPlan_go (fun K hK => ?_)
        go_simp
        refine (tell_any _ 1 (HT.out.below O19.out.old)).mono ?_
        rintro e w20 ⟨rfl, hB⟩
        have O20 := Lib.hid (O19.out.below hB)
        have K20 := Lib.hid (K19.out.below hB)
        have X20 := Lib.hid (X19.out.below hB)
        have Y20 := Lib.hid (Y19.out.below hB)
        refine hK _ _ ⟨X20.out.c0, X20.out.c1, X20.out.c2, Y20.out.c0, Y20.out.c1, Y20.out.c2⟩ ?_
        clear hK K hB O19 K19 X19 Y19
        iterate 9
          first
            | (refine wpPlan_take ?_ (by rfl) (fun w' hS' => ?_) ?_; rotate_left; (obtain ⟨s0, s1, s2, s3, s4, s5⟩ := hS'; go_simp; first | done | with_reducible rfl); simp only [Act.put, List.setIfInBounds_toArray, List.set_cons_zero, List.set_cons_succ])
            | (refine wpPlan_skip (by rfl) ?_; simp only [Act.put, List.setIfInBounds_toArray, List.set_cons_zero, List.set_cons_succ])
        refine wpPlan_go (fun K hK => ?_)
        go_simp
        refine (of_any _ v).mono ?_
        rintro e w21 ⟨rfl, hB⟩
        have O21 := Lib.hid (O20.out.below hB)
        have K21 := Lib.hid (K20.out.below hB)
        have X21 := Lib.hid (X20.out.below hB)
        have Y21 := Lib.hid (Y20.out.below hB)
        refine hK _ _ ⟨X21.out.c0, X21.out.c1, X21.out.c2, Y21.out.c0, Y21.out.c1, Y21.out.c2⟩ ?_
        clear hK K hB O20 K20 X20 Y20
        simp only [LVal.agg]
        refine wpPlan_end ?_
        go_wp2
        go_roundw
        case rel => exact ⟨2, _, ρ14, L14, by go_num, rfl, by omega, O21.out, K21.out, by simp [HL.out], fun h => by omega⟩
        case measure => simp [intOf]
end Go.Proofs.YtgoaljfhciimhaaDoor
