/- The law HeapShadows, walked. -/
import Derived.Test.YtgoaljfhciimhaaHeapO
namespace Go.Proofs.Ytgoaljfhciimhaa
open Go Go.RowKit

theorem Try.infoInt : (Try.prog.info? 3).map (fun i => (i.zero, i.size, i.bytes)) = some (some (.int .i64 0), 1, 8) := by kernel_rfl

def ints (k : Nat) : List Value := (List.range k).map fun (i : Nat) => .int .i64 (i : Int)
theorem ints_len (k : Nat) : (ints k).length = k := by simp [ints]
theorem ints_succ (k : Nat) : ints (k + 1) = ints k ++ [.int .i64 k] := by simp [ints, List.range_succ]
theorem ints_get {k i : Nat} (h : i < k) : (ints k)[i]? = some (.int .i64 i) := by simp [ints, h]

/-- the numbers of the scopes, as they lie -/
structure Row (w0 : World) (ρ : Nat → Option Role) (w : World) (gs c k : Nat) : Prop where
  own : w.ownsRow 0 3 1 (.slice (some ⟨gs, 0, none⟩) k c) k (ints k)
  far : ρ gs = none
  new : w0.heap.size ≤ gs
  lt : gs < w.heap.size
theorem Row.cell {w0 w : World} {ρ : Nat → Option Role} {gs c k : Nat} (r : Row w0 ρ w gs c k) {i : Nat} (h : i < k) : w.cell? ⟨gs, i, none⟩ = some (.int .i64 i) := ownsRow_cell1 r.own (g := gs) rfl (ints_get h)
theorem Row.step {w0 w w' : World} {ρ ρ' : Nat → Option Role} {hb gs c k : Nat} (r : Row w0 ρ w gs c k) (f : Fr ρ ρ' hb 0 w w') : Row w0 ρ' w' gs c k :=
  ⟨ownsRow_block r.own fun g hg => by cases hg; exact f.block gs r.lt r.far, f.role gs r.lt r.far, r.new, Nat.lt_of_lt_of_le r.lt f.size⟩
theorem Row.below {w0 w w' : World} {ρ : Nat → Option Role} {gs c k : Nat} (r : Row w0 ρ w gs c k) (f : Below w.heap.size w w') : Row w0 ρ w' gs c k :=
  ⟨ownsRow_block r.own fun g hg => by cases hg; exact f.block gs r.lt, r.far, r.new, Nat.lt_of_lt_of_le r.lt f.size⟩
theorem Row.drew {w0 w : World} {ρ : Nat → Option Role} {gs c k : Nat} (r : Row w0 ρ w gs c k) : Row w0 ρ w.drew gs c k := r.below ((Below.refl _ _).drew)

theorem Row.grew {w0 w w' : World} {ρ : Nat → Option Role} {hb gs c k g cap : Nat} {L : HL} {H : LHeap} {T : TypeId} {x : Value} (r : Row w0 ρ w gs c (k + 1)) (o : Own w0 ρ w hb L H) (_hg : (w.alloc (.cells #[x] T)).grownBy w' (Value.slice (some ⟨gs, 0, none⟩) (k + 1) c).ownBlock)
    (hw : w'.ownsRow 0 3 1 (.slice (some ⟨g, 0, none⟩) (k + 1 + 1) cap) (k + 1 + 1) (ints (k + 1) ++ [.int .i64 ((k : Int) + 1)])) (ht : (Value.slice (some ⟨gs, 0, none⟩) (k + 1) c).ownBlock = some g ∨ g = w.heap.size + 1) (hl : g < w'.heap.size) : Row w0 ρ w' g cap (k + 1 + 1) := by
  refine ⟨by rw [ints_succ (k + 1)]; exact hw, ?_, ?_, hl⟩
  · rcases ht with h | h
    · cases h; exact r.far
    · exact o.at'.fresh (by omega)
  · rcases ht with h | h
    · cases h; exact r.new
    · have := o.old.size; omega


theorem loop_scope {w0 w : World} {ρ : Nat → Option Role} {hb k : Nat} {L : HL} {B0 : List LBind} (o : Own w0 ρ w hb L (chainH (k + 1) (updB noB 0 B0))) (hk : k < 1000) :
    Calls Try.prog 5 #[.pointer (some ⟨hb, 0, none⟩), .int .i64 k, .int .i64 (-1)] w fun e w' => e = .returned (.int .i64 ((k : Int) + 1)) ∧ ∃ ρ' L', HeapAt ρ' w' hb 0 L' (chainH (k + 1 + 1) (updB noB 0 B0)) ∧ Fr ρ ρ' hb 0 w w' := by
  have h := newScope_any o.at' (k : Int) (-1) (by rw [chain_len]; omega)
  rw [chain_len] at h
  have e := chain_add (n := k + 1) (B := updB noB 0 B0) (by simp [updB, noB])
  rw [show ((k + 1 : Nat) : Int) - 1 = k by omega] at e
  rw [e] at h
  exact h

set_option maxHeartbeats 20000000 in
set_option maxRecDepth 100000 in
theorem shadows_walk (w : World) (deep at' : Int) (name : ByteArray) (v v2 : Int) :
    Calls Try.prog 3 #[.int .i64 deep, .int .i64 at', .string name, .int .i64 v, .int .i64 v2] w fun e w' => e = .returned (.bool true) ∧ Below w.heap.size w w' := by
  have HP := Lib.hid (fun w => pick_any w deep 10 (by omega) (by omega))
  have HQ := Lib.hid (fun w n => pick_any w at' n)
  obtain ⟨i0, hi, hz0, hz1, hz2⟩ := info_parts Try.infoInt
  by_cases hlen : 20 < name.size
  · go_enter Try.func3, Try.ntmps3
    go_wp2_with fail
    refine (HP.out _).mono ?_
    rintro e w1 ⟨⟨r, hr, rfl⟩, rfl⟩
    go_wp2
    go_ret
    exact ⟨rfl, Below.refl _ _⟩
  · obtain ⟨ρ, L, h0, hr⟩ := heap_new w 26
    have o0 : Own w ρ (w.alloc (.cells #[.slice none 0 0, .slice none 0 0] 26)) w.heap.size L .empty :=
      ⟨h0, (Below.refl _ _).alloc (Nat.le_refl _) _, fun b hb => hr b (by omega)⟩
    have HC := newScope_any h0 (-1) (-1) (by simp [LHeap.empty])
    rw [empty_chain] at HC
    have HC := Lib.hid (HC.mono (R' := fun e w' => e = .returned (.int .i64 0) ∧ ∃ ρ' L', HeapAt ρ' w' w.heap.size 0 L' (chainH 1 noB) ∧ Fr ρ ρ' w.heap.size 0 (w.alloc (.cells #[.slice none 0 0, .slice none 0 0] 26)) w') (fun e w' h => ⟨h.1.trans (ret_int rfl), h.2⟩))
    have O0 := Lib.hid o0
    clear h0 hr o0
    go_enter Try.func3, Try.ntmps3
    go_wp2_with fail
    refine (HP.out _).mono ?_
    rintro e w1 ⟨⟨r, hr, rfl⟩, hw1⟩
    rw [hw1]
    clear hw1 w1
    go_wp2_with fail
    refine HC.out.mono ?_
    rintro e w1 ⟨rfl, ρ1, L1, hA1, hF1⟩
    have O1 := Lib.hid (O0.out.step hA1 hF1)
    clear HC O0 hA1 hF1
    have r1 : Row w ρ1 (w1.alloc (.cells #[.int .i64 0] 3)) w1.heap.size 1 1 :=
      ⟨World.ownsRow_lit w1 #[.int .i64 0] 1 (Nat.zero_le _) (by decide) rfl, O1.out.at'.fresh (Nat.le_refl _), O1.out.old.size, by simp⟩
    have O2 := Lib.hid (O1.out.below ((Below.refl _ _).alloc (Nat.le_refl _) (.cells #[.int .i64 0] 3)))
    go_wp2_with fail
    obtain ⟨gs, hgs⟩ : ∃ g, g = w1.heap.size := ⟨_, rfl⟩
    obtain ⟨w2, hw2⟩ : ∃ W, W = w1.alloc (.cells #[.int .i64 0] 3) := ⟨_, rfl⟩
    rw [← hgs, ← hw2] at r1
    rw [← hw2] at O2
    rw [← hgs, ← hw2]
    clear O1 hgs hw2 w1
    have c0 := r1.cell (i := 0) (by omega)
    have R2 := Lib.hid r1
    clear r1
    refine wp_region_plan [(true, 0), (true, 1), (true, 2), (true, 3), (true, 4), (false, 5)] [6, 7] (fun W => W.cell? ⟨gs, 0, none⟩ = some (.int .i64 0)) (by kernel_rfl) (by kernel_rfl) (fun _ _ d _ _ h => by cases d <;> exact h) c0 (fun hS0 => ?_)
    simp only [planOps, List.filterMap_cons, List.filterMap_nil, List.getElem?_toArray, List.getElem?_cons_zero, List.getElem?_cons_succ, Option.map_some]
    iterate 5
      first
        | (refine wpPlan_take ?_ (by rfl) (fun w' hS' => ?_) ?_; rotate_left; (have s0 := hS'; go_simp; first | done | with_reducible rfl); simp only [Act.put, List.setIfInBounds_toArray, List.set_cons_zero, List.set_cons_succ])
        | (refine wpPlan_skip (by rfl) ?_; simp only [Act.put, List.setIfInBounds_toArray, List.set_cons_zero, List.set_cons_succ])
    refine wpPlan_go (fun K hK => ?_)
    go_simp
    refine (of_any _ v).mono ?_
    rintro e w3 ⟨rfl, hB⟩
    have R3 := Lib.hid (R2.out.drew.below hB)
    have O3 := Lib.hid (O2.out.drew.below hB)
    have c0' := R3.out.cell (i := 0) (by omega)
    refine hK _ _ c0' ?_
    clear hK K hB R2 O2 c0 c0'
    simp only [LVal.agg]
    refine wpPlan_end ?_
    have HD := declare_any O3.out.at' ((0 : Nat) : Int) name 0 ⟨3, v, ⟨#[]⟩⟩ (chain_lens (fun _ => by simp [noB]))
    rw [chain_declare (by omega) (by rw [chain_has (by omega)]; rfl) (by decide) (by decide)] at HD
    have HD := Lib.hid HD
    go_wp2_with fail
    refine HD.out.mono ?_
    rintro e w4 ⟨rfl, ρ4, L4, hA4, hF4⟩
    have O4 := Lib.hid (O3.out.step hA4 hF4)
    have R4 := Lib.hid (R3.out.step hF4)
    clear HD O3 R3 hA4 hF4
    rw [errV0]
    have R4 : Row w ρ4 w4 gs 1 1 := R4.out
    have O4 : Own w ρ4 w4 w.heap.size L4 (chainH 1 (oneB name v)) := O4.out
    have hst : ∃ (k : Nat) (ρ' : Nat → Option Role) (L' : HL) (gs' c : Nat), Value.int .i64 1 = .int .i64 ((k : Int) + 1) ∧ Value.slice (some ⟨gs, 0, none⟩) 1 1 = .slice (some ⟨gs', 0, none⟩) (k + 1) c ∧ k ≤ r + 1 ∧ Row w ρ' w4 gs' c (k + 1) ∧ Own w ρ' w4 w.heap.size L' (chainH (k + 1) (oneB name v)) :=
      ⟨0, ρ4, L4, gs, 1, rfl, rfl, by omega, R4, O4⟩
    have ST := Lib.hid hst
    clear hst R4 O4
    go_wp2
    go_loopw [12, 14] (fun sl i wr => ∃ (k : Nat) (ρ' : Nat → Option Role) (L' : HL) (gs' c : Nat), i = .int .i64 ((k : Int) + 1) ∧ sl = .slice (some ⟨gs', 0, none⟩) (k + 1) c ∧ k ≤ r + 1 ∧ Row w ρ' wr gs' c (k + 1) ∧ Own w ρ' wr w.heap.size L' (chainH (k + 1) (oneB name v))) (fun _ i _ => r + 2 - (intOf i).toNat)
    case atStart => exact ST.out
    case round =>
      obtain ⟨k, ρ5, L5, g5, c5, rfl, rfl, hk, hR, hO⟩ := hrel
      have R5 := Lib.hid hR
      have O5 := Lib.hid hO
      clear hR hO ST
      by_cases hlt : k < r + 1
      · have hlti : (k : Int) + 1 < 2 + r := by omega
        have hc := R5.out.cell (i := k) (by omega)
        have HN := Lib.hid (loop_scope O5.out (by omega))
        go_wp2_with fail
        refine HN.out.mono ?_
        rintro e w6 ⟨rfl, ρ6, L6, hA6, hF6⟩
        have O6 := Lib.hid (O5.out.step hA6 hF6)
        have hR6 := R5.out.step hF6
        have HO := Lib.hid (hR6.own.alloc (.cells #[.int .i64 ((k : Int) + 1)] 3))
        have hg6 := hR6.lt
        have R6 := Lib.hid hR6
        clear HN O5 R5 hc hA6 hF6 hR6
        go_wp2_with (at_builtin; go_must (refine wpList_append_lies _ rfl (.tmp 41) (.tmp 48) 27 rfl 0 3 i0 (.int .i64 0) 1 8 Try.underlying27 hi hz0 hz1 hz2 rfl (by decide) (.slice (some ⟨g5, 0, none⟩) (k + 1) c5) (k + 1) (ints (k + 1)) rfl HO.out ⟨w6.heap.size, 0, none⟩ 1 1 [.int .i64 ((k : Int) + 1)] rfl rfl (fun j u hu => cell_one_new w6 _ _ j u hu) (by intro u hu; simp at hu; subst hu; rfl) (by omega) (by unfold maxLen; omega) (by omega) (by omega) (w6.heap.size + 1) (by simp) ?_); intro g cap w7 hown7 hgrow7 hat7 hgl7; have HG := Lib.hid hgrow7; have HW := Lib.hid hown7; have HT := Lib.hid hat7; have HGL := Lib.hid hgl7; clear hgrow7 hown7 hat7 hgl7)
        go_roundw
        case rel =>
          refine ⟨k + 1, ρ6, L6, g, cap, by go_num, rfl, by omega, ?_, ?_⟩
          · exact R6.out.grew O6.out HG.out HW.out HT.out HGL.out
          · have hfar := R6.out.far
            have hnew := R6.out.new
            exact (O6.out.below ((Below.refl _ _).alloc (Nat.le_refl _) _)).grown HG.out (fun b hb => by simp only [Value.ownBlock, Option.some.injEq] at hb; subst hb; exact ⟨hfar, hnew⟩)
        case measure => simp [intOf]; omega
      · have hkr : k = r + 1 := by omega
        subst hkr
        have hc : wr.cell? ⟨g5, 1 + r, none⟩ = some (.int .i64 ((r + 1 : Nat) : Int)) := by rw [Nat.add_comm 1 r]; exact R5.out.cell (i := r + 1) (by omega)
        generalize hla : ((r + 1 : Nat) : Int) = la at hc
        have c0 := R5.out.cell (i := 0) (by omega)
        have R6 := Lib.hid (R5.out)
        have O6 := Lib.hid (O5.out)
        clear R5 O5
        go_wp2_with fail
        obtain ⟨nn, hnn⟩ : ∃ nn, nn = r + 1 + 1 := ⟨_, rfl⟩
        rw [← hnn]
        have hn0 : 0 < nn := by omega
        have hn1 : (0 : Int) < nn := by omega
        have HNN := Lib.hid hnn
        have HLA := Lib.hid hla
        clear hnn hla
        refine wp_region_plan [(false, 0), (true, 1), (true, 2), (true, 3), (true, 4), (true, 5), (true, 6), (true, 7), (true, 8), (true, 10), (true, 11), (true, 12), (false, 9)] [13, 14] (fun W => W.cell? ⟨g5, 0, none⟩ = some (.int .i64 0)) (by kernel_rfl) (by kernel_rfl) (fun _ _ d _ _ h => by cases d <;> exact h) c0 (fun hS0 => ?_)
        simp only [planOps, List.filterMap_cons, List.filterMap_nil, List.getElem?_toArray, List.getElem?_cons_zero, List.getElem?_cons_succ, Option.map_some]
        refine wpPlan_go (fun K hK => ?_)
        go_simp
        refine (heaped_any _).mono ?_
        rintro e w7 ⟨rfl, hB⟩
        have R7 := Lib.hid (R6.out.drew.below hB)
        have O7 := Lib.hid (O6.out.drew.below hB)
        have c0 := R7.out.cell (i := 0) (by omega)
        refine hK _ _ c0 ?_
        clear hK K hB R6 O6 hc
        iterate 11
          first
            | (refine wpPlan_take ?_ (by rfl) (fun w' hS' => ?_) ?_; rotate_left; (have s0 := hS'; go_simp; first | done | with_reducible rfl); simp only [Act.put, List.setIfInBounds_toArray, List.set_cons_zero, List.set_cons_succ])
            | (refine wpPlan_skip (by rfl) ?_; simp only [Act.put, List.setIfInBounds_toArray, List.set_cons_zero, List.set_cons_succ])
        refine wpPlan_go (fun K hK => ?_)
        go_simp
        have HF := sh_find1 O7.out (m := r + 1) (by omega)
        rw [HLA.out] at HF
        refine HF.mono ?_
        rintro e w8 ⟨rfl, hB⟩
        have R8 := Lib.hid (R7.out.below hB)
        have O8 := Lib.hid (O7.out.below hB)
        have c0 := R8.out.cell (i := 0) (by omega)
        refine hK _ _ c0 ?_
        clear hK K hB R7 O7 HF
        refine wpPlan_end ?_
        go_wp2_with fail
        have HP := (HQ.out w8 (r + 1) (by omega) (by omega))
        rw [show ((r + 1 : Nat) : Int) = 2 + r - 1 by omega] at HP
        refine HP.mono ?_
        rintro e w9 ⟨⟨q, hq, rfl⟩, rfl⟩
        have hc : w9.cell? ⟨g5, 1 + q, none⟩ = some (.int .i64 ((q + 1 : Nat) : Int)) := by rw [Nat.add_comm 1 q]; exact R8.out.cell (i := q + 1) (by omega)
        obtain ⟨inn, hin⟩ : ∃ i, ((q + 1 : Nat) : Int) = i := ⟨_, rfl⟩
        rw [hin] at hc
        have HIN := Lib.hid hin
        clear hin
        have hq1 : 1 + q < nn := by have := HNN.out; omega
        have hq2 : (1 : Int) + q < nn := by omega
        go_wp2_with fail
        have hm0 : 0 < q + 1 := by omega
        have hml : q + 1 ≤ r + 1 := by omega
        have hmn : q + 1 < r + 1 + 1 := by omega
        have hrn : r + 1 < r + 1 + 1 := by omega
        clear HP hc
        refine (of_any _ v2).mono ?_
        rintro e w10 ⟨rfl, hB⟩
        have R10 := Lib.hid (R8.out.below hB)
        have O10 := Lib.hid (O8.out.below hB)
        clear hB R8 O8 c0
        simp only [LVal.agg]
        go_wp2_with fail
        have HD := sh_declare (x := ⟨3, v2, ⟨#[]⟩⟩) O10.out hm0 hmn
        rw [HIN.out] at HD
        refine HD.mono ?_
        rintro e w11 ⟨rfl, ρ11, L11, hA, hF⟩
        have O11 := Lib.hid (O10.out.step hA hF)
        have R11 := Lib.hid (R10.out.step hF)
        clear HD hA hF O10 R10
        go_wp2_with fail
        have HF := sh_find2 O11.out hm0 hml hrn
        rw [HLA.out, HIN.out] at HF
        refine HF.mono ?_
        rintro e w12 ⟨rfl, hB⟩
        have R12 := Lib.hid (R11.out.below hB)
        have O12 := Lib.hid (O11.out.below hB)
        clear HF hB R11 O11
        go_wp2_with fail
        refine (say_any _ _).mono ?_
        rintro e w13 ⟨rfl, hB⟩
        have R13 := Lib.hid (R12.out.below hB)
        have O13 := Lib.hid (O12.out.below hB)
        clear hB R12 O12
        simp only [LVal.agg]
        go_wp2_with fail
        have HW := sh_write (x' := ⟨4, 0, ⟨#[120]⟩⟩) O13.out hmn
        rw [HIN.out] at HW
        refine HW.mono ?_
        rintro e w14 ⟨rfl, ρ14, L14, hA, hF⟩
        have O14 := Lib.hid (O13.out.step hA hF)
        have R14 := Lib.hid (R13.out.step hF)
        clear HW hA hF O13 R13
        go_wp2_with fail
        have HR := sh_read O14.out hmn
        rw [HIN.out] at HR
        refine HR.mono ?_
        rintro e w15 ⟨rfl, hB⟩
        have hb : Below w15.heap.size w15 (w15.alloc (.cells #[.int .i64 4, .int .i64 0, .string ⟨#[120]⟩] 32)) := (Below.refl _ _).alloc (Nat.le_refl _) _
        have R15 := Lib.hid ((R14.out.below hB).below hb)
        have O15 := Lib.hid ((O14.out.below hB).below hb)
        have X15 := Lib.hid (Box.new ⟨4, 0, ⟨#[120]⟩⟩ (O14.out.below hB).at' 32)
        have c0 := R15.out.cell (i := 0) (by omega)
        clear HR hB hb R14 O14
        simp only [LVal.agg]
        go_wp2_with fail
        obtain ⟨xb, hxb⟩ : ∃ b, b = w15.heap.size := ⟨_, rfl⟩
        obtain ⟨w16, hw16⟩ : ∃ W, W = w15.alloc (.cells #[.int .i64 4, .int .i64 0, .string ⟨#[120]⟩] 32) := ⟨_, rfl⟩
        rw [← hxb, ← hw16] at X15
        rw [← hw16] at R15 O15
        rw [← hxb, ← hw16]
        have O16 := O15
        have R16 := R15
        have X16 := X15
        have c0 := R16.out.cell (i := 0) (by omega)
        clear hxb hw16 O15 R15 X15
        go_wp2_with fail
        have HR := sh_read0 O16.out hm0 hmn
        refine HR.mono ?_
        rintro e w17 ⟨rfl, hB⟩
        have hb : Below w17.heap.size w17 (w17.alloc (.cells #[.int .i64 3, .int .i64 v, .string ⟨#[]⟩] 32)) := (Below.refl _ _).alloc (Nat.le_refl _) _
        have R17 := Lib.hid ((R16.out.below hB).below hb)
        have O17 := Lib.hid ((O16.out.below hB).below hb)
        have X17 := Lib.hid ((X16.out.below hB).below hb)
        have Y17 := Lib.hid (Box.new ⟨3, v, ⟨#[]⟩⟩ (O16.out.below hB).at' 32)
        clear HR hB hb R16 O16 X16
        go_wp2_with fail
        obtain ⟨yb, hyb⟩ : ∃ b, b = w17.heap.size := ⟨_, rfl⟩
        obtain ⟨w18, hw18⟩ : ∃ W, W = w17.alloc (.cells #[.int .i64 3, .int .i64 v, .string ⟨#[]⟩] 32) := ⟨_, rfl⟩
        rw [← hyb, ← hw18] at Y17
        rw [← hw18] at R17 O17 X17
        rw [← hyb, ← hw18]
        have c0 := R17.out.cell (i := 0) (by omega)
        obtain ⟨x0, x1, x2, _, _⟩ := X17.out
        obtain ⟨y0, y1, y2, _, _⟩ := Y17.out
        simp only at x0 x1 x2 y0 y1 y2
        clear hyb hw18
        refine wp_region_plan [(true, 0), (true, 1), (true, 2), (true, 3), (true, 4), (true, 5), (true, 6), (true, 7), (false, 8), (true, 9), (true, 10), (true, 11), (true, 12), (true, 13), (false, 14), (true, 15), (true, 16), (true, 17), (true, 18), (true, 19), (false, 20), (true, 21), (true, 22), (true, 23), (true, 24), (true, 26), (true, 27), (true, 28), (false, 25), (true, 29), (true, 30), (true, 31), (true, 32), (true, 33), (true, 34), (true, 35)] [36, 37, 38, 39] (fun W => W.cell? ⟨g5, 0, none⟩ = some (.int .i64 0) ∧ W.cell? ⟨xb, 0, none⟩ = some (.int .i64 4) ∧ W.cell? ⟨xb, 1, none⟩ = some (.int .i64 0) ∧ W.cell? ⟨xb, 2, none⟩ = some (.string ⟨#[120]⟩) ∧ W.cell? ⟨yb, 0, none⟩ = some (.int .i64 3) ∧ W.cell? ⟨yb, 1, none⟩ = some (.int .i64 v) ∧ W.cell? ⟨yb, 2, none⟩ = some (.string ⟨#[]⟩)) (by kernel_rfl) (by kernel_rfl) (fun _ _ d _ _ h => by cases d <;> exact h) ⟨c0, x0, x1, x2, y0, y1, y2⟩ (fun hS0 => ?_)
        simp only [planOps, List.filterMap_cons, List.filterMap_nil, List.getElem?_toArray, List.getElem?_cons_zero, List.getElem?_cons_succ, Option.map_some]
        iterate 8
          first
            | (refine wpPlan_take ?_ (by rfl) (fun w' hS' => ?_) ?_; rotate_left; (obtain ⟨s0, s1, s2, s3, s4, s5, s6⟩ := hS'; go_simp; first | done | with_reducible rfl); simp only [Act.put, List.setIfInBounds_toArray, List.set_cons_zero, List.set_cons_succ])
            | (refine wpPlan_skip (by rfl) ?_; simp only [Act.put, List.setIfInBounds_toArray, List.set_cons_zero, List.set_cons_succ])
        clear c0 x0 x1 x2 y0 y1 y2
        refine wpPlan_go (fun K hK => ?_)
        go_simp
        refine (say_any _ _).mono ?_
        rintro e w19 ⟨rfl, hB⟩
        have R19 := Lib.hid (R17.out.drew.below hB)
        have O19 := Lib.hid (O17.out.drew.below hB)
        have X19 := Lib.hid (X17.out.drew.below hB)
        have Y19 := Lib.hid (Y17.out.drew.below hB)
        refine hK _ _ ⟨R19.out.cell (i := 0) (by omega), X19.out.c0, X19.out.c1, X19.out.c2, Y19.out.c0, Y19.out.c1, Y19.out.c2⟩ ?_
        clear hK K hB R17 O17 X17 Y17
        simp only [LVal.agg]
        iterate 5
          first
            | (refine wpPlan_take ?_ (by rfl) (fun w' hS' => ?_) ?_; rotate_left; (obtain ⟨s0, s1, s2, s3, s4, s5, s6⟩ := hS'; go_simp; first | done | with_reducible rfl); simp only [Act.put, List.setIfInBounds_toArray, List.set_cons_zero, List.set_cons_succ])
            | (refine wpPlan_skip (by rfl) ?_; simp only [Act.put, List.setIfInBounds_toArray, List.set_cons_zero, List.set_cons_succ])
        refine wpPlan_go (fun K hK => ?_)
        go_simp
        refine (of_any _ v).mono ?_
        rintro e w20 ⟨rfl, hB⟩
        have R20 := Lib.hid (R19.out.below hB)
        have O20 := Lib.hid (O19.out.below hB)
        have X20 := Lib.hid (X19.out.below hB)
        have Y20 := Lib.hid (Y19.out.below hB)
        refine hK _ _ ⟨R20.out.cell (i := 0) (by omega), X20.out.c0, X20.out.c1, X20.out.c2, Y20.out.c0, Y20.out.c1, Y20.out.c2⟩ ?_
        clear hK K hB R19 O19 X19 Y19
        simp only [LVal.agg]
        iterate 5
          first
            | (refine wpPlan_take ?_ (by rfl) (fun w' hS' => ?_) ?_; rotate_left; (obtain ⟨s0, s1, s2, s3, s4, s5, s6⟩ := hS'; go_simp; first | done | with_reducible rfl); simp only [Act.put, List.setIfInBounds_toArray, List.set_cons_zero, List.set_cons_succ])
            | (refine wpPlan_skip (by rfl) ?_; simp only [Act.put, List.setIfInBounds_toArray, List.set_cons_zero, List.set_cons_succ])
        refine wpPlan_go (fun K hK => ?_)
        go_simp
        have HD := sh_drop O20.out hm0 hmn
        rw [HIN.out] at HD
        refine HD.mono ?_
        rintro e w21 ⟨rfl, ρ21, L21, hA, hF⟩
        have R21 := Lib.hid (R20.out.step hF)
        have O21 := Lib.hid (O20.out.step hA hF)
        have X21 := Lib.hid (X20.out.step hF)
        have Y21 := Lib.hid (Y20.out.step hF)
        refine hK _ _ ⟨R21.out.cell (i := 0) (by omega), X21.out.c0, X21.out.c1, X21.out.c2, Y21.out.c0, Y21.out.c1, Y21.out.c2⟩ ?_
        clear hK K hA hF HD R20 O20 X20 Y20
        iterate 7
          first
            | (refine wpPlan_take ?_ (by rfl) (fun w' hS' => ?_) ?_; rotate_left; (obtain ⟨s0, s1, s2, s3, s4, s5, s6⟩ := hS'; go_simp; first | done | with_reducible rfl); simp only [Act.put, List.setIfInBounds_toArray, List.set_cons_zero, List.set_cons_succ])
            | (refine wpPlan_skip (by rfl) ?_; simp only [Act.put, List.setIfInBounds_toArray, List.set_cons_zero, List.set_cons_succ])
        refine wpPlan_go (fun K hK => ?_)
        go_simp
        have HF := sh_find1 O21.out hrn
        rw [HLA.out] at HF
        refine HF.mono ?_
        rintro e w22 ⟨rfl, hB⟩
        have R22 := Lib.hid (R21.out.below hB)
        have O22 := Lib.hid (O21.out.below hB)
        have X22 := Lib.hid (X21.out.below hB)
        have Y22 := Lib.hid (Y21.out.below hB)
        refine hK _ _ ⟨R22.out.cell (i := 0) (by omega), X22.out.c0, X22.out.c1, X22.out.c2, Y22.out.c0, Y22.out.c1, Y22.out.c2⟩ ?_
        clear hK K hB HF R21 O21 X21 Y21
        iterate 7
          first
            | (refine wpPlan_take ?_ (by rfl) (fun w' hS' => ?_) ?_; rotate_left; (obtain ⟨s0, s1, s2, s3, s4, s5, s6⟩ := hS'; go_simp; first | done | with_reducible rfl); simp only [Act.put, List.setIfInBounds_toArray, List.set_cons_zero, List.set_cons_succ])
            | (refine wpPlan_skip (by rfl) ?_; simp only [Act.put, List.setIfInBounds_toArray, List.set_cons_zero, List.set_cons_succ])
        refine wpPlan_end ?_
        go_wp2_with fail
        refine (sh_drop0 O22.out (by omega)).mono ?_
        rintro e w23 ⟨rfl, ρ23, L23, hA, hF⟩
        have O23 := Lib.hid (O22.out.step hA hF)
        clear hA hF O22
        go_wp2
        go_ret
        exact ⟨rfl, O23.out.old⟩
end Go.Proofs.Ytgoaljfhciimhaa
