/- The law HeapShows, walked. -/
import Derived.Test.YtgoaljfhciimhaaDoorTold
import Derived.Test.YtgoaljfhciimhaaDoorHeapO
namespace Go.Proofs.YtgoaljfhciimhaaDoor
open Go Go.RowKit
set_option maxRecDepth 100000

def twoH : LHeap := ⟨[⟨[], 0⟩, ⟨[], 1⟩], []⟩
theorem isEmpty_same (s : ByteArray) : (!sameS s ⟨#[]⟩) = !s.toList.isEmpty := by
  rw [← toList_beq, show (⟨#[]⟩ : ByteArray).toList = [] by simp [ByteArray.toList_eq]]
  cases s.toList <;> rfl
theorem t3 (n : Int) : LVal.true ⟨3, n, ⟨#[]⟩⟩ = (n != 0) := rfl
theorem t4 (s : ByteArray) : LVal.true ⟨4, 0, s⟩ = !s.toList.isEmpty := isEmpty_same s
theorem tT : LVal.true ⟨2, 1, ⟨#[]⟩⟩ = true := rfl
theorem tF : LVal.true ⟨2, 0, ⟨#[]⟩⟩ = false := rfl
theorem tN : LVal.true ⟨1, 0, ⟨#[]⟩⟩ = false := rfl
theorem tU : LVal.true ⟨0, 0, ⟨#[]⟩⟩ = false := rfl
theorem tO : LVal.true ⟨5, 0, ⟨#[]⟩⟩ = true := rfl
theorem s3 (n : Int) : twoH.shown ⟨3, n, ⟨#[]⟩⟩ = ⟨(Lib.itoa n).toArray⟩ := rfl
theorem s4 (s : ByteArray) : twoH.shown ⟨4, 0, s⟩ = s := rfl
theorem sT : twoH.shown ⟨2, 1, ⟨#[]⟩⟩ = ⟨#[116, 114, 117, 101]⟩ := rfl
theorem sF : twoH.shown ⟨2, 0, ⟨#[]⟩⟩ = ⟨#[102, 97, 108, 115, 101]⟩ := rfl
theorem sN : twoH.shown ⟨1, 0, ⟨#[]⟩⟩ = ⟨#[110, 117, 108, 108]⟩ := rfl
theorem sU : twoH.shown ⟨0, 0, ⟨#[]⟩⟩ = ⟨#[117, 110, 100, 101, 102, 105, 110, 101, 100]⟩ := rfl
theorem sO : twoH.shown ⟨5, 0, ⟨#[]⟩⟩ = ⟨#[111, 98, 106, 101, 99, 116]⟩ := rfl
theorem sFn : twoH.shown ⟨5, 1, ⟨#[]⟩⟩ = ⟨#[102, 117, 110, 99, 116, 105, 111, 110]⟩ := rfl

theorem is_t (w : World) : Calls Tryd.prog 29 #[.bool true] w fun e w' => e = .returned (.agg #[.int .i64 2, .int .i64 1, .string ⟨#[]⟩]) ∧ Below w.heap.size w w' := is_any w true
theorem is_f (w : World) : Calls Tryd.prog 29 #[.bool false] w fun e w' => e = .returned (.agg #[.int .i64 2, .int .i64 0, .string ⟨#[]⟩]) ∧ Below w.heap.size w w' := is_any w false
theorem three_boxes (w : World) (T : TypeId) : ∀ W', Below (((w.alloc (.cells #[.int .i64 1, .int .i64 0, .string ⟨#[]⟩] T)).alloc (.cells #[.int .i64 5, .int .i64 0, .string ⟨#[]⟩] T)).alloc (.cells #[.int .i64 5, .int .i64 1, .string ⟨#[]⟩] T)).heap.size
      (((w.alloc (.cells #[.int .i64 1, .int .i64 0, .string ⟨#[]⟩] T)).alloc (.cells #[.int .i64 5, .int .i64 0, .string ⟨#[]⟩] T)).alloc (.cells #[.int .i64 5, .int .i64 1, .string ⟨#[]⟩] T)) W' →
    W'.cell? ⟨w.heap.size, 0, none⟩ = some (.int .i64 1) ∧ W'.cell? ⟨w.heap.size, 1, none⟩ = some (.int .i64 0) ∧ W'.cell? ⟨w.heap.size, 2, none⟩ = some (.string ⟨#[]⟩) ∧
    W'.cell? ⟨w.heap.size + 1, 0, none⟩ = some (.int .i64 5) ∧ W'.cell? ⟨w.heap.size + 1, 1, none⟩ = some (.int .i64 0) ∧ W'.cell? ⟨w.heap.size + 1, 2, none⟩ = some (.string ⟨#[]⟩) ∧
    W'.cell? ⟨w.heap.size + 1 + 1, 0, none⟩ = some (.int .i64 5) ∧ W'.cell? ⟨w.heap.size + 1 + 1, 1, none⟩ = some (.int .i64 1) ∧ W'.cell? ⟨w.heap.size + 1 + 1, 2, none⟩ = some (.string ⟨#[]⟩) := by
  intro W' hB
  have e1 : ∀ i, W'.cell? ⟨w.heap.size, i, none⟩ = (w.alloc (.cells #[.int .i64 1, .int .i64 0, .string ⟨#[]⟩] T)).cell? ⟨w.heap.size, i, none⟩ := fun i => by
    rw [hB.cell (p := ⟨w.heap.size, i, none⟩) (by simp; omega), cell_old (by simp; omega), cell_old (by simp)]
  have e2 : ∀ i, W'.cell? ⟨w.heap.size + 1, i, none⟩ = ((w.alloc (.cells #[.int .i64 1, .int .i64 0, .string ⟨#[]⟩] T)).alloc (.cells #[.int .i64 5, .int .i64 0, .string ⟨#[]⟩] T)).cell? ⟨(w.alloc (.cells #[.int .i64 1, .int .i64 0, .string ⟨#[]⟩] T)).heap.size, i, none⟩ := fun i => by
    rw [hB.cell (p := ⟨w.heap.size + 1, i, none⟩) (by simp), cell_old (by simp), World.size_alloc]
  have e3 : ∀ i, W'.cell? ⟨w.heap.size + 1 + 1, i, none⟩ = (((w.alloc (.cells #[.int .i64 1, .int .i64 0, .string ⟨#[]⟩] T)).alloc (.cells #[.int .i64 5, .int .i64 0, .string ⟨#[]⟩] T)).alloc (.cells #[.int .i64 5, .int .i64 1, .string ⟨#[]⟩] T)).cell? ⟨((w.alloc (.cells #[.int .i64 1, .int .i64 0, .string ⟨#[]⟩] T)).alloc (.cells #[.int .i64 5, .int .i64 0, .string ⟨#[]⟩] T)).heap.size, i, none⟩ := fun i => by
    rw [hB.cell (p := ⟨w.heap.size + 1 + 1, i, none⟩) (by simp), World.size_alloc, World.size_alloc]
  simp only [e1, e2, e3, World.cell?_alloc_new]
  exact ⟨rfl, rfl, rfl, rfl, rfl, rfl, rfl, rfl, rfl⟩

set_option maxHeartbeats 20000000 in
theorem shows_walk (w : World) (n : Int) (s : ByteArray) (h0 : -9223372036854775808 ≤ n) (h1 : n ≤ 9223372036854775807) (ht : Pow w) :
    Calls Tryd.prog 6 #[.int .i64 n, .string s] w fun e w' => e = .returned (.bool true) ∧ Below w.heap.size w w' := by
  obtain ⟨ρ, L, ha, hr⟩ := heap_new w 34
  have o0 : Own w ρ (w.alloc (.cells #[.slice none 0 0, .slice none 0 0] 34)) w.heap.size L .empty :=
    ⟨ha, (Below.refl _ _).alloc (Nat.le_refl _) _, fun b hb => hr b (by omega)⟩
  have hc := newObject_any ha 0 (by simp [LHeap.empty])
  have HC := Lib.hid (hc.mono (R' := fun e w' => e = .returned (.int .i64 0) ∧ ∃ ρ' L', HeapAt ρ' w' w.heap.size 0 L' ⟨[⟨[], 0⟩], []⟩ ∧ Fr ρ ρ' w.heap.size 0 (w.alloc (.cells #[.slice none 0 0, .slice none 0 0] 34)) w') (fun e w' h => ⟨h.1.trans (ret_int rfl), h.2⟩))
  have O0 := Lib.hid o0
  have HT := Lib.hid ht
  clear ha hr o0 hc ht
  go_enter Tryd.func6, Tryd.ntmps6
  go_wp2_with fail
  refine HC.out.mono ?_
  rintro e w1 ⟨rfl, ρ1, L1, hA1, hF1⟩
  have O1 := Lib.hid (O0.out.step hA1 hF1)
  clear HC O0 hA1 hF1
  have hc := newObject_any O1.out.at' 1 (by simp)
  have HC := Lib.hid (hc.mono (R' := fun e w' => e = .returned (.int .i64 1) ∧ ∃ ρ' L', HeapAt ρ' w' w.heap.size 0 L' twoH ∧ Fr ρ1 ρ' w.heap.size 0 w1 w') (fun e w' h => ⟨h.1.trans (ret_int rfl), h.2⟩))
  clear hc
  go_wp2_with fail
  refine HC.out.mono ?_
  rintro e w2 ⟨rfl, ρ2, L2, hA2, hF2⟩
  have O2 := Lib.hid (O1.out.step hA2 hF2)
  clear HC O1 hA2 hF2
  go_wp2_with fail
  have hx := three_boxes w2 39
  have ho : Own w ρ2 (((w2.alloc (.cells #[.int .i64 1, .int .i64 0, .string ⟨#[]⟩] 39)).alloc (.cells #[.int .i64 5, .int .i64 0, .string ⟨#[]⟩] 39)).alloc (.cells #[.int .i64 5, .int .i64 1, .string ⟨#[]⟩] 39)) w.heap.size L2 twoH :=
    O2.out.below ((((Below.refl _ _).alloc (Nat.le_refl _) _).alloc (by simp) _).alloc (by simp; omega) _)
  generalize ((w2.alloc (.cells #[.int .i64 1, .int .i64 0, .string ⟨#[]⟩] 39)).alloc (.cells #[.int .i64 5, .int .i64 0, .string ⟨#[]⟩] 39)).alloc (.cells #[.int .i64 5, .int .i64 1, .string ⟨#[]⟩] 39) = u0 at hx ho ⊢
  have HX := Lib.hid hx
  have HH := Lib.hid ho.at'
  have HO := Lib.hid ho.old
  have HP := Lib.hid (HT.out.below ho.old)
  have B0 := Lib.hid (Below.refl u0.heap.size u0)
  clear hx ho O2 HT
  refine (of_any _ n).mono ?_
  rintro e u1 ⟨rfl, hB⟩
  simp only [LVal.agg]
  have B1 := Lib.hid (B0.out.trans (hB.mono B0.out.size))
  clear hB B0
  go_wp2_with fail
  refine (true_any _ ⟨3, n, ⟨#[]⟩⟩).mono ?_
  rintro e u2 ⟨rfl, hB⟩
  rw [t3]
  have B2 := Lib.hid (B1.out.trans (hB.mono B1.out.size))
  clear hB B1
  go_wp2_with fail
  refine (of_any _ n).mono ?_
  rintro e u3 ⟨rfl, hB⟩
  simp only [LVal.agg]
  have B3 := Lib.hid (B2.out.trans (hB.mono B2.out.size))
  clear hB B2
  go_wp2_with fail
  refine (show_any (HH.out.below B3.out) ⟨3, n, ⟨#[]⟩⟩ h0 h1 (HP.out.below B3.out)).mono ?_
  rintro e u4 ⟨rfl, hB⟩
  rw [s3]
  have B4 := Lib.hid (B3.out.trans (hB.mono B3.out.size))
  clear hB B3
  go_wp2_with fail
  refine (told_one (u4.alloc (.cells #[.int .i64 n] 3)) n u4.heap.size 1 h0 h1 (HP.out.below (B4.out.alloc B4.out.size _)) (World.cell?_alloc_new _ _ _ 0) (by simp)).mono ?_
  rintro e u5 ⟨rfl, hB⟩
  have B5 := Lib.hid ((B4.out.alloc B4.out.size _).trans (hB.mono (by have := B4.out.size; simp; omega)))
  clear hB B4
  go_wp2_with fail
  refine (say_any _ s).mono ?_
  rintro e u6 ⟨rfl, hB⟩
  simp only [LVal.agg]
  have B6 := Lib.hid (B5.out.trans (hB.mono B5.out.size))
  clear hB B5
  go_wp2_with fail
  refine (true_any _ ⟨4, 0, s⟩).mono ?_
  rintro e u7 ⟨rfl, hB⟩
  rw [t4]
  have B7 := Lib.hid (B6.out.trans (hB.mono B6.out.size))
  clear hB B6
  go_wp2_with fail
  refine (say_any _ s).mono ?_
  rintro e u8 ⟨rfl, hB⟩
  simp only [LVal.agg]
  have B8 := Lib.hid (B7.out.trans (hB.mono B7.out.size))
  clear hB B7
  go_wp2_with fail
  refine (show_any (HH.out.below B8.out) ⟨4, 0, s⟩ (by simp) (by simp) (HP.out.below B8.out)).mono ?_
  rintro e u9 ⟨rfl, hB⟩
  rw [s4]
  have B9 := Lib.hid (B8.out.trans (hB.mono B8.out.size))
  clear hB B8
  go_wp2_with fail
  refine (is_t _).mono ?_
  rintro e u10 ⟨rfl, hB⟩
  have B10 := Lib.hid (B9.out.trans (hB.mono B9.out.size))
  clear hB B9
  go_wp2_with fail
  refine (show_any (HH.out.below B10.out) ⟨2, 1, ⟨#[]⟩⟩ (by simp) (by simp) (HP.out.below B10.out)).mono ?_
  rintro e u11 ⟨rfl, hB⟩
  rw [sT]
  have B11 := Lib.hid (B10.out.trans (hB.mono B10.out.size))
  clear hB B10
  go_wp2_with fail
  refine (is_f _).mono ?_
  rintro e u12 ⟨rfl, hB⟩
  have B12 := Lib.hid (B11.out.trans (hB.mono B11.out.size))
  clear hB B11
  go_wp2_with fail
  refine (show_any (HH.out.below B12.out) ⟨2, 0, ⟨#[]⟩⟩ (by simp) (by simp) (HP.out.below B12.out)).mono ?_
  rintro e u13 ⟨rfl, hB⟩
  rw [sF]
  have B13 := Lib.hid (B12.out.trans (hB.mono B12.out.size))
  clear hB B12
  go_wp2_with fail
  refine (is_t _).mono ?_
  rintro e u14 ⟨rfl, hB⟩
  have B14 := Lib.hid (B13.out.trans (hB.mono B13.out.size))
  clear hB B13
  go_wp2_with fail
  refine (true_any _ ⟨2, 1, ⟨#[]⟩⟩).mono ?_
  rintro e u15 ⟨rfl, hB⟩
  rw [tT]
  have B15 := Lib.hid (B14.out.trans (hB.mono B14.out.size))
  clear hB B14
  go_wp2_with fail
  refine (is_f _).mono ?_
  rintro e u16 ⟨rfl, hB⟩
  have B16 := Lib.hid (B15.out.trans (hB.mono B15.out.size))
  clear hB B15
  go_wp2_with fail
  refine (true_any _ ⟨2, 0, ⟨#[]⟩⟩).mono ?_
  rintro e u17 ⟨rfl, hB⟩
  rw [tF]
  have B17 := Lib.hid (B16.out.trans (hB.mono B16.out.size))
  clear hB B16
  obtain ⟨x0, x1, x2, y0, y1, y2, z0, z1, z2⟩ := HX.out _ B17.out
  go_wp2_with fail
  clear x0 x1 x2 y0 y1 y2 z0 z1 z2
  refine (true_any _ ⟨1, 0, ⟨#[]⟩⟩).mono ?_
  rintro e u18 ⟨rfl, hB⟩
  rw [tN]
  have B18 := Lib.hid (B17.out.trans (hB.mono B17.out.size))
  clear hB B17
  obtain ⟨x0, x1, x2, y0, y1, y2, z0, z1, z2⟩ := HX.out _ B18.out
  go_wp2_with fail
  clear x0 x1 x2 y0 y1 y2 z0 z1 z2
  refine (show_any (HH.out.below B18.out) ⟨1, 0, ⟨#[]⟩⟩ (by simp) (by simp) (HP.out.below B18.out)).mono ?_
  rintro e u19 ⟨rfl, hB⟩
  rw [sN]
  have B19 := Lib.hid (B18.out.trans (hB.mono B18.out.size))
  clear hB B18
  obtain ⟨x0, x1, x2, y0, y1, y2, z0, z1, z2⟩ := HX.out _ B19.out
  go_wp2_with fail
  clear x0 x1 x2 y0 y1 y2 z0 z1 z2
  refine (true_any _ ⟨0, 0, ⟨#[]⟩⟩).mono ?_
  rintro e u20 ⟨rfl, hB⟩
  rw [tU]
  have B20 := Lib.hid (B19.out.trans (hB.mono B19.out.size))
  clear hB B19
  obtain ⟨x0, x1, x2, y0, y1, y2, z0, z1, z2⟩ := HX.out _ B20.out
  go_wp2_with fail
  clear x0 x1 x2 y0 y1 y2 z0 z1 z2
  refine (show_any (HH.out.below B20.out) ⟨0, 0, ⟨#[]⟩⟩ (by simp) (by simp) (HP.out.below B20.out)).mono ?_
  rintro e u21 ⟨rfl, hB⟩
  rw [sU]
  have B21 := Lib.hid (B20.out.trans (hB.mono B20.out.size))
  clear hB B20
  obtain ⟨x0, x1, x2, y0, y1, y2, z0, z1, z2⟩ := HX.out _ B21.out
  go_wp2_with fail
  clear x0 x1 x2 y0 y1 y2 z0 z1 z2
  refine (true_any _ ⟨5, 0, ⟨#[]⟩⟩).mono ?_
  rintro e u22 ⟨rfl, hB⟩
  rw [tO]
  have B22 := Lib.hid (B21.out.trans (hB.mono B21.out.size))
  clear hB B21
  obtain ⟨x0, x1, x2, y0, y1, y2, z0, z1, z2⟩ := HX.out _ B22.out
  go_wp2_with fail
  clear x0 x1 x2 y0 y1 y2 z0 z1 z2
  refine (show_any (HH.out.below B22.out) ⟨5, 0, ⟨#[]⟩⟩ (by simp) (by simp) (HP.out.below B22.out)).mono ?_
  rintro e u23 ⟨rfl, hB⟩
  rw [sO]
  have B23 := Lib.hid (B22.out.trans (hB.mono B22.out.size))
  clear hB B22
  obtain ⟨x0, x1, x2, y0, y1, y2, z0, z1, z2⟩ := HX.out _ B23.out
  go_wp2_with fail
  clear x0 x1 x2 y0 y1 y2 z0 z1 z2
  refine (show_any (HH.out.below B23.out) ⟨5, 1, ⟨#[]⟩⟩ (by simp) (by simp) (HP.out.below B23.out)).mono ?_
  rintro e u24 ⟨rfl, hB⟩
  rw [sFn]
  have B24 := Lib.hid (B23.out.trans (hB.mono B23.out.size))
  clear hB B23
  go_wp2
  go_ret
  exact ⟨rfl, HO.out.trans (B24.out.mono HO.out.size)⟩
end Go.Proofs.YtgoaljfhciimhaaDoor
