/- The document's parser: statement, kind by kind. The document's parser: statement: return, a value. -/
import Derived.Test.YtilchadbjflpgaaGreatDoorJ01
import Derived.Test.YtilchadbjflpgaaGreatDoorJ34
import Derived.Test.YtilchadbjflpgaaGreatDoorJ18
namespace Go.Proofs.YtilchadbjflpgaaGreatDoor
open Go Go.RowKit
set_option maxRecDepth 100000
set_option linter.unusedVariables false
theorem ListAt.far {w0 w w' : World} {B b : Nat} {v : Value} {kids : List ATree} {ts : List Tree} (L : ListAt w0 B w v kids ts) (hs : w.heap.size ≤ w'.heap.size) (h : ∀ x, x ≠ b → w'.heap[x]? = w.heap[x]?) (h1 : v.ownBlock ≠ some b) (h2 : b ∉ blocksL kids) : ListAt w0 B w' v kids ts := by
 refine ⟨⟨L.ks.tree, fun a ha => (L.ks.at' a ha).keepB fun y hy => h y fun e => h2 ?_, L.ks.nodup, fun x hx => ⟨(L.ks.new x hx).1, Nat.lt_of_lt_of_le (L.ks.new x hx).2 hs⟩⟩, ownsRow_block L.row fun g hg => h g (fun e => h1 (by rw [← e]; exact hg)), fun g hg => ⟨(L.own g hg).1, Nat.lt_of_lt_of_le (L.own g hg).2.1 hs, (L.own g hg).2.2⟩⟩
 rw [← e, blocksL_flat]
 exact List.mem_flatMap.2 ⟨a, ha, hy⟩
theorem Got.kindKids {w0 w : World} {rb B b : Nat} {v v' : Value} {k k' n : Int} {tx : ByteArray} {kids kids' : List ATree} {l tn : List Tree} (hr : rb < B) (hB0 : B ≤ w0.heap.size) (N : Got w0 B w (.mk b v k tx n kids) (.mk k tx n tn)) (L : ListAt w0 B w v' kids' l) (h1 : v'.ownBlock ≠ some b) (h2 : b ∉ blocksL kids') (F : RFr w0 w rb) :
 Got w0 B ((w.setCell ⟨b, 0, none⟩ (.int .i64 k')).setCell ⟨b, 3, none⟩ v') (.mk b v' k' tx n kids') (.mk k' tx n l) ∧ RFr w0 ((w.setCell ⟨b, 0, none⟩ (.int .i64 k')).setCell ⟨b, 3, none⟩ v') rb ∧ (∀ x, x < B → ((w.setCell ⟨b, 0, none⟩ (.int .i64 k')).setCell ⟨b, 3, none⟩ v').heap[x]? = w.heap[x]?) := by
 obtain ⟨g1, g2, g3⟩ := Got.kind0 (k' := k') hr hB0 N F
 have L2 : ListAt w0 B (w.setCell ⟨b, 0, none⟩ (.int .i64 k')) v' kids' l := L.far (by rw [World.size_setCell]; exact Nat.le_refl _) (fun x hx => Below.heap_setCell _ _ _ _ hx) h1 h2
 obtain ⟨e1, e2, e3⟩ := Got.kids0 hr hB0 g1.at' (N.new b (by simp [ATree.blocks])).1 L2 h1 h2 g2
 exact ⟨e1, e2, fun x hx => (e3 x hx).trans (g3 x hx)⟩
set_option maxHeartbeats 4000000 in
theorem st_function_q (f : Nat) (hFn : ∀ s, QSays 38 (fArg 5 s) (.func 5 s) f) (w : World) (C : QC) (B d : Nat) (σ : RS) (t : Tree) (σ' : RS) (hQ : QS w C σ) (hr : C.rb < B) (hB : B ≤ w.heap.size) (hd : d ≤ 30) (hdf : d + (f + 1) ≤ 1000000000000) (hsee : ∀ s : ByteArray, s ≠ s_function → nextR s σ = false) (hn : nextR s_function σ = true) (hp : refF f (.func 5 (identR (advR σ)).1) d (identR (advR σ)).2 = some (t, σ')) :
 Calls Tryz.prog 16 (qd C.rb d) w (QPost w C B t σ') := by
 have n30 : ¬ (d : Int) > 30 := by omega
 obtain ⟨nb, hnb⟩ : ∃ b, b = w.heap.size := ⟨_, rfl⟩
 obtain ⟨w0, hw0⟩ : ∃ W, W = w.alloc (.cells #[.int .i64 0, .string ⟨#[]⟩, .int .i64 0, .slice none 0 0] 29) := ⟨_, rfl⟩
 have hal : Below w.heap.size w w0 := by rw [hw0]; exact (Below.refl _ _).alloc (Nat.le_refl _) _
 have Q0 := lh (hQ.below hal)
 have F0 := lh (RFr.below (rb := C.rb) hal)
 have G0 := lh (show Got w B w0 (.mk nb (.slice none 0 0) 0 ⟨#[]⟩ 0 []) (.mk 0 ⟨#[]⟩ 0 []) by rw [hw0, hnb]; exact Got.leaf hB (RFr.refl w C.rb))
 have HR := lh hr
 have HB := lh hB
 have HW0 := lh hw0
 have HNB := lh hnb
 have HNBW := lh (show nb < w0.heap.size by rw [hw0, hnb]; simp)
 have HD := lh hd
 have HDF := lh hdf
 have HSEE := lh hsee
 have HSN := lh hn
 have HFN := lh hFn
 have HP := lh hp
 clear hQ hr hB hd hdf hsee hn hal hw0 hnb hFn hp
 unfold qd
 go_enter Tryz.func16, Tryz.ntmps16
 go_wp2_with fail
 rw [← HW0.out, ← HNB.out]
 have BA0 := lh (Below.refl w0.heap.size w0)
 have HT := qnext_any Q0.out s_lbrace
 rw [HSEE.out s_lbrace (by decide)] at HT
 refine HT.mono ?_
 rintro e wt1 ⟨rfl, hb⟩
 have BA1 := lh (BA0.out.trans (hb.mono BA0.out.size))
 have Q1 := lh (Q0.out.below hb)
 clear hb HT
 go_wp2_with fail
 have HT := qskip_no Q1.out s_semi (HSEE.out s_semi (by decide))
 refine HT.mono ?_
 rintro e wt2 ⟨rfl, hb⟩
 have BA2 := lh (BA1.out.trans (hb.mono BA1.out.size))
 have Q2 := lh (Q1.out.below hb)
 clear hb HT
 go_wp2_with fail
 have HT := qskip_any Q2.out s_function
 rw [HSN.out, if_pos rfl] at HT
 refine HT.mono ?_
 rintro e w3 ⟨rfl, h3, f3⟩
 have Q3 := lh h3
 have F3 := lh ((F0.out.trans (RFr.below (rb := C.rb) BA2.out)).trans f3)
 clear h3 f3 HT
 go_wp2_with fail
 refine (qident_any Q3.out B HR.out (Nat.le_trans HB.out F3.out.size)).mono ?_
 rintro e w4 ⟨rfl, h4, f4⟩
 have Q4 := lh h4
 have F4 := lh (F3.out.trans f4)
 clear h4 f4
 go_wp2_with fail
 refine (HFN.out _ w4 C B d _ _ _ Q4.out HR.out (Nat.le_trans HB.out F4.out.size) (by have := HDF.out; omega) HP.out).mono ?_
 rintro e w5 ⟨a, rfl, h5⟩
 have H5 := lh h5
 clear h5
 go_wp2
 go_ret
 exact QPost.pre F4.out ⟨a, rfl, H5.out⟩
set_option maxHeartbeats 4000000 in
theorem st_throw_q (f : Nat) (hV : QSays 42 qd .value f) (x : Tree) (σ1 : RS) (w : World) (C : QC) (B d : Nat) (σ : RS) (t : Tree) (σ' : RS) (hQ : QS w C σ) (hr : C.rb < B) (hB : B ≤ w.heap.size) (hd : d ≤ 30) (hdf : d + (f + 1) ≤ 1000000000000) (hsee : ∀ s : ByteArray, s ≠ s_throw → nextR s σ = false) (hn : nextR s_throw σ = true) (ht : t = .mk 11 ByteArray.empty 0 [x]) (hs1 : σ' = mustR s_semi σ1) (hp : refF f .value (d + 1) (advR σ) = some (x, σ1)) :
 Calls Tryz.prog 16 (qd C.rb d) w (QPost w C B t σ') := by
 have n30 : ¬ (d : Int) > 30 := by omega
 obtain ⟨nb, hnb⟩ : ∃ b, b = w.heap.size := ⟨_, rfl⟩
 obtain ⟨w0, hw0⟩ : ∃ W, W = w.alloc (.cells #[.int .i64 0, .string ⟨#[]⟩, .int .i64 0, .slice none 0 0] 29) := ⟨_, rfl⟩
 have hal : Below w.heap.size w w0 := by rw [hw0]; exact (Below.refl _ _).alloc (Nat.le_refl _) _
 have Q0 := lh (hQ.below hal)
 have F0 := lh (RFr.below (rb := C.rb) hal)
 have G0 := lh (show Got w B w0 (.mk nb (.slice none 0 0) 0 ⟨#[]⟩ 0 []) (.mk 0 ⟨#[]⟩ 0 []) by rw [hw0, hnb]; exact Got.leaf hB (RFr.refl w C.rb))
 have HR := lh hr
 have HB := lh hB
 have HW0 := lh hw0
 have HNB := lh hnb
 have HNBW := lh (show nb < w0.heap.size by rw [hw0, hnb]; simp)
 have HD := lh hd
 have HDF := lh hdf
 have HSEE := lh hsee
 have HSN := lh hn
 have HV := lh hV
 have HP := lh hp
 subst ht hs1
 clear hQ hr hB hd hdf hsee hn hal hw0 hnb hV hp
 unfold qd
 go_enter Tryz.func16, Tryz.ntmps16
 go_wp2_with fail
 rw [← HW0.out, ← HNB.out]
 have BA0 := lh (Below.refl w0.heap.size w0)
 have HT := qnext_any Q0.out s_lbrace
 rw [HSEE.out s_lbrace (by decide)] at HT
 refine HT.mono ?_
 rintro e wt1 ⟨rfl, hb⟩
 have BA1 := lh (BA0.out.trans (hb.mono BA0.out.size))
 have Q1 := lh (Q0.out.below hb)
 clear hb HT
 go_wp2_with fail
 have HT := qskip_no Q1.out s_semi (HSEE.out s_semi (by decide))
 refine HT.mono ?_
 rintro e wt2 ⟨rfl, hb⟩
 have BA2 := lh (BA1.out.trans (hb.mono BA1.out.size))
 have Q2 := lh (Q1.out.below hb)
 clear hb HT
 go_wp2_with fail
 have HT := qskip_no Q2.out s_function (HSEE.out s_function (by decide))
 refine HT.mono ?_
 rintro e wt3 ⟨rfl, hb⟩
 have BA3 := lh (BA2.out.trans (hb.mono BA2.out.size))
 have Q3 := lh (Q2.out.below hb)
 clear hb HT
 go_wp2_with fail
 have HT := qskip_no Q3.out s_if (HSEE.out s_if (by decide))
 refine HT.mono ?_
 rintro e wt4 ⟨rfl, hb⟩
 have BA4 := lh (BA3.out.trans (hb.mono BA3.out.size))
 have Q4 := lh (Q3.out.below hb)
 clear hb HT
 go_wp2_with fail
 have HT := qnext_any Q4.out s_while
 rw [HSEE.out s_while (by decide)] at HT
 refine HT.mono ?_
 rintro e wt5 ⟨rfl, hb⟩
 have BA5 := lh (BA4.out.trans (hb.mono BA4.out.size))
 have Q5 := lh (Q4.out.below hb)
 clear hb HT
 go_wp2_with fail
 have HT := qnext_any Q5.out s_with
 rw [HSEE.out s_with (by decide)] at HT
 refine HT.mono ?_
 rintro e wt6 ⟨rfl, hb⟩
 have BA6 := lh (BA5.out.trans (hb.mono BA5.out.size))
 have Q6 := lh (Q5.out.below hb)
 clear hb HT
 go_wp2_with fail
 have HT := qskip_no Q6.out s_try (HSEE.out s_try (by decide))
 refine HT.mono ?_
 rintro e wt7 ⟨rfl, hb⟩
 have BA7 := lh (BA6.out.trans (hb.mono BA6.out.size))
 have Q7 := lh (Q6.out.below hb)
 clear hb HT
 go_wp2_with fail
 have HT := qnext_any Q7.out s_var
 rw [HSEE.out s_var (by decide)] at HT
 refine HT.mono ?_
 rintro e wt8 ⟨rfl, hb⟩
 have BA8 := lh (BA7.out.trans (hb.mono BA7.out.size))
 have Q8 := lh (Q7.out.below hb)
 clear hb HT
 go_wp2_with fail
 have HT := qnext_any Q8.out s_let
 rw [HSEE.out s_let (by decide)] at HT
 refine HT.mono ?_
 rintro e wt9 ⟨rfl, hb⟩
 have BA9 := lh (BA8.out.trans (hb.mono BA8.out.size))
 have Q9 := lh (Q8.out.below hb)
 clear hb HT
 go_wp2_with fail
 have HT := qnext_any Q9.out s_const
 rw [HSEE.out s_const (by decide)] at HT
 refine HT.mono ?_
 rintro e wt10 ⟨rfl, hb⟩
 have BA10 := lh (BA9.out.trans (hb.mono BA9.out.size))
 have Q10 := lh (Q9.out.below hb)
 clear hb HT
 go_wp2_with fail
 have HT := qskip_no Q10.out s_return (HSEE.out s_return (by decide))
 refine HT.mono ?_
 rintro e wt11 ⟨rfl, hb⟩
 have BA11 := lh (BA10.out.trans (hb.mono BA10.out.size))
 have Q11 := lh (Q10.out.below hb)
 clear hb HT
 go_wp2_with fail
 have HT := qskip_any Q11.out s_throw
 rw [HSN.out, if_pos rfl] at HT
 refine HT.mono ?_
 rintro e w3 ⟨rfl, h3, f3⟩
 have Q3 := lh h3
 have F3 := lh ((RFr.below (rb := C.rb) BA11.out).trans f3)
 have hdd := HD.out
 clear h3 f3 HT
 go_wp2_with fail
 refine (HV.out w3 C B (d + 1) _ _ _ Q3.out HR.out (Nat.le_trans HB.out (F0.out.trans F3.out).size) (by have := HDF.out; omega) HP.out).mono ?_
 rintro e w4 ⟨a, rfl, h4, h5, h6⟩
 have hal4 := (Below.refl w4.heap.size w4).alloc (Nat.le_refl _) (.cells #[a.ptr] 22)
 have hFF := (F3.out.trans h6).trans (RFr.below (rb := C.rb) hal4)
 have hG := G0.out.rfr HR.out hFF
 have hblk := hG.at'.blkOf
 replace hblk : (w4.alloc (.cells #[.pointer (some ⟨a.b, 0, none⟩)] 22)).heap[nb]? = some (.cells #[.int .i64 0, .string ⟨#[]⟩, .int .i64 0, .slice none 0 0] 29 (0, 0)) := hblk
 have hL := (KidsAt.one h4).lit (Nat.le_trans HB.out ((F0.out.trans F3.out).trans h6).size) h6.size (by simp)
 have hap := hL.apart (b := nb) (Nat.lt_of_lt_of_le HNBW.out F3.out.size)
 have FIN := lh (Got.kindKids (k' := 11) HR.out HB.out hG (hL.pre (w0 := w) (F0.out.trans F3.out).size) hap.1 hap.2 (F0.out.trans hFF))
 have Q5 := lh (h5.below hal4)
 have y0 : (w4.alloc (.cells #[.pointer (some ⟨a.b, 0, none⟩)] 22)).cell? ⟨nb, 0, none⟩ = some (.int .i64 0) := by simp only [World.cell?, hblk]; rfl
 have z0 : (w4.alloc (.cells #[.pointer (some ⟨a.b, 0, none⟩)] 22)).frozen? ⟨nb, 0, none⟩ = false := by simp only [World.frozen?, hblk]; rfl
 have y3 : (w4.alloc (.cells #[.pointer (some ⟨a.b, 0, none⟩)] 22)).cell? ⟨nb, 3, none⟩ = some (.slice none 0 0) := by simp only [World.cell?, hblk]; rfl
 have z3 : (w4.alloc (.cells #[.pointer (some ⟨a.b, 0, none⟩)] 22)).frozen? ⟨nb, 3, none⟩ = false := by simp only [World.frozen?, hblk]; rfl
 clear h4 h5 h6 hal4 hFF hG hblk hL hap
 go_wp2_with fail
 obtain ⟨g1, g2, g3⟩ := FIN.out
 have Q6 := Q5.out.keep fun k hk => g3 k (by have := HR.out; omega)
 refine (qmust_any Q6 s_semi B HR.out (Nat.le_trans HB.out g2.size)).mono ?_
 rintro e w7 ⟨rfl, h7, f7⟩
 have G7 := lh (g1.rfr HR.out f7)
 have Q7 := lh h7
 have F7 := lh (g2.trans f7)
 clear g1 g2 g3 Q6 h7 f7 y0 z0 y3 z3
 go_wp2
 go_ret
 exact ⟨_, rfl, G7.out, Q7.out, F7.out⟩
set_option maxHeartbeats 4000000 in
theorem st_expr_q (f : Nat) (hV : QSays 42 qd .value f) (x : Tree) (σ1 : RS) (w : World) (C : QC) (B d : Nat) (σ : RS) (t : Tree) (σ' : RS) (hQ : QS w C σ) (hr : C.rb < B) (hB : B ≤ w.heap.size) (hd : d ≤ 30) (hdf : d + (f + 1) ≤ 1000000000000) (hsee : ∀ s : ByteArray, s ∈ [s_lbrace, s_semi, s_function, s_if, s_while, s_with, s_try, s_var, s_let, s_const, s_return, s_throw] → nextR s σ = false) (ht : t = .mk 15 ByteArray.empty 0 [x]) (hs1 : σ' = mustR s_semi σ1) (hp : refF f .value (d + 1) σ = some (x, σ1)) :
 Calls Tryz.prog 16 (qd C.rb d) w (QPost w C B t σ') := by
 have n30 : ¬ (d : Int) > 30 := by omega
 obtain ⟨nb, hnb⟩ : ∃ b, b = w.heap.size := ⟨_, rfl⟩
 obtain ⟨w0, hw0⟩ : ∃ W, W = w.alloc (.cells #[.int .i64 0, .string ⟨#[]⟩, .int .i64 0, .slice none 0 0] 29) := ⟨_, rfl⟩
 have hal : Below w.heap.size w w0 := by rw [hw0]; exact (Below.refl _ _).alloc (Nat.le_refl _) _
 have Q0 := lh (hQ.below hal)
 have F0 := lh (RFr.below (rb := C.rb) hal)
 have G0 := lh (show Got w B w0 (.mk nb (.slice none 0 0) 0 ⟨#[]⟩ 0 []) (.mk 0 ⟨#[]⟩ 0 []) by rw [hw0, hnb]; exact Got.leaf hB (RFr.refl w C.rb))
 have HR := lh hr
 have HB := lh hB
 have HW0 := lh hw0
 have HNB := lh hnb
 have HNBW := lh (show nb < w0.heap.size by rw [hw0, hnb]; simp)
 have HD := lh hd
 have HDF := lh hdf
 have HSEE := lh hsee
 have HV := lh hV
 have HP := lh hp
 subst ht hs1
 clear hQ hr hB hd hdf hsee hal hw0 hnb hV hp
 unfold qd
 go_enter Tryz.func16, Tryz.ntmps16
 go_wp2_with fail
 rw [← HW0.out, ← HNB.out]
 have BA0 := lh (Below.refl w0.heap.size w0)
 have HT := qnext_any Q0.out s_lbrace
 rw [HSEE.out s_lbrace (by first | decide | simp)] at HT
 refine HT.mono ?_
 rintro e wt1 ⟨rfl, hb⟩
 have BA1 := lh (BA0.out.trans (hb.mono BA0.out.size))
 have Q1 := lh (Q0.out.below hb)
 clear hb HT
 go_wp2_with fail
 have HT := qskip_no Q1.out s_semi (HSEE.out s_semi (by first | decide | simp))
 refine HT.mono ?_
 rintro e wt2 ⟨rfl, hb⟩
 have BA2 := lh (BA1.out.trans (hb.mono BA1.out.size))
 have Q2 := lh (Q1.out.below hb)
 clear hb HT
 go_wp2_with fail
 have HT := qskip_no Q2.out s_function (HSEE.out s_function (by first | decide | simp))
 refine HT.mono ?_
 rintro e wt3 ⟨rfl, hb⟩
 have BA3 := lh (BA2.out.trans (hb.mono BA2.out.size))
 have Q3 := lh (Q2.out.below hb)
 clear hb HT
 go_wp2_with fail
 have HT := qskip_no Q3.out s_if (HSEE.out s_if (by first | decide | simp))
 refine HT.mono ?_
 rintro e wt4 ⟨rfl, hb⟩
 have BA4 := lh (BA3.out.trans (hb.mono BA3.out.size))
 have Q4 := lh (Q3.out.below hb)
 clear hb HT
 go_wp2_with fail
 have HT := qnext_any Q4.out s_while
 rw [HSEE.out s_while (by first | decide | simp)] at HT
 refine HT.mono ?_
 rintro e wt5 ⟨rfl, hb⟩
 have BA5 := lh (BA4.out.trans (hb.mono BA4.out.size))
 have Q5 := lh (Q4.out.below hb)
 clear hb HT
 go_wp2_with fail
 have HT := qnext_any Q5.out s_with
 rw [HSEE.out s_with (by first | decide | simp)] at HT
 refine HT.mono ?_
 rintro e wt6 ⟨rfl, hb⟩
 have BA6 := lh (BA5.out.trans (hb.mono BA5.out.size))
 have Q6 := lh (Q5.out.below hb)
 clear hb HT
 go_wp2_with fail
 have HT := qskip_no Q6.out s_try (HSEE.out s_try (by first | decide | simp))
 refine HT.mono ?_
 rintro e wt7 ⟨rfl, hb⟩
 have BA7 := lh (BA6.out.trans (hb.mono BA6.out.size))
 have Q7 := lh (Q6.out.below hb)
 clear hb HT
 go_wp2_with fail
 have HT := qnext_any Q7.out s_var
 rw [HSEE.out s_var (by first | decide | simp)] at HT
 refine HT.mono ?_
 rintro e wt8 ⟨rfl, hb⟩
 have BA8 := lh (BA7.out.trans (hb.mono BA7.out.size))
 have Q8 := lh (Q7.out.below hb)
 clear hb HT
 go_wp2_with fail
 have HT := qnext_any Q8.out s_let
 rw [HSEE.out s_let (by first | decide | simp)] at HT
 refine HT.mono ?_
 rintro e wt9 ⟨rfl, hb⟩
 have BA9 := lh (BA8.out.trans (hb.mono BA8.out.size))
 have Q9 := lh (Q8.out.below hb)
 clear hb HT
 go_wp2_with fail
 have HT := qnext_any Q9.out s_const
 rw [HSEE.out s_const (by first | decide | simp)] at HT
 refine HT.mono ?_
 rintro e wt10 ⟨rfl, hb⟩
 have BA10 := lh (BA9.out.trans (hb.mono BA9.out.size))
 have Q10 := lh (Q9.out.below hb)
 clear hb HT
 go_wp2_with fail
 have HT := qskip_no Q10.out s_return (HSEE.out s_return (by first | decide | simp))
 refine HT.mono ?_
 rintro e wt11 ⟨rfl, hb⟩
 have BA11 := lh (BA10.out.trans (hb.mono BA10.out.size))
 have Q11 := lh (Q10.out.below hb)
 clear hb HT
 go_wp2_with fail
 have HT := qskip_no Q11.out s_throw (HSEE.out s_throw (by first | decide | simp))
 refine HT.mono ?_
 rintro e wt12 ⟨rfl, hb⟩
 have BA12 := lh (BA11.out.trans (hb.mono BA11.out.size))
 have Q12 := lh (Q11.out.below hb)
 clear hb HT
 have Q3 := Q12
 have F3 := lh (RFr.below (rb := C.rb) BA12.out)
 have hdd := HD.out
 go_wp2_with fail
 refine (HV.out wt12 C B (d + 1) _ _ _ Q3.out HR.out (Nat.le_trans HB.out (F0.out.trans F3.out).size) (by have := HDF.out; omega) HP.out).mono ?_
 rintro e w4 ⟨a, rfl, h4, h5, h6⟩
 have hal4 := (Below.refl w4.heap.size w4).alloc (Nat.le_refl _) (.cells #[a.ptr] 22)
 have hFF := (F3.out.trans h6).trans (RFr.below (rb := C.rb) hal4)
 have hG := G0.out.rfr HR.out hFF
 have hblk := hG.at'.blkOf
 replace hblk : (w4.alloc (.cells #[.pointer (some ⟨a.b, 0, none⟩)] 22)).heap[nb]? = some (.cells #[.int .i64 0, .string ⟨#[]⟩, .int .i64 0, .slice none 0 0] 29 (0, 0)) := hblk
 have hL := (KidsAt.one h4).lit (Nat.le_trans HB.out ((F0.out.trans F3.out).trans h6).size) h6.size (by simp)
 have hap := hL.apart (b := nb) (Nat.lt_of_lt_of_le HNBW.out F3.out.size)
 have FIN := lh (Got.kindKids (k' := 15) HR.out HB.out hG (hL.pre (w0 := w) (F0.out.trans F3.out).size) hap.1 hap.2 (F0.out.trans hFF))
 have Q5 := lh (h5.below hal4)
 have y0 : (w4.alloc (.cells #[.pointer (some ⟨a.b, 0, none⟩)] 22)).cell? ⟨nb, 0, none⟩ = some (.int .i64 0) := by simp only [World.cell?, hblk]; rfl
 have z0 : (w4.alloc (.cells #[.pointer (some ⟨a.b, 0, none⟩)] 22)).frozen? ⟨nb, 0, none⟩ = false := by simp only [World.frozen?, hblk]; rfl
 have y3 : (w4.alloc (.cells #[.pointer (some ⟨a.b, 0, none⟩)] 22)).cell? ⟨nb, 3, none⟩ = some (.slice none 0 0) := by simp only [World.cell?, hblk]; rfl
 have z3 : (w4.alloc (.cells #[.pointer (some ⟨a.b, 0, none⟩)] 22)).frozen? ⟨nb, 3, none⟩ = false := by simp only [World.frozen?, hblk]; rfl
 clear h4 h5 h6 hal4 hFF hG hblk hL hap
 go_wp2_with fail
 obtain ⟨g1, g2, g3⟩ := FIN.out
 have Q6 := Q5.out.keep fun k hk => g3 k (by have := HR.out; omega)
 refine (qmust_any Q6 s_semi B HR.out (Nat.le_trans HB.out g2.size)).mono ?_
 rintro e w7 ⟨rfl, h7, f7⟩
 have G7 := lh (g1.rfr HR.out f7)
 have Q7 := lh h7
 have F7 := lh (g2.trans f7)
 clear g1 g2 g3 Q6 h7 f7 y0 z0 y3 z3
 go_wp2
 go_ret
 exact ⟨_, rfl, G7.out, Q7.out, F7.out⟩
set_option maxHeartbeats 4000000 in
theorem st_return0_q (f : Nat) (w : World) (C : QC) (B d : Nat) (σ : RS) (t : Tree) (σ' : RS) (hQ : QS w C σ) (hr : C.rb < B) (hB : B ≤ w.heap.size) (hd : d ≤ 30) (hdf : d + (f + 1) ≤ 1000000000000) (hsee : ∀ s : ByteArray, s ≠ s_return → nextR s σ = false) (hn : nextR s_return σ = true) (ht : t = .mk 10 ByteArray.empty 0 []) (hs1 : σ' = mustR s_semi (advR σ)) (hse : nextR s_semi (advR σ) = true) :
 Calls Tryz.prog 16 (qd C.rb d) w (QPost w C B t σ') := by
 have n30 : ¬ (d : Int) > 30 := by omega
 obtain ⟨nb, hnb⟩ : ∃ b, b = w.heap.size := ⟨_, rfl⟩
 obtain ⟨w0, hw0⟩ : ∃ W, W = w.alloc (.cells #[.int .i64 0, .string ⟨#[]⟩, .int .i64 0, .slice none 0 0] 29) := ⟨_, rfl⟩
 have hal : Below w.heap.size w w0 := by rw [hw0]; exact (Below.refl _ _).alloc (Nat.le_refl _) _
 have Q0 := lh (hQ.below hal)
 have F0 := lh (RFr.below (rb := C.rb) hal)
 have G0 := lh (show Got w B w0 (.mk nb (.slice none 0 0) 0 ⟨#[]⟩ 0 []) (.mk 0 ⟨#[]⟩ 0 []) by rw [hw0, hnb]; exact Got.leaf hB (RFr.refl w C.rb))
 have HR := lh hr
 have HB := lh hB
 have HW0 := lh hw0
 have HNB := lh hnb
 have HNBW := lh (show nb < w0.heap.size by rw [hw0, hnb]; simp)
 have HD := lh hd
 have HDF := lh hdf
 have HSEE := lh hsee
 have HSN := lh hn
 have HSEMI := lh hse
 subst ht hs1
 clear hQ hr hB hd hdf hsee hn hal hw0 hnb hse
 unfold qd
 go_enter Tryz.func16, Tryz.ntmps16
 go_wp2_with fail
 rw [← HW0.out, ← HNB.out]
 have BA0 := lh (Below.refl w0.heap.size w0)
 have HT := qnext_any Q0.out s_lbrace
 rw [HSEE.out s_lbrace (by first | decide | simp)] at HT
 refine HT.mono ?_
 rintro e wt1 ⟨rfl, hb⟩
 have BA1 := lh (BA0.out.trans (hb.mono BA0.out.size))
 have Q1 := lh (Q0.out.below hb)
 clear hb HT
 go_wp2_with fail
 have HT := qskip_no Q1.out s_semi (HSEE.out s_semi (by first | decide | simp))
 refine HT.mono ?_
 rintro e wt2 ⟨rfl, hb⟩
 have BA2 := lh (BA1.out.trans (hb.mono BA1.out.size))
 have Q2 := lh (Q1.out.below hb)
 clear hb HT
 go_wp2_with fail
 have HT := qskip_no Q2.out s_function (HSEE.out s_function (by first | decide | simp))
 refine HT.mono ?_
 rintro e wt3 ⟨rfl, hb⟩
 have BA3 := lh (BA2.out.trans (hb.mono BA2.out.size))
 have Q3 := lh (Q2.out.below hb)
 clear hb HT
 go_wp2_with fail
 have HT := qskip_no Q3.out s_if (HSEE.out s_if (by first | decide | simp))
 refine HT.mono ?_
 rintro e wt4 ⟨rfl, hb⟩
 have BA4 := lh (BA3.out.trans (hb.mono BA3.out.size))
 have Q4 := lh (Q3.out.below hb)
 clear hb HT
 go_wp2_with fail
 have HT := qnext_any Q4.out s_while
 rw [HSEE.out s_while (by first | decide | simp)] at HT
 refine HT.mono ?_
 rintro e wt5 ⟨rfl, hb⟩
 have BA5 := lh (BA4.out.trans (hb.mono BA4.out.size))
 have Q5 := lh (Q4.out.below hb)
 clear hb HT
 go_wp2_with fail
 have HT := qnext_any Q5.out s_with
 rw [HSEE.out s_with (by first | decide | simp)] at HT
 refine HT.mono ?_
 rintro e wt6 ⟨rfl, hb⟩
 have BA6 := lh (BA5.out.trans (hb.mono BA5.out.size))
 have Q6 := lh (Q5.out.below hb)
 clear hb HT
 go_wp2_with fail
 have HT := qskip_no Q6.out s_try (HSEE.out s_try (by first | decide | simp))
 refine HT.mono ?_
 rintro e wt7 ⟨rfl, hb⟩
 have BA7 := lh (BA6.out.trans (hb.mono BA6.out.size))
 have Q7 := lh (Q6.out.below hb)
 clear hb HT
 go_wp2_with fail
 have HT := qnext_any Q7.out s_var
 rw [HSEE.out s_var (by first | decide | simp)] at HT
 refine HT.mono ?_
 rintro e wt8 ⟨rfl, hb⟩
 have BA8 := lh (BA7.out.trans (hb.mono BA7.out.size))
 have Q8 := lh (Q7.out.below hb)
 clear hb HT
 go_wp2_with fail
 have HT := qnext_any Q8.out s_let
 rw [HSEE.out s_let (by first | decide | simp)] at HT
 refine HT.mono ?_
 rintro e wt9 ⟨rfl, hb⟩
 have BA9 := lh (BA8.out.trans (hb.mono BA8.out.size))
 have Q9 := lh (Q8.out.below hb)
 clear hb HT
 go_wp2_with fail
 have HT := qnext_any Q9.out s_const
 rw [HSEE.out s_const (by first | decide | simp)] at HT
 refine HT.mono ?_
 rintro e wt10 ⟨rfl, hb⟩
 have BA10 := lh (BA9.out.trans (hb.mono BA9.out.size))
 have Q10 := lh (Q9.out.below hb)
 clear hb HT
 go_wp2_with fail
 have HT := qskip_any Q10.out s_return
 rw [HSN.out, if_pos rfl] at HT
 refine HT.mono ?_
 rintro e w3 ⟨rfl, h3, f3⟩
 have Q3 := lh h3
 have F3 := lh ((RFr.below (rb := C.rb) BA10.out).trans f3)
 clear h3 f3 HT
 have hG3 := G0.out.rfr HR.out F3.out
 obtain ⟨y0, _, _, z0, _⟩ := hG3.cells
 have z0 := z0 0
 have K3 := Got.kind0 (k' := 10) HR.out HB.out hG3 (F0.out.trans F3.out)
 have G4 := lh K3.1
 have F4 := lh K3.2.1
 have Q4 := lh (Q3.out.keep fun k hk => K3.2.2 k (by have := HR.out; omega))
 have hdd := HD.out
 clear hG3 K3
 go_wp2_with fail
 have HT := qnext_any Q4.out s_semi
 rw [HSEMI.out] at HT
 refine HT.mono ?_
 rintro e w5 ⟨rfl, hb⟩
 have Q5 := lh (Q4.out.below hb)
 have G5 := lh (G4.out.rfr HR.out (RFr.below (rb := C.rb) hb))
 have F5 := lh (F4.out.trans (RFr.below (rb := C.rb) hb))
 clear hb HT Q4 G4 F4 y0 z0
 go_wp2_with fail
 refine (qmust_any Q5.out s_semi B HR.out (Nat.le_trans HB.out F5.out.size)).mono ?_
 rintro e w7 ⟨rfl, h7, f7⟩
 have G7 := lh (G5.out.rfr HR.out f7)
 have Q7 := lh h7
 have F7 := lh (F5.out.trans f7)
 clear h7 f7
 go_wp2
 go_ret
 exact ⟨_, rfl, G7.out, Q7.out, F7.out⟩
set_option maxHeartbeats 4000000 in
theorem st_return1_q (f : Nat) (hV : QSays 42 qd .value f) (x : Tree) (σ1 : RS) (w : World) (C : QC) (B d : Nat) (σ : RS) (t : Tree) (σ' : RS) (hQ : QS w C σ) (hr : C.rb < B) (hB : B ≤ w.heap.size) (hd : d ≤ 30) (hdf : d + (f + 1) ≤ 1000000000000) (hsee : ∀ s : ByteArray, s ≠ s_return → nextR s σ = false) (hn : nextR s_return σ = true) (ht : t = .mk 10 ByteArray.empty 0 [x]) (hs1 : σ' = mustR s_semi σ1) (hse : nextR s_semi (advR σ) = false) (hp : refF f .value (d + 1) (advR σ) = some (x, σ1)) :
 Calls Tryz.prog 16 (qd C.rb d) w (QPost w C B t σ') := by
 have n30 : ¬ (d : Int) > 30 := by omega
 obtain ⟨nb, hnb⟩ : ∃ b, b = w.heap.size := ⟨_, rfl⟩
 obtain ⟨w0, hw0⟩ : ∃ W, W = w.alloc (.cells #[.int .i64 0, .string ⟨#[]⟩, .int .i64 0, .slice none 0 0] 29) := ⟨_, rfl⟩
 have hal : Below w.heap.size w w0 := by rw [hw0]; exact (Below.refl _ _).alloc (Nat.le_refl _) _
 have Q0 := lh (hQ.below hal)
 have F0 := lh (RFr.below (rb := C.rb) hal)
 have G0 := lh (show Got w B w0 (.mk nb (.slice none 0 0) 0 ⟨#[]⟩ 0 []) (.mk 0 ⟨#[]⟩ 0 []) by rw [hw0, hnb]; exact Got.leaf hB (RFr.refl w C.rb))
 have HR := lh hr
 have HB := lh hB
 have HW0 := lh hw0
 have HNB := lh hnb
 have HNBW := lh (show nb < w0.heap.size by rw [hw0, hnb]; simp)
 have HD := lh hd
 have HDF := lh hdf
 have HSEE := lh hsee
 have HSN := lh hn
 have HSEMI := lh hse
 have HV := lh hV
 have HP := lh hp
 subst ht hs1
 clear hQ hr hB hd hdf hsee hn hal hw0 hnb hse hV hp
 unfold qd
 go_enter Tryz.func16, Tryz.ntmps16
 go_wp2_with fail
 rw [← HW0.out, ← HNB.out]
 have BA0 := lh (Below.refl w0.heap.size w0)
 have HT := qnext_any Q0.out s_lbrace
 rw [HSEE.out s_lbrace (by first | decide | simp)] at HT
 refine HT.mono ?_
 rintro e wt1 ⟨rfl, hb⟩
 have BA1 := lh (BA0.out.trans (hb.mono BA0.out.size))
 have Q1 := lh (Q0.out.below hb)
 clear hb HT
 go_wp2_with fail
 have HT := qskip_no Q1.out s_semi (HSEE.out s_semi (by first | decide | simp))
 refine HT.mono ?_
 rintro e wt2 ⟨rfl, hb⟩
 have BA2 := lh (BA1.out.trans (hb.mono BA1.out.size))
 have Q2 := lh (Q1.out.below hb)
 clear hb HT
 go_wp2_with fail
 have HT := qskip_no Q2.out s_function (HSEE.out s_function (by first | decide | simp))
 refine HT.mono ?_
 rintro e wt3 ⟨rfl, hb⟩
 have BA3 := lh (BA2.out.trans (hb.mono BA2.out.size))
 have Q3 := lh (Q2.out.below hb)
 clear hb HT
 go_wp2_with fail
 have HT := qskip_no Q3.out s_if (HSEE.out s_if (by first | decide | simp))
 refine HT.mono ?_
 rintro e wt4 ⟨rfl, hb⟩
 have BA4 := lh (BA3.out.trans (hb.mono BA3.out.size))
 have Q4 := lh (Q3.out.below hb)
 clear hb HT
 go_wp2_with fail
 have HT := qnext_any Q4.out s_while
 rw [HSEE.out s_while (by first | decide | simp)] at HT
 refine HT.mono ?_
 rintro e wt5 ⟨rfl, hb⟩
 have BA5 := lh (BA4.out.trans (hb.mono BA4.out.size))
 have Q5 := lh (Q4.out.below hb)
 clear hb HT
 go_wp2_with fail
 have HT := qnext_any Q5.out s_with
 rw [HSEE.out s_with (by first | decide | simp)] at HT
 refine HT.mono ?_
 rintro e wt6 ⟨rfl, hb⟩
 have BA6 := lh (BA5.out.trans (hb.mono BA5.out.size))
 have Q6 := lh (Q5.out.below hb)
 clear hb HT
 go_wp2_with fail
 have HT := qskip_no Q6.out s_try (HSEE.out s_try (by first | decide | simp))
 refine HT.mono ?_
 rintro e wt7 ⟨rfl, hb⟩
 have BA7 := lh (BA6.out.trans (hb.mono BA6.out.size))
 have Q7 := lh (Q6.out.below hb)
 clear hb HT
 go_wp2_with fail
 have HT := qnext_any Q7.out s_var
 rw [HSEE.out s_var (by first | decide | simp)] at HT
 refine HT.mono ?_
 rintro e wt8 ⟨rfl, hb⟩
 have BA8 := lh (BA7.out.trans (hb.mono BA7.out.size))
 have Q8 := lh (Q7.out.below hb)
 clear hb HT
 go_wp2_with fail
 have HT := qnext_any Q8.out s_let
 rw [HSEE.out s_let (by first | decide | simp)] at HT
 refine HT.mono ?_
 rintro e wt9 ⟨rfl, hb⟩
 have BA9 := lh (BA8.out.trans (hb.mono BA8.out.size))
 have Q9 := lh (Q8.out.below hb)
 clear hb HT
 go_wp2_with fail
 have HT := qnext_any Q9.out s_const
 rw [HSEE.out s_const (by first | decide | simp)] at HT
 refine HT.mono ?_
 rintro e wt10 ⟨rfl, hb⟩
 have BA10 := lh (BA9.out.trans (hb.mono BA9.out.size))
 have Q10 := lh (Q9.out.below hb)
 clear hb HT
 go_wp2_with fail
 have HT := qskip_any Q10.out s_return
 rw [HSN.out, if_pos rfl] at HT
 refine HT.mono ?_
 rintro e w3 ⟨rfl, h3, f3⟩
 have Q3 := lh h3
 have F3 := lh ((RFr.below (rb := C.rb) BA10.out).trans f3)
 clear h3 f3 HT
 have hG3 := G0.out.rfr HR.out F3.out
 obtain ⟨y0, _, _, z0, _⟩ := hG3.cells
 have z0 := z0 0
 have K3 := Got.kind0 (k' := 10) HR.out HB.out hG3 (F0.out.trans F3.out)
 have G4 := lh K3.1
 have F4 := lh K3.2.1
 have Q4 := lh (Q3.out.keep fun k hk => K3.2.2 k (by have := HR.out; omega))
 have hdd := HD.out
 clear hG3 K3
 go_wp2_with fail
 have HT := qnext_any Q4.out s_semi
 rw [HSEMI.out] at HT
 refine HT.mono ?_
 rintro e w5 ⟨rfl, hb⟩
 have Q5 := lh (Q4.out.below hb)
 have G5 := lh (G4.out.rfr HR.out (RFr.below (rb := C.rb) hb))
 have F5 := lh (F4.out.trans (RFr.below (rb := C.rb) hb))
 clear hb HT Q4 G4 F4 y0 z0
 go_wp2_with fail
 refine (HV.out w5 C B (d + 1) _ _ _ Q5.out HR.out (Nat.le_trans HB.out F5.out.size) (by have := HDF.out; omega) HP.out).mono ?_
 rintro e w6 ⟨a, rfl, h4, h5, h6⟩
 obtain ⟨⟨y3, z3⟩, g1, g2, g3⟩ := Got.giveKids HR.out HB.out G5.out F5.out h6 (KidsAt.one h4) (by simp) #[.pointer (some ⟨a.b, 0, none⟩)] rfl 1 rfl
 have G6 := lh g1
 have F6 := lh g2
 have Q6 := lh (h5.keep fun k hk => g3 k (by have := HR.out; omega))
 clear h4 h5 h6 g1 g2 g3
 go_wp2_with fail
 refine (qmust_any Q6.out s_semi B HR.out (Nat.le_trans HB.out F6.out.size)).mono ?_
 rintro e w7 ⟨rfl, h7, f7⟩
 have G7 := lh (G6.out.rfr HR.out f7)
 have Q7 := lh h7
 have F7 := lh (F6.out.trans f7)
 clear h7 f7 y3 z3
 go_wp2
 go_ret
 exact ⟨_, rfl, G7.out, Q7.out, F7.out⟩
end Go.Proofs.YtilchadbjflpgaaGreatDoor
