/- Package early, whole: Check; the law EarlyMore's fact; the law, walked. The law EarlyMore, walked. What a listed variable gives a walk: rows of texts. What a listed variable gives a walk: an array of rows of texts, second on the list. -/
import Derived.Test.YtgifgiipojedbaaGreatDoorJ18
import Derived.Test.YtgifgiipojedbaaGreatDoorJ30
import Derived.Test.YtgifgiipojedbaaGreatDoorProg
import Derived.Lib.LaidTab
import Derived.LaidMore
import Derived.Stop.Joined
import Derived.WalkKit
namespace Go.Proofs.YtgifgiipojedbaaGreatDoor
open Go Go.RowKit
set_option maxRecDepth 100000
set_option linter.unusedVariables false

theorem len1 {l : List ATree} (h : l.length = 1) : ∃ x, l = [x] := by
  match l, h with
  | [x], _ => exact ⟨x, rfl⟩
theorem len3 {l : List ATree} (h : l.length = 3) : ∃ x y z, l = [x, y, z] := by
  match l, h with
  | [x, y, z], _ => exact ⟨x, y, z, rfl⟩
theorem enode_all (B : Nat) : ∀ m, ENode B m := by
  intro m
  induction m with
  | zero => intro a w st ins hm; obtain ⟨b, v, k, t, n, ks⟩ := a; simp [ATree.many] at hm
  | succ m ih =>
    intro a w st ins hm hA hbig hT
    have hK : EKids B m := ekids_of ih
    have ha := hA.self
    by_cases h2 : a.kind = 2
    · exact enode_k2 hK a w st ins hm hA hbig hT h2
    by_cases h3 : a.kind = 3
    · exact enode_k3 hK a w st ins hm hA hbig hT h3
    by_cases h4 : a.kind = 4
    · exact enode_k4 hK a w st ins hm hA hbig hT h4
    by_cases h13 : a.kind = 13
    · obtain ⟨x, hk⟩ := len1 (ha.one (.inl h13))
      exact enode_k13 hK a w st ins hm hA hbig hT h13 x hk
    by_cases h5 : a.kind = 5
    · obtain ⟨x, y, hk⟩ := two_of (ha.two (by omega))
      cases st
      · exact enode_k5f hK a w ins hm hA hbig hT h5 x y hk
      · exact enode_k5t hK a w ins hm hA hbig hT h5 x y hk
    by_cases h37 : a.kind = 37
    · obtain ⟨x, y, hk⟩ := two_of (ha.two (by omega))
      cases st
      · exact enode_k37f hK a w ins hm hA hbig hT h37 x y hk
      · exact enode_k37t hK a w ins hm hA hbig hT h37 x y hk
    by_cases h6 : a.kind = 6
    · exact enode_k6 hK a w st ins hm hA hbig hT h6
    by_cases h7 : a.kind = 7
    · rcases ha.if' h7 with h | h
      · obtain ⟨x, y, hk⟩ := two_of h
        exact enode_k7a hK a w st ins hm hA hbig hT h7 x y hk
      · obtain ⟨x, y, z, hk⟩ := len3 h
        exact enode_k7b hK a w st ins hm hA hbig hT h7 x y z hk
    by_cases h8 : a.kind = 8
    · obtain ⟨x, y, hk⟩ := two_of (ha.two (by omega))
      exact enode_k8 hK a w st ins hm hA hbig hT h8 x y hk
    by_cases h9 : a.kind = 9
    · obtain ⟨x, y, hk⟩ := two_of (ha.two (by omega))
      cases st
      · exact enode_k9f hK a w ins hm hA hbig hT h9 x y hk
      · exact enode_k9t hK a w ins hm hA hbig hT h9
    by_cases h10 : a.kind = 10
    · cases ins
      · exact enode_k10f hK a w st hm hA hbig hT h10
      · exact enode_k10t hK a w st hm hA hbig hT h10
    by_cases h24 : a.kind = 24
    · obtain ⟨x, y, hk⟩ := two_of (ha.two (by omega))
      exact enode_k24 hK a w st ins hm hA hbig hT h24 x y hk
    by_cases h34 : a.kind = 34
    · obtain ⟨x, hk⟩ := len1 (ha.one (.inr h34))
      cases st
      · exact enode_k34f hK a w ins hm hA hbig hT h34 x hk
      · exact enode_k34t hK a w ins hm hA hbig hT h34 x hk
    exact enode_def hK a w st ins hm hA hbig hT h2 h3 h4 h13 h5 h37 h6 h7 h8 h9 h10 h24 h34

set_option maxHeartbeats 8000000 in
theorem check_with (w : World) (B : Nat) (a : ATree) (st ins : Bool) (hT : TreeAt w B a) (hA : WA a) (hbig : a.many < 274877906944) :
    Calls Tryz.prog 14 #[a.ptr, .bool st, .bool ins] w fun e w' => e = .returned (errV (checkE a st ins)) ∧ Below w.heap.size w w' := by
  have HST := Lib.hid (fun W (h : TreeAt W B a) => strict_any W B a h)
  obtain ⟨sb, hsb⟩ : ∃ b, b = (st || isStrict a) := ⟨_, rfl⟩
  obtain ⟨s0, hs0⟩ : ∃ b, b = isStrict a := ⟨_, rfl⟩
  have HSC := Lib.hid (fun W (h : TreeAt W B a) => scope_any W B a sb ins true h hbig)
  have HKI := Lib.hid (fun W (h : TreeAt W B a) => ekids_of (enode_all B a.many) a W sb ins (by omega) (fun k hk => hA.kid hk) hbig h)
  have hcode : checkE a st ins = if scopeF a true then 9 else kidsE a.kids sb ins := by unfold checkE; rw [hsb]
  rw [hcode]
  obtain ⟨SB, hSB⟩ : ∃ b, b = scopeF a true := ⟨_, rfl⟩
  obtain ⟨RK, hRK⟩ : ∃ b, b = kidsE a.kids sb ins := ⟨_, rfl⟩
  rw [← hSB] at HSC ⊢
  rw [← hRK] at HKI ⊢
  rw [← hs0] at HST hsb
  obtain ⟨ev, hev⟩ : ∃ v, v = errV (if SB then 9 else RK) := ⟨_, rfl⟩
  rw [← hev]
  have HEV := Lib.hid hev
  have hba : Below w.heap.size w (w.alloc (.cells #[.bool sb, .bool ins] 69)) := (Below.refl _ _).alloc (Nat.le_refl _) _
  have d0 : (w.alloc (.cells #[.bool sb, .bool ins] 69)).cell? ⟨w.heap.size, 0, none⟩ = some (.bool sb) := by simp
  have d1 : (w.alloc (.cells #[.bool sb, .bool ins] 69)).cell? ⟨w.heap.size, 1, none⟩ = some (.bool ins) := by simp
  have hsz : (w.alloc (.cells #[.bool sb, .bool ins] 69)).heap.size = w.heap.size + 1 := by simp
  have HB := Lib.hid hba
  have HT := Lib.hid hT
  obtain ⟨w1, hw1⟩ : ∃ w1, w1 = w.alloc (.cells #[.bool sb, .bool ins] 69) := ⟨_, rfl⟩
  have HW1 := Lib.hid hw1
  rw [← hw1] at hsz d0 d1 hba
  have hall : ∀ W, Below w1.heap.size w1 W → W.cell? ⟨w.heap.size, 0, none⟩ = some (.bool sb) ∧ W.cell? ⟨w.heap.size, 1, none⟩ = some (.bool ins) ∧ Below w.heap.size w W ∧ TreeAt W B a := fun W h => by
    have h2 := hba.trans (h.mono hba.size)
    exact ⟨(World.cell?_of_block (h.block w.heap.size (by omega))).trans d0, (World.cell?_of_block (h.block w.heap.size (by omega))).trans d1, h2, hT.bel h2⟩
  obtain ⟨q0, q1, hbw, hTw⟩ := hall w1 (Below.refl _ _)
  have HALL := Lib.hid hall
  have HTW := Lib.hid hTw
  have HBW := Lib.hid hbw
  have rest : ∀ (K : Prop), K → K := fun _ h => h
  clear hT hA hbig hcode hSB hRK hs0 hev hba hsz d0 d1 hw1 hall hbw hTw rest
  unfold ATree.ptr at HST HSC HKI ⊢
  cases st
  · rw [Bool.false_or] at hsb
    subst hsb
    go_enter Tryz.func14, Tryz.ntmps14
    go_wp2_with fail
    refine (HST.out w HT.out).mono ?_
    rintro e w' ⟨rfl, hww⟩
    rw [hww]
    clear hww w' HST
    go_wp2_with fail
    rw [← HW1.out]
    refine (HSC.out w1 HTW.out).mono ?_
    rintro e w3 ⟨rfl, hb3⟩
    obtain ⟨r0, r1, hb5, hT3⟩ := HALL.out w3 hb3
    have HB5 := Lib.hid hb5
    have HT3 := Lib.hid hT3
    clear hb3 hb5 hT3 q0 q1
    cases SB
    · simp only [Bool.false_eq_true, if_false] at HEV ⊢
      go_wp2_with fail
      refine (HKI.out w3 HT3.out).mono ?_
      rintro e w4 ⟨rfl, hb4⟩
      have HB6 := Lib.hid (HB5.out.trans (hb4.mono HB5.out.size))
      clear hb4
      by_cases hz : RK = 0
      · subst hz
        go_wp2
        go_ret
        exact ⟨by rw [HEV.out]; rfl, HB6.out⟩
      · have n0 : (RK != 0) = true := by simpa using hz
        have HEV2 : Hid (ev = .iface 62 (.int .i64 RK)) := Lib.hid (by rw [HEV.out]; unfold errV; rw [if_neg hz])
        clear hz HEV
        go_wp2
        go_ret
        exact ⟨by rw [HEV2.out]; rfl, HB6.out⟩
    · simp only [if_true] at HEV ⊢
      go_wp2
      go_ret
      exact ⟨by rw [HEV.out]; rfl, HB5.out⟩
  · rw [Bool.true_or] at hsb
    subst hsb
    go_enter Tryz.func14, Tryz.ntmps14
    go_wp2_with fail
    rw [← HW1.out]
    refine (HSC.out w1 HTW.out).mono ?_
    rintro e w3 ⟨rfl, hb3⟩
    obtain ⟨r0, r1, hb5, hT3⟩ := HALL.out w3 hb3
    have HB5 := Lib.hid hb5
    have HT3 := Lib.hid hT3
    clear hb3 hb5 hT3 q0 q1
    cases SB
    · simp only [Bool.false_eq_true, if_false] at HEV ⊢
      go_wp2_with fail
      refine (HKI.out w3 HT3.out).mono ?_
      rintro e w4 ⟨rfl, hb4⟩
      have HB6 := Lib.hid (HB5.out.trans (hb4.mono HB5.out.size))
      clear hb4
      by_cases hz : RK = 0
      · subst hz
        go_wp2
        go_ret
        exact ⟨by rw [HEV.out]; rfl, HB6.out⟩
      · have n0 : (RK != 0) = true := by simpa using hz
        have HEV2 : Hid (ev = .iface 62 (.int .i64 RK)) := Lib.hid (by rw [HEV.out]; unfold errV; rw [if_neg hz])
        clear hz HEV
        go_wp2
        go_ret
        exact ⟨by rw [HEV2.out]; rfl, HB6.out⟩
    · simp only [if_true] at HEV ⊢
      go_wp2
      go_ret
      exact ⟨by rw [HEV.out]; rfl, HB5.out⟩
end Go.Proofs.YtgifgiipojedbaaGreatDoor

namespace Go.Proofs.YtgifgiipojedbaaGreatDoor
open Go Go.RowKit
set_option maxRecDepth 100000
set_option linter.unusedVariables false

def withText : ByteArray := ⟨#[119, 105, 116, 104, 32, 40, 97, 41, 32, 98, 59]⟩
def withTree : Tree := .mk 1 ⟨#[]⟩ 0 [.mk 9 ⟨#[]⟩ 0 [.mk 23 ⟨#[97]⟩ 0 [], .mk 15 ⟨#[]⟩ 0 [.mk 23 ⟨#[98]⟩ 0 []]]]
theorem with_parse : parseAll withText = .ok withTree := by kernel_rfl
theorem tree_mk {a : ATree} {k : Int} {s : ByteArray} {n : Int} {l : List Tree} (h : a.tree = .mk k s n l) : ∃ b v ks, a = .mk b v k s n ks ∧ treeL ks = l := by
  obtain ⟨b, v, k', s', n', ks⟩ := a
  simp only [ATree.tree, Tree.mk.injEq] at h
  obtain ⟨rfl, rfl, rfl, h⟩ := h
  exact ⟨b, v, ks, rfl, h⟩
theorem treeL_one {l : List ATree} {t : Tree} {r : List Tree} (h : treeL l = t :: r) : ∃ a l', l = a :: l' ∧ a.tree = t ∧ treeL l' = r := by
  cases l with
  | nil => simp [treeL] at h
  | cons a l => simp only [treeL, List.cons.injEq] at h; exact ⟨a, l, rfl, h.1, h.2⟩
theorem treeL_none {l : List ATree} (h : treeL l = []) : l = [] := by
  cases l with
  | nil => rfl
  | cons a l => simp [treeL] at h
theorem with_codes {a : ATree} (h : a.tree = withTree) : checkE a false false = 0 ∧ checkE a true false = 1 := by
  obtain ⟨b0, v0, l0, rfl, g0⟩ := tree_mk h
  obtain ⟨a1, r0, rfl, h1, e0⟩ := treeL_one g0
  obtain rfl := treeL_none e0
  obtain ⟨b1, v1, l1, rfl, g1⟩ := tree_mk h1
  obtain ⟨a2, r1, rfl, h2, f1⟩ := treeL_one g1
  obtain ⟨a3, r2, rfl, h3, e2⟩ := treeL_one f1
  obtain rfl := treeL_none e2
  obtain ⟨b2, v2, l2, rfl, g2⟩ := tree_mk h2
  obtain rfl := treeL_none g2
  obtain ⟨b3, v3, l3, rfl, g3⟩ := tree_mk h3
  obtain ⟨a4, r4, rfl, h4, e4⟩ := treeL_one g3
  obtain rfl := treeL_none e4
  obtain ⟨b4, v4, l4, rfl, g4⟩ := tree_mk h4
  obtain rfl := treeL_none g4
  exact ⟨rfl, rfl⟩
theorem Levels.up {w w1 : World} (h : Levels w w.heap.size) (hB : Below w.heap.size w w1) : Levels w1 w1.heap.size := by
  intro lv hl
  obtain ⟨b, off, cap, h1, h2, h3, h4, h5⟩ := h.keep (fun k hk => hB.block k hk) lv hl
  exact ⟨b, off, cap, Nat.lt_of_lt_of_le h1 hB.size, Nat.lt_of_lt_of_le h2 hB.size, h3, h4, h5⟩

set_option maxHeartbeats 8000000 in
theorem checked_any (w : World) (hW : Words w) (hL : Levels w w.heap.size) (hE : ErrType w) :
    Calls Tryz.prog 13 #[] w fun e w' => e = .returned (.bool true) ∧ Below w.heap.size w w' := by
  have hR := lawread_any w withText hW hL
  rw [with_parse] at hR
  unfold withText at hR
  have HR := Lib.hid hR
  have HE := Lib.hid hE
  clear hR hE
  go_enter Tryz.func13, Tryz.ntmps13
  go_wp2_with fail
  refine HR.out.mono ?_
  rintro e w1 ⟨hb, a, rfl, hg⟩
  have hk : (withTree.kind == 1) = true := by rfl
  have hwt := (parseAll_ok with_parse)
  have hA := wa_of a (by rw [hg.tree]; exact hwt.1)
  have hbig : a.many < 274877906944 := by have := congrArg Tree.many hg.tree; rw [many_tree] at this; have := hwt.2; omega
  have HC := Lib.hid (fun W st (h : TreeAt W w.heap.size a) => check_with W w.heap.size a st false h hA hbig)
  obtain ⟨hc1, hc2⟩ := with_codes hg.tree
  have HC1 := Lib.hid hc1
  have HC2 := Lib.hid hc2
  have HT := Lib.hid hg.at'
  have HB := Lib.hid hb
  unfold ATree.ptr at HC
  rw [hk]
  clear hwt hA hbig hc1 hc2 hg hb hk HR
  go_wp2_with fail
  refine (HC.out w1 false HT.out).mono ?_
  rintro e w2 ⟨rfl, hb2⟩
  rw [HC1.out]
  have HB2 := Lib.hid (HB.out.trans (hb2.mono HB.out.size))
  have HT2 := Lib.hid (HT.out.bel hb2)
  have e0 : errV 0 = .nilIface := rfl
  rw [e0]
  clear e0 hb2 HB HT
  go_wp2_with fail
  refine (HC.out w2 true HT2.out).mono ?_
  rintro e w3 ⟨rfl, hb3⟩
  rw [HC2.out]
  have HB3 := Lib.hid (HB2.out.trans (hb3.mono HB2.out.size))
  have htl := tell_any w3 1 (HE.out.below HB3.out)
  have e1 : errV 1 = .iface 62 (.int .i64 1) := rfl
  rw [e1] at htl ⊢
  have HTL := Lib.hid htl
  clear e1 hb3 htl HB2 HT2 HC
  go_wp2_with fail
  refine HTL.out.mono ?_
  rintro e w4 ⟨rfl, hb4⟩
  have HB4 := Lib.hid (HB3.out.trans (hb4.mono HB3.out.size))
  clear hb4 HTL
  go_wp2
  go_ret
  exact ⟨rfl, HB4.out⟩
theorem err_shape (c : Int) : errV c = .nilIface ∨ ∃ z, errV c = .iface 62 (.int .i64 z) := by
  unfold errV
  by_cases h : c = 0
  · rw [if_pos h]; exact .inl rfl
  · rw [if_neg h]; exact .inr ⟨_, rfl⟩
theorem err_nil {c : Int} (h : errV c = .nilIface) : c = 0 := by
  unfold errV at h
  by_cases h0 : c = 0
  · exact h0
  · rw [if_neg h0] at h; cases h
theorem err_less {a : ATree} {st ins st' ins' : Bool} (hst : st' = true → st = true) (hins : ins = true → ins' = true) (h : errV (checkE a st ins) = .nilIface) : errV (checkE a st' ins') = .nilIface := by
  rw [checkE_less hst hins (err_nil h)]
  rfl

set_option maxHeartbeats 8000000 in
theorem em_not (w : World) (text : ByteArray)
    (HR : Hid (Calls Tryz.prog 12 #[.string text] w fun e w' => (∃ p, e = .returned (.tuple #[p, .bool false])) ∧ Below w.heap.size w w'))
    (HTO : Hid (∀ w1, Below w.heap.size w w1 → Calls Tryz.prog 13 #[] w1 fun e w' => e = .returned (.bool true) ∧ Below w1.heap.size w1 w')) :
    Calls Tryz.prog 3 #[.string text] w fun e w' => e = .returned (.bool true) ∧ Below w.heap.size w w' := by
  go_enter Tryz.func3, Tryz.ntmps3
  go_wp2_with fail
  refine HR.out.mono ?_
  rintro e w1 ⟨⟨p, rfl⟩, hb⟩
  have HB := Lib.hid hb
  clear hb
  go_wp2_with fail
  refine (HTO.out w1 HB.out).mono ?_
  rintro e w2 ⟨rfl, hb⟩
  have HB2 := Lib.hid (HB.out.trans (hb.mono HB.out.size))
  clear hb
  go_wp2_with fail
  refine (HTO.out w2 HB2.out).mono ?_
  rintro e w3 ⟨rfl, hb⟩
  have HB3 := Lib.hid (HB2.out.trans (hb.mono HB2.out.size))
  clear hb
  go_wp2
  go_ret
  exact ⟨rfl, HB3.out⟩
set_option maxHeartbeats 8000000 in
theorem em_is (w : World) (text : ByteArray)
    (HR : Hid (Calls Tryz.prog 12 #[.string text] w fun e w' => Below w.heap.size w w' ∧ ∃ a, e = .returned (.tuple #[.pointer (some ⟨a.b, 0, none⟩), .bool true]) ∧ TreeAt w' w.heap.size a ∧ WA a ∧ a.many < 274877906944))
    (HTO : Hid (∀ w1, Below w.heap.size w w1 → Calls Tryz.prog 13 #[] w1 fun e w' => e = .returned (.bool true) ∧ Below w1.heap.size w1 w')) :
    Calls Tryz.prog 3 #[.string text] w fun e w' => e = .returned (.bool true) ∧ Below w.heap.size w w' := by
  go_enter Tryz.func3, Tryz.ntmps3
  go_wp2_with fail
  refine HR.out.mono ?_
  rintro e w1 ⟨hb, a, rfl, hT, hA, hm⟩
  have HB := Lib.hid hb
  have HT := Lib.hid hT
  have HC := Lib.hid (fun W st ins (h : TreeAt W w.heap.size a) => check_with W w.heap.size a st ins h hA hm)
  have M1 : Hid (errV (checkE a true false) = .nilIface → errV (checkE a false false) = .nilIface) := Lib.hid (err_less (by simp) (by simp))
  have M2 : Hid (errV (checkE a true false) = .nilIface → errV (checkE a true true) = .nilIface) := Lib.hid (err_less (by simp) (by simp))
  have M3 : Hid (errV (checkE a false false) = .nilIface → errV (checkE a false true) = .nilIface) := Lib.hid (err_less (by simp) (by simp))
  have M4 : Hid (errV (checkE a true true) = .nilIface → errV (checkE a false true) = .nilIface) := Lib.hid (err_less (by simp) (by simp))
  have S1 := Lib.hid (err_shape (checkE a true false))
  have S2 := Lib.hid (err_shape (checkE a false false))
  have S3 := Lib.hid (err_shape (checkE a true true))
  have S4 := Lib.hid (err_shape (checkE a false true))
  have C1 := Lib.hid (fun W h => HC.out W true false h)
  have C2 := Lib.hid (fun W h => HC.out W false false h)
  have C3 := Lib.hid (fun W h => HC.out W true true h)
  have C4 := Lib.hid (fun W h => HC.out W false true h)
  obtain ⟨v1, hv1⟩ : ∃ v, v = errV (checkE a true false) := ⟨_, rfl⟩
  obtain ⟨v2, hv2⟩ : ∃ v, v = errV (checkE a false false) := ⟨_, rfl⟩
  obtain ⟨v3, hv3⟩ : ∃ v, v = errV (checkE a true true) := ⟨_, rfl⟩
  obtain ⟨v4, hv4⟩ : ∃ v, v = errV (checkE a false true) := ⟨_, rfl⟩
  rw [← hv1] at M1 M2 S1 C1
  rw [← hv2] at M1 M3 S2 C2
  rw [← hv3] at M2 M4 S3 C3
  rw [← hv4] at M3 M4 S4 C4
  unfold ATree.ptr at C1 C2 C3 C4
  clear hb hT hA hm hv1 hv2 hv3 hv4 HC
  go_wp2_with fail
  refine (HTO.out w1 HB.out).mono ?_
  rintro e w2 ⟨rfl, hb⟩
  have HB2 := Lib.hid (HB.out.trans (hb.mono HB.out.size))
  have HT2 := Lib.hid (HT.out.bel hb)
  clear hb HT HB
  go_wp2_with fail
  refine (C1.out w2 HT2.out).mono ?_
  rintro e w3 ⟨rfl, hb⟩
  have HB3 := Lib.hid (HB2.out.trans (hb.mono HB2.out.size))
  have HT3 := Lib.hid (HT2.out.bel hb)
  clear hb HT2 HB2 C1
  go_wp2_with fail
  refine (C2.out w3 HT3.out).mono ?_
  rintro e w4 ⟨rfl, hb⟩
  have HB4 := Lib.hid (HB3.out.trans (hb.mono HB3.out.size))
  have HT4 := Lib.hid (HT3.out.bel hb)
  clear hb HT3 HB3 C2
  go_wp2_with fail
  refine (C3.out w4 HT4.out).mono ?_
  rintro e w5 ⟨rfl, hb⟩
  have HB5 := Lib.hid (HB4.out.trans (hb.mono HB4.out.size))
  have HT5 := Lib.hid (HT4.out.bel hb)
  clear hb HT4 HB4 C3
  go_wp2_with fail
  refine (C4.out w5 HT5.out).mono ?_
  rintro e w6 ⟨rfl, hb⟩
  have HB6 := Lib.hid (HB5.out.trans (hb.mono HB5.out.size))
  clear hb HT5 HB5 C4
  rcases S1.out with rfl | ⟨z1, rfl⟩
  all_goals rcases S2.out with rfl | ⟨z2, rfl⟩
  all_goals rcases S3.out with rfl | ⟨z3, rfl⟩
  all_goals rcases S4.out with rfl | ⟨z4, rfl⟩
  all_goals first
    | (exfalso; cases M1.out rfl; done)
    | (exfalso; cases M2.out rfl; done)
    | (exfalso; cases M3.out rfl; done)
    | (exfalso; cases M4.out rfl; done)
    | (clear M1 M2 M3 M4 S1 S2 S3 S4
       go_wp2
       go_ret
       exact ⟨rfl, HB6.out⟩)

theorem earlymore_any (w : World) (text : ByteArray) (hW : Words w) (hL : Levels w w.heap.size) (hE : ErrType w) :
    Calls Tryz.prog 3 #[.string text] w fun e w' => e = .returned (.bool true) ∧ Below w.heap.size w w' := by
  have hR := lawread_any w text hW hL
  have HTO := Lib.hid (fun w1 (h : Below w.heap.size w w1) => checked_any w1 (hW.below h) (hL.up h) (hE.below h))
  cases hr : parseAll text with
  | error x =>
    rw [hr] at hR
    exact em_not w text (Lib.hid (hR.mono fun e w' ⟨h1, h2⟩ => ⟨⟨_, h2⟩, h1⟩)) HTO
  | ok t =>
    rw [hr] at hR
    obtain ⟨h1, h2⟩ := parseAll_ok hr
    by_cases hk : (t.kind == 1) = true
    · refine em_is w text (Lib.hid (hR.mono ?_)) HTO
      rintro e w' ⟨hb, a, rfl, hg⟩
      rw [hk]
      exact ⟨hb, a, rfl, hg.at', wa_of a (by rw [hg.tree]; exact h1), by have := congrArg Tree.many hg.tree; rw [many_tree] at this; omega⟩
    · refine em_not w text (Lib.hid (hR.mono ?_)) HTO
      rintro e w' ⟨hb, a, rfl, hg⟩
      rw [Bool.eq_false_iff.2 hk]
      exact ⟨⟨_, rfl⟩, hb⟩
end Go.Proofs.YtgifgiipojedbaaGreatDoor

namespace Go.Proofs.YtgifgiipojedbaaGreatDoor
open Go Go.RowKit
set_option maxRecDepth 100000

/-- an array of texts that reads as these texts holds them, cell for cell -/
theorem cells_of_texts {H : Type} {enc : TypeId × Value → H} {P : Program} {w : World} {base : Nat} {sp : Nat → Bool} {held : Bool} {fuel : Nat} {t e : TypeId} {n : Nat} {cs : List Value} {l : List (List UInt8)} {p : List MemPlace}
    (ht : P.underlying t = some (.array n e)) (he : P.underlying e = some .string) (hce : P.cellsOf e = 1) (hct : P.cellsOf t = n)
    (h : DataW.trod enc P w base sp held fuel t cs = some (.agg (l.map fun b => .lit (.string b)), p)) : cs = l.map fun b => Value.string ⟨b.toArray⟩ := by
  cases fuel with
  | zero => simp [DataW.trod] at h
  | succ fuel =>
    simp only [DataW.trod, ht, hce, hct, Nat.mul_one] at h
    split at h
    · rename_i hl
      obtain ⟨xs, hm, hx⟩ := Option.map_eq_some_iff.1 h
      have hxs : xs.map (·.1) = l.map fun b => (DataW.lit (.string b) : DataW H) := by
        have := congrArg Prod.fst hx
        simpa using this
      have hxl : xs.length = n := by simpa using Lib.mapM_length hm
      have hzl : l.length = n := by
        have := congrArg List.length hxs
        simp at this
        omega
      apply List.ext_getElem?
      intro i
      by_cases hi : i < n
      · obtain ⟨b, hb, hf⟩ := Lib.mapM_at hm i i (by simp [hi])
        obtain ⟨s, hc, rfl, _⟩ := DataW.trod_string he hf
        have h1 : cs[i]? = some (.string s) := by
          have := congrArg (·[0]?) hc
          simpa [List.getElem?_take, List.getElem?_drop] using this
        have h2 : (xs.map (·.1))[i]? = some (DataW.lit (.string s.data.toList) : DataW H) := by simp [hb]
        rw [hxs] at h2
        simp only [List.getElem?_map, Option.map_eq_some_iff, DataW.lit.injEq, Lit.string.injEq] at h2
        obtain ⟨z', hz', hzz⟩ := h2
        simp only [h1, List.getElem?_map, hz', Option.map_some, hzz]
      · rw [List.getElem?_eq_none (by omega), List.getElem?_eq_none (by simp; omega)]
    · cases h
theorem text_of {H : Type} {enc : TypeId × Value → H} {P : Program} {w : World} {base : Nat} {sp : Nat → Bool} {held : Bool} {fuel : Nat} {e : TypeId} {v : Value} {b : List UInt8} {q : List MemPlace} (he : P.underlying e = some .string)
    (h : DataW.trod enc P w base sp held fuel e [v] = some (.lit (.string b), q)) : v = .string ⟨b.toArray⟩ := by
  obtain ⟨s, hc, hx, _⟩ := DataW.trod_string he h
  simp only [List.cons.injEq, and_true] at hc
  simp only [Prod.mk.injEq, DataW.lit.injEq, Lit.string.injEq] at hx
  rw [hc, hx.1]
/-- an array of texts that stands first on the list -/
theorem texts_of_head {P : Program} {W : World} {name : String} {d : DataW Unit} {rest : List (String × DataW Unit)} {g : Nat} {t e : TypeId} {n : Nat} {l : List (List UInt8)}
    (hg : P.globalNamed name = some g) (hty : (P.globals[g]?).map (·.type) = some t) (ht : P.underlying t = some (.array n e)) (he : P.underlying e = some .string) (hce : P.cellsOf e = 1) (hct : P.cellsOf t = n)
    (hd : d = .agg (l.map fun b => .lit (.string b))) (h : laidMet P ((name, d) :: rest) W) (i : Nat) (b : List UInt8) (hi : l[i]? = some b) : W.cell? ⟨g, i, none⟩ = some (.string ⟨b.toArray⟩) := by
  obtain ⟨ps, ⟨g', t', cs, fuel, p, q, hg', ht', hvar, hd', _, _⟩, _⟩ := h
  obtain rfl := Option.some.inj (hg.symm.trans hg')
  obtain rfl := Option.some.inj (hty.symm.trans ht')
  rw [hd] at hd'
  have hc := cells_of_texts ht he hce hct hd'
  have := World.var?_cell hg hvar i
  rw [this]
  have hx : cs = (l.map fun b => Value.string ⟨b.toArray⟩).toArray := by rw [← hc]
  rw [hx]
  simp [hi]
/-- a slice of texts that stands first on the list -/
theorem row_of_head {P : Program} {W : World} {name : String} {d : DataW Unit} {rest : List (String × DataW Unit)} {g : Nat} {t e : TypeId} {l : List (List UInt8)}
    (hg : P.globalNamed name = some g) (hty : (P.globals[g]?).map (·.type) = some t) (ht : P.underlying t = some (.slice e)) (he : P.underlying e = some .string) (hce : P.cellsOf e = 1)
    (hd : d = .slice (l.map fun b => .lit (.string b)) []) (hl : 0 < l.length) (h : laidMet P ((name, d) :: rest) W) :
    ∃ b off cap, W.cell? ⟨g, 0, none⟩ = some (.slice (some ⟨b, off, none⟩) l.length cap) ∧ l.length ≤ cap ∧ ∀ i x, l[i]? = some x → W.cell? ⟨b, off + i, none⟩ = some (.string ⟨x.toArray⟩) := by
  obtain ⟨ps, ⟨g', t', cs, fuel, p, q, hg', ht', hvar, hd', _, _⟩, _⟩ := h
  obtain rfl := Option.some.inj (hg.symm.trans hg')
  obtain rfl := Option.some.inj (hty.symm.trans ht')
  rw [hd] at hd'
  obtain ⟨a, cap, hcs, hcap, hel⟩ := open_row ht hce hd'
  rw [List.length_map] at hcs hcap
  obtain ⟨b, off, spot⟩ := a
  have hspot : spot = none := by
    obtain ⟨x, hx⟩ : ∃ x, l[0]? = some x := ⟨l[0], List.getElem?_eq_getElem hl⟩
    obtain ⟨v, n, q, hc, _⟩ := hel 0 _ (by rw [List.getElem?_map, hx]; rfl)
    simpa [Addr.add] using World.cell?_spot hc
  subst hspot
  refine ⟨b, off, cap, ?_, hcap, fun i x hx => ?_⟩
  · have := World.var?_cell hg hvar 0
    rw [Array.eq_one_of_toList hcs] at this
    simpa using this
  · obtain ⟨v, n, q, hc, hr⟩ := hel i _ (by rw [List.getElem?_map, hx]; rfl)
    rw [text_of he hr] at hc
    rwa [show ((⟨b, off, none⟩ : Addr).add i) = ⟨b, off + i, none⟩ by unfold Addr.add; split <;> simp_all] at hc
end Go.Proofs.YtgifgiipojedbaaGreatDoor

namespace Go.Proofs.YtgifgiipojedbaaGreatDoor
open Go Go.RowKit
set_option maxRecDepth 100000

theorem rows_at {H : Type} {enc : TypeId × Value → H} {P : Program} {w : World} {base : Nat} {sp : Nat → Bool} {held : Bool} {fuel : Nat} {t e : TypeId} {n : Nat} {cs : List Value} {l : List (DataW H)} {p : List MemPlace}
    (ht : P.underlying t = some (.array n e)) (hce : P.cellsOf e = 1) (hct : P.cellsOf t = n)
    (h : DataW.trod enc P w base sp held fuel t cs = some (.agg l, p)) (i : Nat) (r : DataW H) (hi : l[i]? = some r) :
    ∃ fuel' q, DataW.trod enc P w base sp held fuel' e ((cs.drop i).take 1) = some (r, q) := by
  cases fuel with
  | zero => simp [DataW.trod] at h
  | succ fuel =>
    simp only [DataW.trod, ht, hce, hct, Nat.mul_one] at h
    split at h
    · rename_i hl
      obtain ⟨xs, hm, hx⟩ := Option.map_eq_some_iff.1 h
      have hxs : xs.map (·.1) = l := by
        have := congrArg Prod.fst hx
        simpa using this
      have hxl : xs.length = n := by simpa using Lib.mapM_length hm
      have hin : i < n := by
        have h1 := (List.getElem?_eq_some_iff.1 hi).1
        rw [← hxs, List.length_map] at h1
        omega
      obtain ⟨b, hb, hf⟩ := Lib.mapM_at hm i i (by simp [hin])
      have h2 : (xs.map (·.1))[i]? = some b.1 := by simp [hb]
      rw [hxs, hi] at h2
      exact ⟨fuel, b.2, by rw [Option.some.inj h2]; exact hf⟩
    · cases h
theorem rows_of_second {P : Program} {W : World} {n1 name : String} {d1 d : DataW Unit} {rest : List (String × DataW Unit)} {g : Nat} {t e f : TypeId} {n : Nat} {l : List (List (List UInt8))}
    (hg : P.globalNamed name = some g) (hty : (P.globals[g]?).map (·.type) = some t) (ht : P.underlying t = some (.array n e)) (he : P.underlying e = some (.slice f)) (hf : P.underlying f = some .string)
    (hce : P.cellsOf e = 1) (hcf : P.cellsOf f = 1) (hct : P.cellsOf t = n)
    (hd : d = .agg (l.map fun r => .slice (r.map fun b => .lit (.string b)) [])) (h : laidMet P ((n1, d1) :: (name, d) :: rest) W) (i : Nat) (r : List (List UInt8)) (hi : l[i]? = some r) (hr : 0 < r.length) :
    ∃ b off cap, W.cell? ⟨g, i, none⟩ = some (.slice (some ⟨b, off, none⟩) r.length cap) ∧ r.length ≤ cap ∧ ∀ j x, r[j]? = some x → W.cell? ⟨b, off + j, none⟩ = some (.string ⟨x.toArray⟩) := by
  obtain ⟨ps, ⟨_, _, _, _, _, _, _, _, _, _, h2, _⟩, _⟩ := h
  obtain ⟨g', t', cs, fuel, p, q, hg', ht', hvar, hd', _, _⟩ := h2
  obtain rfl := Option.some.inj (hg.symm.trans hg')
  obtain rfl := Option.some.inj (hty.symm.trans ht')
  rw [hd] at hd'
  obtain ⟨fuel', q', hrow⟩ := rows_at ht hce hct hd' i (.slice (r.map fun b => .lit (.string b)) []) (by rw [List.getElem?_map, hi]; rfl)
  obtain ⟨a, cap, hcs, hcap, hel⟩ := open_row he hcf hrow
  rw [List.length_map] at hcs hcap
  have hcell : W.cell? ⟨g, i, none⟩ = some (.slice (some a) r.length cap) := by
    rw [World.var?_cell hg hvar i]
    have := congrArg (·[0]?) hcs
    simpa [List.getElem?_take, List.getElem?_drop] using this
  obtain ⟨b, off, spot⟩ := a
  have hspot : spot = none := by
    obtain ⟨x, hx⟩ : ∃ x, r[0]? = some x := ⟨r[0], List.getElem?_eq_getElem hr⟩
    obtain ⟨v, n, q, hc, _⟩ := hel 0 _ (by rw [List.getElem?_map, hx]; rfl)
    simpa [Addr.add] using World.cell?_spot hc
  subst hspot
  refine ⟨b, off, cap, hcell, hcap, fun j x hx => ?_⟩
  obtain ⟨v, n, q, hc, hr⟩ := hel j _ (by rw [List.getElem?_map, hx]; rfl)
  rw [text_of hf hr] at hc
  rwa [show ((⟨b, off, none⟩ : Addr).add j) = ⟨b, off + j, none⟩ by unfold Addr.add; split <;> simp_all] at hc
end Go.Proofs.YtgifgiipojedbaaGreatDoor
