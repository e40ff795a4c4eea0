/- Package tree: all that reads, together. Package tree: Walk with tree.Parse$2. Package tree: Parse. Package lex: the tokens' shape. Package tree: Parse, walked. -/
import Derived.Test.YtgifgiipojedbaaGreatDoorJ28
import Derived.Test.YtgifgiipojedbaaGreatDoorJ09
import Derived.Recover
import Derived.Defers
import Derived.Stop.Asserts
import Derived.Outline
import Derived.Test.YtgifgiipojedbaaGreatDoorJ04
import Derived.Test.YtgifgiipojedbaaGreatDoorJ21
import Derived.Test.YtgifgiipojedbaaGreatDoorJ16
namespace Go.Proofs.YtgifgiipojedbaaGreatDoor
open Go Go.RowKit
set_option maxRecDepth 100000
set_option linter.unusedVariables false

structure AllSay (f : Nat) : Prop where
  stmt : Says 114 rArg .stmt f
  value : Says 159 rArg .value f
  assign : Says 178 rArg .assign f
  bin : ∀ lv, lv ≤ 6 → Says 192 (bArg lv) (.bin lv) f
  unary : Says 203 rArg .unary f
  postfix_ : Says 214 rArg .postfix_ f
  primary : Says 221 rArg .primary f
  around : Says 158 rArg .around f
  func : ∀ k s, Says 156 (fun rb => #[.pointer (some ⟨rb, 0, none⟩), .int .i64 k, .string s]) (.func k s) f
  object : Says 231 rArg (.object []) f
  block : ∀ b, Says 152 (fun rb => #[.pointer (some ⟨rb, 0, none⟩), .bool b]) (.block b) f
  stmts : Says 75 (fun rb => #[.pointer (some ⟨rb, 0, none⟩), .int .i64 6, .string s_rbrace]) (.stmts 6 []) f
  try_ : Says 160 rArg .try_ f
  decl : ∀ k m, Says 155 (fun rb => #[.pointer (some ⟨rb, 0, none⟩), .int .i64 k, .bool m]) (.decl k m) f
theorem says_zero {F : FuncId} {args : Nat → Array Value} {job : Job} : Says F args job 0 := by
  intro w rb B d ts r _ h
  cases h
theorem all_say : ∀ f, AllSay f := by
  intro f
  induction f using Nat.strongRecOn with
  | _ f ih =>
    cases f with
    | zero => exact ⟨says_zero, says_zero, says_zero, fun _ _ => says_zero, says_zero, says_zero, says_zero, says_zero, fun _ _ => says_zero, says_zero, fun _ => says_zero, says_zero, says_zero, fun _ _ => says_zero⟩
    | succ f =>
      have I := ih f (Nat.lt_succ_self f)
      refine ⟨stmt_says f (I.block false) I.decl (I.func 5) I.around I.stmt I.value I.try_, value_says f I.assign, assign_says f (I.bin 0 (by omega)) I.value, fun lv hlv => ?_, unary_says f I.unary I.postfix_, postfix_says f I.primary (fun g hg => (ih g (by omega)).value), primary_says f I.around (I.func 37) I.object, around_says f I.value,
        fun k s => func_says f k s (I.block true), object_says (f + 1) (fun g hg => (ih g hg).value), fun b => block_says f b I.stmts, stmts_says (f + 1) (fun g hg => (ih g hg).stmt), try_says f (I.block false), fun k m => decl_says f k m I.value⟩
      by_cases h6 : lv = 6
      · subst h6; exact bin6_says f I.unary
      · exact bin_says f lv (by omega) fun g hg => (ih g (by omega)).bin (lv + 1) (by omega)
theorem prog_say (f : Nat) : Says 75 (fun rb => #[.pointer (some ⟨rb, 0, none⟩), .int .i64 1, .string ⟨#[]⟩]) (.stmts 1 []) f :=
  prog_says f fun g _ => (all_say g).stmt
end Go.Proofs.YtgifgiipojedbaaGreatDoor

namespace Go.Proofs.YtgifgiipojedbaaGreatDoor
open Go Go.RowKit
set_option maxRecDepth 100000
set_option linter.unusedVariables false

set_option maxHeartbeats 4000000 in
theorem walk_Pz (p0 : Addr) {σ : Type} (Inv : σ → World → Prop) (g : σ → ATree → Bool × σ) (B : Nat) : ∀ (m : Nat) (a : ATree), a.many ≤ m → (∀ s w, Inv s w → TreeAt w B a) →
    (∀ x ∈ a.subs, ∀ s w, Inv s w → Calls Tryz.prog 76 #[x.ptr, .pointer (some p0)] w fun e w' => e = .returned (.bool (g s x).1) ∧ Inv (g s x).2 w') →
    ∀ s w, Inv s w → Calls Tryz.prog 18 #[a.ptr, .func (.func 76) #[] #[.pointer (some p0)]] w fun e w' => e = .returned (.tuple #[]) ∧ Inv (walkA g a s) w' := by
  intro m
  induction m with
  | zero => intro a h; exfalso; cases a; simp [ATree.many] at h
  | succ m ih =>
    intro a hm hT hg s w hI
    have IH := Lib.hid ih
    have HT := Lib.hid hT
    have HG := Lib.hid hg
    have HM := Lib.hid hm
    have HC := hg a (subs_self a) s w hI
    rw [walkA_eq]
    unfold ATree.ptr at HC ⊢
    obtain ⟨ok, s1, hgs⟩ : ∃ ok s1, g s a = (ok, s1) := ⟨_, _, rfl⟩
    rw [hgs] at HC ⊢
    have HC := Lib.hid HC
    clear ih hT hg hm hI hgs
    cases ok
    · go_enter Tryz.func18, Tryz.ntmps18
      go_wp2_with fail
      refine HC.out.mono ?_
      rintro e w1 ⟨rfl, hI1⟩
      have HI1 := Lib.hid hI1
      clear hI1 HC
      go_wp2
      refine bodyPost_ret (results_none rfl _ _ _) rfl ?_
      exact ⟨rfl, HI1.out⟩
    · simp only [if_true]
      go_enter Tryz.func18, Tryz.ntmps18
      go_wp2_with fail
      refine HC.out.mono ?_
      rintro e w1 ⟨rfl, hI1⟩
      have hT1 := HT.out _ _ hI1
      have hblk := hT1.blkOf
      have hrow := hT1.rowOf
      obtain ⟨p, cp, hv⟩ : ∃ p cp, a.v = .slice p a.kids.length cp := by
        rcases ownsRow_cases hrow with ⟨h1, h2⟩ | ⟨g0, cap0, h1, _⟩
        · exact ⟨none, 0, by rw [h1, h2]⟩
        · exact ⟨_, _, h1⟩
      rw [hv] at hblk
      have c3 : w1.cell? ⟨a.b, 3, none⟩ = some (.slice p a.kids.length cp) := by simp [World.cell?, hblk]
      have hlen : a.kids.length ≤ 9223372036854775807 := by
        rcases ownsRow_cases hrow with ⟨h1, h2⟩ | ⟨g0, cap0, h1, k1, k2, k3⟩
        · omega
        · unfold maxLen at k2; omega
      have HI1 := Lib.hid hI1
      have HV := Lib.hid hv
      obtain ⟨n, hn⟩ : ∃ n, n = a.kids.length := ⟨_, rfl⟩
      rw [← hn] at c3 hlen
      have HN := Lib.hid hn
      clear hI1 hT1 hblk hrow hv hn HC
      go_wp2_with fail
      go_loopw [19] (fun i wr => ∃ k : Nat, k ≤ n ∧ i = .int .i64 k ∧ Hid (Inv (walkL g (a.kids.take k) s1) wr)) (fun i _ => n - (intOf i).toNat)
      case atStart => exact ⟨0, Nat.zero_le _, rfl, Lib.hid (by simpa [walkL] using HI1.out)⟩
      case round =>
        obtain ⟨k, hk, rfl, HI⟩ := hrel
        by_cases hkn : k < n
        · obtain ⟨x, hx⟩ : ∃ x, a.kids[k]? = some x := ⟨_, List.getElem?_eq_getElem (by rw [← HN.out]; exact hkn)⟩
          have hT2 := HT.out _ _ HI.out
          have hrow := hT2.rowOf
          rcases ownsRow_cases hrow with ⟨_, h2⟩ | ⟨g0, cap0, hv0, k1, k2, k3⟩
          · rw [← HN.out] at h2; omega
          have hp : p = some ⟨g0, 0, none⟩ := by
            have := HV.out.symm.trans hv0
            simp only [Value.slice.injEq] at this
            exact this.1
          subst hp
          have cx := ownsRow_cell1 hrow (g := g0) (by rw [hv0]; rfl) (i := k) (x := x.ptr) (by rw [List.getElem?_map, hx]; rfl)
          unfold ATree.ptr at cx
          have hmem : x ∈ a.kids := List.mem_of_getElem? hx
          have hcall := IH.out x (by have := many_kid hmem; have := HM.out; omega) (fun s w h => (HT.out s w h).kid hmem) (fun y hy => HG.out y (subs_kid hmem hy)) _ _ HI.out
          unfold ATree.ptr at hcall
          have HCALL := Lib.hid hcall
          have HX := Lib.hid hx
          have hge : n ≤ cp := by
            have := HV.out.symm.trans hv0
            simp only [Value.slice.injEq] at this
            rw [HN.out, this.2.2]; exact k1
          clear hx hT2 hrow hv0 k1 k2 k3 hmem hcall
          go_wp2_with fail
          refine HCALL.out.mono ?_
          rintro e w2 ⟨rfl, hI2⟩
          have HI2 := Lib.hid hI2
          clear hI2 HCALL
          go_wp2
          go_roundw
          case rel => exact ⟨k + 1, by omega, by go_num, Lib.hid (by rw [take_succ_kid HX.out, walkL_snoc]; exact HI2.out)⟩
          case measure => simp [intOf]; omega
        · have hk2 : k = n := by omega
          subst hk2
          go_wp2
          go_end0
          refine ⟨rfl, ?_⟩
          have := HI.out
          rwa [List.take_of_length_le (by rw [← HN.out]; exact Nat.le_refl _)] at this
end Go.Proofs.YtgifgiipojedbaaGreatDoor

namespace Go.Proofs.YtgifgiipojedbaaGreatDoor
open Go Go.RowKit
set_option maxRecDepth 100000
set_option linter.unusedVariables false

theorem callsD_of_wpS_at {P : Program} {f : FuncId} {fn : Func} {c : Code} {args : Array Value} {u : FrameMode} {w : World} {R : Ending → FrameMode → World → Prop}
    (hf : P.funcs[f]? = some fn) (hb : fn.body = some c) (T : Array Value) (hT : args ++ Array.replicate (fn.ntmps - args.size) undef = T)
    (h : ∀ (c₀ : Frame) (cs : List Frame), c₀.mode = u → c.wpS P (bodyPostS P fn c₀ cs R) { tmps := T, defers := [] } (c₀ :: cs) w) : CallsD P f args u w R :=
  callsD_of_wpS hf hb (by rw [hT]; exact h)
theorem Tryz.asFault (v : Value) (w : World) : (Instr.typeAssert (.iface 105 v) 20 105 true).run Tryz.prog w = .ok (.tuple #[v, .bool true]) w := by kernel_rfl

set_option maxHeartbeats 4000000 in
theorem catch_idle (p q : Addr) (w : World) :
    CallsD Tryz.prog 74 #[.pointer (some p), .pointer (some q)] .returning w fun e u' w' => e = .returned (.tuple #[]) ∧ u' = .returning ∧ w' = w := by
  refine callsD_of_wpS_at Tryz.func74 rfl #[.pointer (some p), .pointer (some q), undef, undef, undef, undef, undef, undef, undef, undef, undef, undef, undef, undef, undef, undef, undef, undef] (by rfl) fun c₀ cs hu => ?_
  apply wpS_seq
  apply wpS_region
  simp [wpOpsS, go_sem, recoverD, hu, Exit.thenS]
  refine wpS_of_wp ?_
  go_wp2
  cases c₀
  simp_all [bodyPostS, results, Tryz.results74]
/-- what the deferred function leaves where it has caught a fault -/
def CatchPost (w : World) (pb qb : Nat) (x : Value) (w' : World) : Prop :=
  w'.heap[pb]? = some (.cells #[.pointer none] 22 (0, 0)) ∧ w'.heap[qb]? = some (.cells #[x] 27 (0, 0)) ∧ w'.os = w.os ∧ w'.tape = w.tape ∧ w'.output = w.output ∧ w.heap.size ≤ w'.heap.size ∧ ∀ k, k < w.heap.size → k ≠ pb → k ≠ qb → w'.heap[k]? = w.heap[k]?
theorem catchPost_of {w w1 : World} {pb qb : Nat} {x x0 y0 : Value} (hp : w.heap[pb]? = some (.cells #[x0] 22 (0, 0))) (hq : w.heap[qb]? = some (.cells #[y0] 27 (0, 0))) (hpq : pb ≠ qb) (hB : Below w.heap.size w w1) :
    CatchPost w pb qb x ((w1.setCell ⟨pb, 0, none⟩ (.pointer none)).setCell ⟨qb, 0, none⟩ x) := by
  have hpl : pb < w.heap.size := (Array.getElem?_eq_some_iff.1 hp).1
  have hql : qb < w.heap.size := (Array.getElem?_eq_some_iff.1 hq).1
  refine ⟨?_, ?_, hB.os, hB.tape, hB.output, by rw [World.size_setCell, World.size_setCell]; exact hB.size, fun k hk h1 h2 => ?_⟩
  · exact (Below.heap_setCell _ _ _ _ hpq).trans (setCell_block (o := 0) _ ((hB.block pb hpl).trans hp))
  · exact setCell_block (o := 0) _ ((Below.heap_setCell _ _ _ _ (Ne.symm hpq)).trans ((hB.block qb hql).trans hq))
  · exact (Below.heap_setCell _ _ _ _ h2).trans ((Below.heap_setCell _ _ _ _ h1).trans (hB.block k hk))
theorem CatchPost.below {w w1 w2 : World} {pb qb : Nat} {x : Value} (h : CatchPost w pb qb x w1) (hB : Below w1.heap.size w1 w2) : CatchPost w pb qb x w2 := by
  obtain ⟨h1, h2, h3, h4, h5, h6, h7⟩ := h
  refine ⟨(hB.block pb (Array.getElem?_eq_some_iff.1 h1).1).trans h1, (hB.block qb (Array.getElem?_eq_some_iff.1 h2).1).trans h2, hB.os.trans h3, hB.tape.trans h4, hB.output.trans h5, Nat.le_trans h6 hB.size, fun k hk a b => (hB.block k (Nat.lt_of_lt_of_le hk h6)).trans (h7 k hk a b)⟩
set_option maxHeartbeats 4000000 in
theorem catch_fault (pb qb : Nat) (b : Nat) (older : List PanicEntry) (w : World) (x0 y0 : Value) (hp : w.heap[pb]? = some (.cells #[x0] 22 (0, 0))) (hq : w.heap[qb]? = some (.cells #[y0] 27 (0, 0))) (hpq : pb ≠ qb) :
    CallsD Tryz.prog 74 #[.pointer (some ⟨pb, 0, none⟩), .pointer (some ⟨qb, 0, none⟩)] (.panicking ({ v := .iface 105 (.agg #[.iface 143 (.pointer (some ⟨b, 0, none⟩))]), recovered := false } :: older)) w fun e u' w' =>
      e = .returned (.tuple #[]) ∧ u' = .panicking ({ v := .iface 105 (.agg #[.iface 143 (.pointer (some ⟨b, 0, none⟩))]), recovered := true } :: older) ∧ CatchPost w pb qb (.iface 143 (.pointer (some ⟨b, 0, none⟩))) w' := by
  have hpl : pb < w.heap.size := (Array.getElem?_eq_some_iff.1 hp).1
  have hql : qb < w.heap.size := (Array.getElem?_eq_some_iff.1 hq).1
  have cp : w.cell? ⟨pb, 0, none⟩ = some x0 := by simp [World.cell?, hp]
  have cq : w.cell? ⟨qb, 0, none⟩ = some y0 := by simp [World.cell?, hq]
  have zp : w.frozen? ⟨pb, 0, none⟩ = false := by simp [World.frozen?, hp]
  have zq : w.frozen? ⟨qb, 0, none⟩ = false := by simp [World.frozen?, hq]
  have hta := Tryz.asFault (.agg #[.iface 143 (.pointer (some ⟨b, 0, none⟩))])
  refine callsD_of_wpS_at Tryz.func74 rfl #[.pointer (some ⟨pb, 0, none⟩), .pointer (some ⟨qb, 0, none⟩), undef, undef, undef, undef, undef, undef, undef, undef, undef, undef, undef, undef, undef, undef, undef, undef] (by rfl) fun c₀ cs hu => ?_
  apply wpS_seq
  apply wpS_region
  simp [wpOpsS, go_sem, recoverD, hu, Exit.thenS]
  refine wpS_of_wp ?_
  clear hu
  go_wp2
  go_region
  have CP := ((catchPost_of (x := .iface 143 (.pointer (some ⟨b, 0, none⟩))) hp hq hpq (Below.refl _ w)).below ((Below.refl _ _).alloc (Nat.le_refl _) (.cells #[.iface 143 (.pointer (some ⟨b, 0, none⟩))] 105))).below (Below.refl _ _).drew
  have CP := Lib.hid CP
  clear hp hq hpq hpl hql cp cq zp zq hta
  show bodyPostS _ _ _ _ _ Exit.normal _ _ _
  cases c₀
  simp [bodyPostS, results, Tryz.results74]
  exact CP.out
end Go.Proofs.YtgifgiipojedbaaGreatDoor

namespace Go.Proofs.YtgifgiipojedbaaGreatDoor
open Go Go.RowKit
set_option maxRecDepth 100000
set_option linter.unusedVariables false

theorem tokAt_kind {text : ByteArray} {j k : Nat} {t : Tok} (h : tokAt text j = .ok (t, k)) : t.kind ≠ 6 ∧ (t.kind = 2 → isWordB t.text = true) ∧ (t.kind = 5 → t.text = text.extract j (j + signs3 text j) ∧ letterB (byteAt text j) = false) := by
  unfold tokAt at h
  simp only at h
  split at h
  · rename_i hl
    split at h
    · rename_i hw
      simp only [Except.ok.injEq, Prod.mk.injEq] at h
      obtain ⟨rfl, _⟩ := h
      exact ⟨by simp, fun _ => hw, (fun h => by simp at h)⟩
    · split at h
      · cases h
      · simp only [Except.ok.injEq, Prod.mk.injEq] at h
        obtain ⟨rfl, _⟩ := h
        exact ⟨by simp, (fun h => by simp at h), (fun h => by simp at h)⟩
  · rename_i hl
    split at h
    · split at h
      · cases h
      · split at h
        · cases h
        · simp only [Except.ok.injEq, Prod.mk.injEq] at h
          obtain ⟨rfl, _⟩ := h
          exact ⟨by simp, (fun h => by simp at h), (fun h => by simp at h)⟩
    · split at h
      · split at h
        · cases h
        · split at h
          · cases h
          · simp only [Except.ok.injEq, Prod.mk.injEq] at h
            obtain ⟨rfl, _⟩ := h
            exact ⟨by simp, (fun h => by simp at h), (fun h => by simp at h)⟩
      · split at h
        · cases h
        · simp only [Except.ok.injEq, Prod.mk.injEq] at h
          obtain ⟨rfl, _⟩ := h
          exact ⟨by simp, (fun h => by simp at h), fun _ => ⟨rfl, by simpa using hl⟩⟩
theorem word_sign {s : ByteArray} (h : isWordB s = true) : signK s = 0 := by
  refine Decidable.byContradiction fun hs => ?_
  have key : s = s_or ∨ s = s_and ∨ s = s_same ∨ s = s_less ∨ s = s_add ∨ s = s_sub ∨ s = s_mul := by
    unfold signK sameS at hs
    simp only [decide_eq_true_eq] at hs
    by_cases h1 : s = s_or
    · exact .inl h1
    by_cases h2 : s = s_and
    · exact .inr (.inl h2)
    by_cases h3 : s = s_same
    · exact .inr (.inr (.inl h3))
    by_cases h4 : s = s_less
    · exact .inr (.inr (.inr (.inl h4)))
    by_cases h5 : s = s_add
    · exact .inr (.inr (.inr (.inr (.inl h5))))
    by_cases h6 : s = s_sub
    · exact .inr (.inr (.inr (.inr (.inr (.inl h6)))))
    by_cases h7 : s = s_mul
    · exact .inr (.inr (.inr (.inr (.inr (.inr h7)))))
    simp [h1, h2, h3, h4, h5, h6, h7] at hs
  have no : ∀ x, isWordB x = false → s = x → False := fun x h1 h2 => by rw [h2, h1] at h; cases h
  rcases key with e | e | e | e | e | e | e
  all_goals exact no _ (by kernel_rfl) e
theorem const_letter {s : ByteArray} (h : constK s ≠ 0) : letterB (byteAt s 0) = true ∧ 0 < s.size := by
  unfold constK at h
  by_cases h1 : sameS s s_true = true
  · have : s = s_true := by simpa [sameS] using h1
    subst this; exact ⟨by kernel_rfl, by decide⟩
  by_cases h2 : sameS s s_false = true
  · have : s = s_false := by simpa [sameS] using h2
    subst this; exact ⟨by kernel_rfl, by decide⟩
  by_cases h3 : sameS s s_null = true
  · have : s = s_null := by simpa [sameS] using h3
    subst this; exact ⟨by kernel_rfl, by decide⟩
  by_cases h4 : sameS s s_undefined = true
  · have : s = s_undefined := by simpa [sameS] using h4
    subst this; exact ⟨by kernel_rfl, by decide⟩
  simp [h1, h2, h3, h4] at h
theorem tokAt_good {text : ByteArray} {j k : Nat} {t : Tok} (hj : j < text.size) (h : tokAt text j = .ok (t, k)) : GoodT t := by
  obtain ⟨_, h2, h5⟩ := tokAt_kind h
  refine ⟨fun hk => word_sign (h2 hk), fun hk => ?_⟩
  obtain ⟨ht, hl⟩ := h5 hk
  refine Decidable.byContradiction fun hc => ?_
  obtain ⟨hb, hs⟩ := const_letter hc
  have hsz : 0 < signs3 text j := by
    unfold signs3
    split
    · omega
    · split
      · omega
      · split <;> omega
  have hp : byteAt t.text 0 = byteAt text j := by
    rw [ht]
    have hle : (text.extract j (j + signs3 text j)).size ≤ signs3 text j := by rw [ByteArray.size_extract]; omega
    by_cases hk : j + signs3 text j ≤ text.size
    · rw [byteAt_extract text (by omega) hk]; rfl
    · have e : text.extract j (j + signs3 text j) = text.extract j text.size := by
        apply ByteArray.ext
        simp only [ByteArray.data_extract]
        apply Array.ext
        · simp only [Array.size_extract]
          have : text.size = text.data.size := rfl
          omega
        · intro i h1 h2; simp only [Array.getElem_extract]
      rw [e, byteAt_extract text (by omega) (Nat.le_refl _)]; rfl
  rw [hp, hl] at hb
  cases hb
theorem stand_shape {text : ByteArray} : ∀ (r : List Tok) (i : Nat), i ≤ text.size → Stand text i r → (∃ l e, r = l ++ [e] ∧ e.kind = 6 ∧ ∀ t ∈ l, t.kind ≠ 6) ∧ r.length + i ≤ text.size + 1 ∧ Goods r := by
  intro r
  induction r with
  | nil => intro i _ h; exact h.elim
  | cons t r ih =>
    intro i hi h
    cases r with
    | nil =>
      obtain ⟨h1, h2⟩ := h
      refine ⟨⟨[], t, rfl, by rw [h2], fun t ht => by cases ht⟩, by simp; omega, fun x hx => ?_⟩
      simp only [List.mem_singleton] at hx
      subst hx
      rw [h2]
      exact ⟨fun h => by simp at h, fun h => by simp at h⟩
    | cons u r =>
      obtain ⟨k, h1, h2, h3⟩ := h
      obtain ⟨c1, c2, _⟩ := tokAt_cut text h1 h2
      obtain ⟨s1, _, _, _⟩ := spanEnd_spec blankB text (text.size - i) i (Nat.le_refl _) hi
      obtain ⟨⟨l, e, h4, h5, h6⟩, h7, h8⟩ := ih k c2 h3
      refine ⟨⟨t :: l, e, by rw [h4]; rfl, h5, fun x hx => ?_⟩, ?_, fun x hx => ?_⟩
      · rcases List.mem_cons.1 hx with rfl | hx
        · exact (tokAt_kind h2).1
        · exact h6 x hx
      · simp only [List.length_cons] at h7 ⊢; omega
      · rcases List.mem_cons.1 hx with rfl | hx
        · exact tokAt_good h1 h2
        · exact h8 x hx
end Go.Proofs.YtgifgiipojedbaaGreatDoor

namespace Go.Proofs.YtgifgiipojedbaaGreatDoor
open Go Go.RowKit
set_option maxRecDepth 100000
set_option linter.unusedVariables false

theorem tokens_big' (w : World) (text : ByteArray) (hm : 3000 < text.size) :
    Calls Tryz.prog 73 #[.string text] w fun e w' => e = .returned (.tuple #[.slice none 0 0, .iface 62 (.int .i64 4)]) ∧ w = w' := by
  have hm' : (3000 : Int) < text.size := by omega
  go_enter Tryz.func73, Tryz.ntmps73
  go_wp2
  go_ret2
  exact ⟨rfl, rfl⟩
/-- an error with a place, or without one (-1) -/
def ErrAt (w' : World) (base : Nat) (x : Value) (c p : Int) : Prop := (p = -1 ∧ x = .iface 62 (.int .i64 c)) ∨ ∃ q : Nat, p = q ∧ AtErr w' base x c q
/-- what Parse hands back -/
def ParsePost (w : World) (r : Except (Int × Int) Tree) (e : Ending) (w' : World) : Prop :=
  Below w.heap.size w w' ∧ match r with
  | .ok t => ∃ a, e = .returned (.tuple #[.pointer (some ⟨a.b, 0, none⟩), .nilIface]) ∧ Got w w.heap.size w' a t
  | .error (c, p) => ∃ x, e = .returned (.tuple #[.pointer none, x]) ∧ ErrAt w' w.heap.size x c p
/-- the two results' cells, just laid -/
def cells2 (w : World) : World := (w.alloc (.cells #[.pointer none] 22)).alloc (.cells #[.nilIface] 27)

theorem cells2_at (w : World) : (cells2 w).heap[w.heap.size]? = some (.cells #[.pointer none] 22 (0, 0)) ∧ (cells2 w).heap[w.heap.size + 1]? = some (.cells #[.nilIface] 27 (0, 0)) ∧ (cells2 w).heap.size = w.heap.size + 2 ∧ Below w.heap.size w (cells2 w) := by
  have h1 : Below w.heap.size w (w.alloc (.cells #[.pointer none] 22)) := (Below.refl _ _).alloc (Nat.le_refl _) _
  have h2 : Below (w.alloc (.cells #[.pointer none] 22)).heap.size (w.alloc (.cells #[.pointer none] 22)) (cells2 w) := (Below.refl _ _).alloc (Nat.le_refl _) _
  have e1 : (w.alloc (.cells #[.pointer none] 22)).heap.size = w.heap.size + 1 := by simp
  refine ⟨?_, ?_, by simp [cells2], h1.alloc (by simp) _⟩
  · rw [h2.block w.heap.size (by omega)]; exact heap_alloc_new w _
  · have := heap_alloc_new (w.alloc (.cells #[.pointer none] 22)) (.cells #[.nilIface] 27)
    rw [e1] at this
    exact this
theorem leaves_two {R : Ending → World → Prop} {tmps : Array Value} {W : World} {pb eb : Nat} {x y : Value} (h2 : tmps.getD 2 undef = .pointer (some ⟨pb, 0, none⟩)) (h3 : tmps.getD 3 undef = .pointer (some ⟨eb, 0, none⟩))
    (c1 : W.cell? ⟨pb, 0, none⟩ = some x) (c2 : W.cell? ⟨eb, 0, none⟩ = some y) (hR : R (.returned (.tuple #[x, y])) W) : Go.Leaves Tryz.prog Tryz.f41 tmps R [] .returning W := by
  refine ⟨.tuple #[x, y], ?_, hR⟩
  have h2' : tmps[2]?.getD undef = .pointer (some ⟨pb, 0, none⟩) := by simpa using h2
  have h3' : tmps[3]?.getD undef = .pointer (some ⟨eb, 0, none⟩) := by simpa using h3
  simp [results, Tryz.results41, go_sem, h2', h3', c1, c2]
/-- behind stores into the results' cells -/
theorem ParsePost.bad {w w1 W : World} {c p : Int} {x : Value} (hx : ErrAt w1 (w.heap.size + 2) x c p) (hB : Below w.heap.size w w1) (hW : ∀ k, k < w1.heap.size → k ≠ w.heap.size → k ≠ w.heap.size + 1 → W.heap[k]? = w1.heap[k]?) (hs : w1.heap.size ≤ W.heap.size)
    (ho : W.os = w1.os) (ht : W.tape = w1.tape) (hu : W.output = w1.output) : ParsePost w (.error (c, p)) (.returned (.tuple #[.pointer none, x])) W := by
  refine ⟨⟨ho.trans hB.os, ht.trans hB.tape, hu.trans hB.output, Nat.le_trans hB.size hs, fun k hk => (hW k (Nat.lt_of_lt_of_le hk hB.size) (by omega) (by omega)).trans (hB.block k hk)⟩, x, rfl, ?_⟩
  rcases hx with h | ⟨q, hq, b, h1, h2, h3⟩
  · exact .inl h
  · exact .inr ⟨q, hq, b, h1, by omega, (hW b (Array.getElem?_eq_some_iff.1 h3).1 (by omega) (by omega)).trans h3⟩
set_option maxHeartbeats 8000000 in
theorem parse_bad (w : World) (text : ByteArray) (c p : Int) (HC : Calls Tryz.prog 73 #[.string text] (cells2 w) fun e w' => (∃ x, e = .returned (.tuple #[.slice none 0 0, x]) ∧ ErrAt w' (cells2 w).heap.size x c p) ∧ Below (cells2 w).heap.size (cells2 w) w') :
    Calls Tryz.prog 41 #[.string text] w (ParsePost w (.error (c, p))) := by
  obtain ⟨k1, k2, k3, k4⟩ := cells2_at w
  have K1 := Lib.hid k1
  have K2 := Lib.hid k2
  have K3 := Lib.hid k3
  have K4 := Lib.hid k4
  obtain ⟨w0, hw0⟩ : ∃ w0, w0 = cells2 w := ⟨_, rfl⟩
  rw [← hw0] at HC K1 K2 K3 K4
  unfold cells2 at hw0
  have HW0 := Lib.hid hw0
  have HC := Lib.hid HC
  clear hw0 k1 k2 k3 k4
  go_enter_defers Tryz.func41, Tryz.ntmps41
  go_wp2_with fail
  rw [← HW0.out]
  refine HC.out.mono ?_
  rintro e w1 ⟨⟨x, rfl, hx⟩, hB⟩
  have b1 := (hB.block w.heap.size (by rw [K3.out]; omega)).trans K1.out
  have b2 := (hB.block (w.heap.size + 1) (by rw [K3.out]; omega)).trans K2.out
  obtain ⟨pb, hpb⟩ : ∃ b, b = w.heap.size := ⟨_, rfl⟩
  obtain ⟨eb, heb⟩ : ∃ b, b = w.heap.size + 1 := ⟨_, rfl⟩
  rw [← heb] at b2
  rw [← hpb] at b1
  rw [← heb, ← hpb]
  have c1 : w1.cell? ⟨pb, 0, none⟩ = some (.pointer none) := by simp [World.cell?, b1]
  have c2 : w1.cell? ⟨eb, 0, none⟩ = some .nilIface := by simp [World.cell?, b2]
  have z1 : w1.frozen? ⟨pb, 0, none⟩ = false := by simp [World.frozen?, b1]
  have z2 : w1.frozen? ⟨eb, 0, none⟩ = false := by simp [World.frozen?, b2]
  have hne : pb ≠ eb := by omega
  have hl1 : pb < w1.heap.size := (Array.getElem?_eq_some_iff.1 b1).1
  have hl2 : eb < w1.heap.size := (Array.getElem?_eq_some_iff.1 b2).1
  have HX := Lib.hid hx
  have HB := Lib.hid hB
  have HPB := Lib.hid hpb
  have HEB := Lib.hid heb
  have B1 := Lib.hid b1
  have B2 := Lib.hid b2
  obtain ⟨tx, vx, hxx⟩ : ∃ tx vx, x = .iface tx vx := by
    rcases hx with ⟨_, rfl⟩ | ⟨q, _, b, rfl, _⟩
    · exact ⟨_, _, rfl⟩
    · exact ⟨_, _, rfl⟩
  subst hxx
  clear hx hB hpb heb b1 b2 HC
  go_wp2_with fail
  go_region
  go_wp2
  refine leaves_two (pb := pb) (eb := eb) rfl rfl (x := .pointer none) (y := .iface tx vx) ?_ ?_ ?_
  · go_simp
  · go_simp
  · refine ParsePost.bad (w1 := w1) (by have := HX.out; rwa [K3.out] at this) (K4.out.trans (HB.out.mono K4.out.size)) (fun k hk h1 h2 => ?_) ?_ rfl rfl rfl
    · rw [← HPB.out] at h1
      rw [← HEB.out] at h2
      exact ((Below.heap_setCell _ _ _ _ h2).trans (Below.heap_setCell _ _ _ _ h1)).trans (Below.heap_setCell _ _ _ _ h2)
    · show _ ≤ (World.setCell _ _ _).heap.size
      rw [World.size_setCell, World.size_setCell, World.size_setCell]
      exact Nat.le_refl _
theorem cell_lt {w : World} {b o : Nat} {x : Value} (h : w.cell? ⟨b, o, none⟩ = some x) : b < w.heap.size := by
  rcases Nat.lt_or_ge b w.heap.size with h' | h'
  · exact h'
  · have : w.heap[b]? = none := Array.getElem?_eq_none h'
    simp [World.cell?, this] at h
theorem Levels.mono {w : World} {rb rb' : Nat} (h : Levels w rb) (hr : rb ≤ rb') : Levels w rb' := by
  intro lv hl
  obtain ⟨b, off, cap, h1, h2, h3⟩ := h lv hl
  exact ⟨b, off, cap, by omega, by omega, h3⟩
/-- the reader, just laid -/
theorem Rd.new {w1 w2 : World} {base rb : Nat} {ts : List Tok} {v : Value} (hv : w1.ownsRow base 142 4 v ts.length (ts.flatMap Tok.cells)) (hl : ∃ l e, ts = l ++ [e] ∧ e.kind = 6 ∧ ∀ t ∈ l, t.kind ≠ 6)
    (hb : w2.heap[rb]? = some (.cells #[v, .int .i64 0] 109 (0, 0))) (hr : rb = w1.heap.size) (hk : ∀ k, k < w1.heap.size → v.ownBlock = some k → w2.heap[k]? = w1.heap[k]?) (hs : w1.heap.size ≤ w2.heap.size) (hL : Levels w2 rb) : Rd w2 rb ts 0 := by
  have hpos : 0 < ts.length := by obtain ⟨l, e, h, _⟩ := hl; rw [h]; simp
  rcases ownsRow_cases hv with ⟨_, h2⟩ | ⟨g, cap, rfl, h1, h2, h3⟩
  · omega
  have hg : g < w1.heap.size := (hv.lt g rfl).2
  refine ⟨g, 0, cap, ⟨hb, h1, h2, by omega, Nat.lt_of_lt_of_le hg hs, fun k t j x hi hj => ?_, hl, hL⟩⟩
  have := row_cell (f := Tok.cells) (fun _ => rfl) hv (g := g) rfl hi hj
  rw [Nat.zero_add]
  exact (World.cell?_of_block (hk g hg rfl)).trans this
theorem wrap_succ (c : Int) : IntKind.i64.wrap (IntKind.i64.wrap c + 1) = IntKind.i64.wrap (c + 1) := by
  simp only [IntKind.wrap_i64]
  omega
/-- what holds while the nodes are counted -/
def CntInv (w4 : World) (B mb : Nat) (a : ATree) (c : Nat) (W : World) : Prop :=
  TreeAt W B a ∧ W.heap[mb]? = some (.cells #[.int .i64 (IntKind.i64.wrap c)] 3 (0, 0)) ∧ W.os = w4.os ∧ W.tape = w4.tape ∧ W.output = w4.output ∧ w4.heap.size ≤ W.heap.size ∧ ∀ k, k < w4.heap.size → k ≠ mb → W.heap[k]? = w4.heap[k]?
def cntG (c : Nat) (x : ATree) : Bool × Nat := (true, c + 1)
mutual
theorem cnt_many : ∀ (a : ATree) (c : Nat), walkA cntG a c = c + a.many
  | .mk b v k t n l, c => by simp only [walkA, cntG, if_true, ATree.many]; rw [cnt_manyL l]; omega
theorem cnt_manyL : ∀ (l : List ATree) (c : Nat), walkL cntG l c = c + manyLA l
  | [], c => by simp [walkL, manyLA]
  | a :: l, c => by simp only [walkL, manyLA]; rw [cnt_many a, cnt_manyL l]; omega
end
set_option maxHeartbeats 2000000 in
theorem cnt_any (w4 : World) (B mb : Nat) (a x : ATree) (hmb : mb < B ∨ mb ∉ a.blocks) (hml : mb < w4.heap.size) (c : Nat) (w : World) (hI : CntInv w4 B mb a c w) :
    Calls Tryz.prog 76 #[x.ptr, .pointer (some ⟨mb, 0, none⟩)] w fun e w' => e = .returned (.bool (cntG c x).1) ∧ CntInv w4 B mb a (cntG c x).2 w' := by
  obtain ⟨h1, h2, h3, h4, h5, h6, h7⟩ := hI
  have c1 : w.cell? ⟨mb, 0, none⟩ = some (.int .i64 (IntKind.i64.wrap c)) := by simp [World.cell?, h2]
  have z1 : w.frozen? ⟨mb, 0, none⟩ = false := by simp [World.frozen?, h2]
  have hn : mb ∉ a.blocks := by
    rcases hmb with h | h
    · intro hx; have := (h1.has mb hx).1; omega
    · exact h
  obtain ⟨y, hy⟩ : ∃ y, y = IntKind.i64.wrap (c : Int) := ⟨_, rfl⟩
  rw [← hy] at c1
  have H : Hid (CntInv w4 B mb a (c + 1) (w.setCell ⟨mb, 0, none⟩ (.int .i64 (IntKind.i64.wrap (y + 1))))) := by
    refine Lib.hid ⟨h1.keepB fun k hk => Below.heap_setCell _ _ _ _ (fun e => hn (by have e' : k = mb := e; rw [← e']; exact hk)), ?_, h3, h4, h5, by rw [World.size_setCell]; exact h6, fun k hk hne => (Below.heap_setCell _ _ _ _ hne).trans (h7 k hk hne)⟩
    rw [show IntKind.i64.wrap (((c + 1 : Nat) : Int)) = IntKind.i64.wrap (y + 1) by rw [hy, wrap_succ]; rfl]
    exact setCell_block (o := 0) _ h2
  unfold ATree.ptr
  clear h1 h2 h3 h4 h5 h6 h7 hn hy hmb
  go_enter Tryz.func76, Tryz.ntmps76
  go_wp2
  go_ret
  rw [show wrap64 (y + 1) = IntKind.i64.wrap (y + 1) by simp only [IntKind.wrap_i64, wrap64]]
  exact ⟨rfl, H.out⟩
end Go.Proofs.YtgifgiipojedbaaGreatDoor
