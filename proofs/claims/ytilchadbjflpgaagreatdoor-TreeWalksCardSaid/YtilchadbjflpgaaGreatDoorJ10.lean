/- Package tree: Walk with sloppylaw.TreeWalks$1. Map literals with texts for keys and numbers for elements. Package hoist: lists of texts, once each. Package tree: what the reader throws; want, name, node, within. Package tree: value, end, around, block. Package tree: the kinds of what is read. -/
import Derived.Test.YtilchadbjflpgaaGreatDoorJ01
import Derived.Test.YtilchadbjflpgaaGreatDoorJ09
import Derived.Test.YtilchadbjflpgaaGreatDoorJ04
import Derived.WalkKit
import Derived.Maps.Own
import Derived.Maps.OwnOps
import Derived.Maps.RangeWalk
import Derived.Lib.Hide
namespace Go.Proofs.YtilchadbjflpgaaGreatDoor
open Go Go.RowKit
set_option maxRecDepth 100000
set_option linter.unusedVariables false
set_option maxHeartbeats 4000000 in
theorem walk_Tw (p0 p1 : Addr) {σ : Type} (Inv : σ → World → Prop) (g : σ → ATree → Bool × σ) (B : Nat) : ∀ (m : Nat) (a : ATree), a.many ≤ m → (∀ s w, Inv s w → TreeAt w B a) →
 ∀ s, (∀ x s', Reach g a s x s' → ∀ w, Inv s' w → Calls Tryz.prog 6 #[x.ptr, .pointer (some p0), .pointer (some p1)] w fun e w' => e = .returned (.bool (g s' x).1) ∧ Inv (g s' x).2 w') →
 ∀ w, Inv s w → Calls Tryz.prog 5 #[a.ptr, .func (.func 6) #[] #[.pointer (some p0), .pointer (some p1)]] w fun e w' => e = .returned (.tuple #[]) ∧ Inv (walkA g a s) w' := by
 intro m
 induction m with
 | zero => intro a h; exfalso; cases a; simp [ATree.many] at h
 | succ m ih =>
   intro a hm hT s hg w hI
   have IH := lh ih
   have HT := lh hT
   have HG := lh hg
   have HM := lh hm
   have HC := hg a s (.self a s) w hI
   rw [walkA_eq]
   unfold ATree.ptr at HC ⊢
   have hkid : ∀ (i : Nat) (k x : ATree) (s' : σ), (g s a).1 = true → a.kids[i]? = some k → Reach g k (walkL g (a.kids.take i) (g s a).2) x s' → Reach g a s x s' := fun i k x s' h1 h2 h3 => .kid h1 h2 h3
   obtain ⟨ok, s1, hgs⟩ : ∃ ok s1, g s a = (ok, s1) := ⟨_, _, rfl⟩
   rw [hgs] at HC hkid ⊢
   have HKID := lh hkid
   clear hkid
   have HC := lh HC
   clear ih hT hg hm hI hgs
   cases ok
   ·go_enter Tryz.func5, Tryz.ntmps5
    go_wp2_with fail
    refine HC.out.mono ?_
    rintro e w1 ⟨rfl, hI1⟩
    have HI1 := lh hI1
    clear hI1 HC
    go_wp2
    refine bodyPost_ret (results_none rfl _ _ _) rfl ?_
    exact ⟨rfl, HI1.out⟩
   ·simp only [if_true]
    go_enter Tryz.func5, Tryz.ntmps5
    go_wp2_with fail
    refine HC.out.mono ?_
    rintro e w1 ⟨rfl, hI1⟩
    have hT1 := HT.out _ _ hI1
    have hblk := hT1.blkOf
    have hrow := hT1.rowOf
    obtain ⟨p, cp, hv⟩ : ∃ p cp, a.v = .slice p a.kids.length cp := by
     rcases ownsRow_cases hrow with ⟨h1, h2⟩ | ⟨g0, cap0, h1, _⟩
     ·exact ⟨none, 0, by rw [h1, h2]⟩
     ·exact ⟨_, _, h1⟩
    rw [hv] at hblk
    have c3 : w1.cell? ⟨a.b, 3, none⟩ = some (.slice p a.kids.length cp) := by simp [World.cell?, hblk]
    have hlen : a.kids.length ≤ 9223372036854775807 := by
     rcases ownsRow_cases hrow with ⟨h1, h2⟩ | ⟨g0, cap0, h1, k1, k2, k3⟩
     ·omega
     ·unfold maxLen at k2; omega
    have HI1 := lh hI1
    have HV := lh hv
    obtain ⟨n, hn⟩ : ∃ n, n = a.kids.length := ⟨_, rfl⟩
    rw [← hn] at c3 hlen
    have HN := lh hn
    clear hI1 hT1 hblk hrow hv hn HC
    go_wp2_with fail
    go_loopw [19] (fun i wr => ∃ k : Nat, k ≤ n ∧ i = .int .i64 k ∧ Hid (Inv (walkL g (a.kids.take k) s1) wr)) (fun i _ => n - (intOf i).toNat)
    case atStart => exact ⟨0, Nat.zero_le _, rfl, lh (by simpa [walkL] using HI1.out)⟩
    case round =>
     obtain ⟨k, hk, rfl, HI⟩ := hrel
     by_cases hkn : k < n
     ·obtain ⟨x, hx⟩ : ∃ x, a.kids[k]? = some x := ⟨_, List.getElem?_eq_getElem (by rw [← HN.out]; exact hkn)⟩
      have hT2 := HT.out _ _ HI.out
      have hrow := hT2.rowOf
      rcases ownsRow_cases hrow with ⟨_, h2⟩ | ⟨g0, cap0, hv0, k1, k2, k3⟩
      ·rw [← HN.out] at h2; omega
      have hp : p = some ⟨g0, 0, none⟩ := by
       have := HV.out.symm.trans hv0
       simp only [Value.slice.injEq] at this
       exact this.1
      subst hp
      have cx := ownsRow_cell1 hrow (g := g0) (by rw [hv0]; rfl) (i := k) (x := x.ptr) (by rw [List.getElem?_map, hx]; rfl)
      unfold ATree.ptr at cx
      have hmem : x ∈ a.kids := List.mem_of_getElem? hx
      have hcall := IH.out x (by have := many_kid hmem; have := HM.out; omega) (fun s w h => (HT.out s w h).kid hmem) _ (fun y s' hy => HG.out y s' (HKID.out k x y s' (by first | rfl | trivial) hx hy)) _ HI.out
      unfold ATree.ptr at hcall
      have HCALL := lh hcall
      have HX := lh hx
      have hge : n ≤ cp := by
       have := HV.out.symm.trans hv0
       simp only [Value.slice.injEq] at this
       rw [HN.out, this.2.2]; exact k1
      clear hx hT2 hrow hv0 k1 k2 k3 hmem hcall
      go_wp2_with fail
      refine HCALL.out.mono ?_
      rintro e w2 ⟨rfl, hI2⟩
      have HI2 := lh hI2
      clear hI2 HCALL
      go_wp2
      go_roundw
      case rel => exact ⟨k + 1, by omega, by go_num, lh (by rw [take_succ_kid HX.out, walkL_snoc]; exact HI2.out)⟩
      case measure => simp [intOf]; omega
     ·have hk2 : k = n := by omega
      subst hk2
      go_wp2
      go_end0
      refine ⟨rfl, ?_⟩
      have := HI.out
      rwa [List.take_of_length_le (by rw [← HN.out]; exact Nat.le_refl _)] at this
end Go.Proofs.YtilchadbjflpgaaGreatDoor
namespace Go.Proofs.YtilchadbjflpgaaGreatDoor
open Go Go.RowKit Go.Maps
set_option maxRecDepth 100000
theorem wpList_insert_own {H : Type} {P : Program} (w : World) {ops : Array Oper} {rest : List Oper} {o : Oper} {a : Act} {Q : Exit → Act → World → Prop}
 (hg : o.guard = none) (m x v : Operand) (t : TypeId) (hop : o.op = Op.insert t m x v)
 (k e : TypeId) (K : Keyed P k) (ht : P.underlying t = some (.map k e)) (R : Value → Option (DataW H × List MemPlace)) (b n : Nat) (D : DataW H)
 (hm : a.eval m = .map (some b)) (hown : w.ownsMap P k R b n D) (hn : n < maxLen) (key val : Value) (kl : Lit) (hx : a.eval x = key) (hv : a.eval v = val) (hkey : keyOf P k key = some kl)
 (d : DataW H) (ps : List MemPlace) (hval : R val = some (d, ps))
 (hK : ∀ w', w'.ownsMap P k R b (n + 1) (D.put kl d) → w.grownBy w' (some b) → wpList P ops Q rest (a.put o.dst undef) w') :
 wpList P ops Q (o :: rest) a w := by
 refine wpList_plain hg fun K' hK' => ?_
 obtain ⟨w', hrun, r1, r2⟩ := hown.update K ht hn hkey hval
 unfold Oper.wp
 simp [execOp, hop, hm, hx, hv, hrun, Result.andThen]
 exact hK' _ _ (hK w' r1 r2)
theorem Tryz.keyedS : Keyed Tryz.prog 9 := string_keyed Tryz.underlying9
theorem Tryz.zeroI (w : World) : (zeroValue 3).run Tryz.prog w = .ok (.int .i64 0) w := by kernel_rfl
theorem bel_grown {B : Nat} {w w1 w2 : World} {b : Nat} (h : Below B w w1) (hg : w1.grownBy w2 (some b)) (hb : B ≤ b) (hs : B ≤ w1.heap.size) : Below B w w2 :=
 h.grown hg hs fun j hj => by cases hj; exact hb
def litD (l : List (ByteArray × Int)) : DataW Unit := l.foldl (fun D x => D.put (.string x.1.data.toList) (.lit (.int .i64 x.2))) (.map [])
def signL7 : List (ByteArray × Int) := [(s_or, 25), (s_and, 26), (s_same, 27), (s_less, 28), (s_add, 29), (s_sub, 30), (s_mul, 31)]
end Go.Proofs.YtilchadbjflpgaaGreatDoor
namespace Go.Proofs.YtilchadbjflpgaaGreatDoor
open Go Go.RowKit
set_option maxRecDepth 100000
set_option linter.unusedVariables false
def Texts (w : World) (B : Nat) (v : Value) (l : List ByteArray) : Prop := w.ownsRow B 9 1 v l.length (l.map Value.string)
def addL (l : List ByteArray) (s : ByteArray) : List ByteArray := if Lib.containsS l s then l else l ++ [s]
theorem Texts.nil (w : World) (B : Nat) : Texts w B (.slice none 0 0) [] := World.ownsRow_nil w B _ _
theorem Texts.cells {w : World} {B : Nat} {v : Value} {l : List ByteArray} (h : Texts w B v l) {b : Nat} (hb : v.ownBlock = some b) {j : Nat} {s : ByteArray} (hs : l[j]? = some s) : w.cell? ⟨b, j, none⟩ = some (.string s) :=
 ownsRow_cell1 h hb (by rw [List.getElem?_map, hs]; rfl)
theorem Texts.bel {w w' : World} {B : Nat} {v : Value} {l : List ByteArray} (h : Texts w B v l) (g : Below w.heap.size w w') : Texts w' B v l :=
 ownsRow_block h fun k hk => g.block k (World.ownsRow.lt h k hk).2
theorem Texts.form {w : World} {B : Nat} {v : Value} {l : List ByteArray} (h : Texts w B v l) : (v = .slice none 0 0 ∧ l = []) ∨ ∃ g cap, v = .slice (some ⟨g, 0, none⟩) l.length cap ∧ l.length ≤ cap ∧ cap ≤ maxLen := by
 rcases ownsRow_cases h with ⟨h1, h2⟩ | ⟨g, cap, h1, h2, h3, _⟩
 ·exact .inl ⟨h1, List.eq_nil_of_length_eq_zero h2⟩
 ·exact .inr ⟨g, cap, h1, h2, h3⟩
theorem Tryz.infoStr : (Tryz.prog.info? 9).map (fun i => (i.zero, i.size, i.bytes)) = some (some (.string ByteArray.empty), 1, 16) := by kernel_rfl
end Go.Proofs.YtilchadbjflpgaaGreatDoor
namespace Go.Proofs.YtilchadbjflpgaaGreatDoor
open Go Go.RowKit
set_option maxRecDepth 100000
theorem thrown_new {w : World} {base : Nat} {c p : Int} (hb : base ≤ w.heap.size) :
 Thrown (w.alloc (.cells #[.int .i64 c, .int .i64 p] 92)) base (.panicked [{ v := .iface 64 (.agg #[.iface 91 (.pointer (some ⟨w.heap.size, 0, none⟩))]), recovered := false }]) c p :=
 ⟨w.heap.size, rfl, hb, heap_alloc_new w _⟩
theorem Thrown.base {w : World} {b b' : Nat} {e : Ending} {c p : Int} (h : Thrown w b e c p) (hb : b' ≤ b) : Thrown w b' e c p := by
 obtain ⟨x, h1, h2, h3⟩ := h
 exact ⟨x, h1, Nat.le_trans hb h2, h3⟩
set_option maxHeartbeats 2000000 in
theorem fail_any (w : World) (rb : Nat) (ts : List Tok) (d : Nat) (c : Int) (hR : Rd w rb ts d) :
 Calls Tryz.prog 69 #[.pointer (some ⟨rb, 0, none⟩), .int .i64 c] w fun e w' => Thrown w' w.heap.size e c (hdT ts).at' ∧ Below w.heap.size w w' := by
 obtain ⟨tb, off, cap, h⟩ := hR
 have c0 := h.c0
 have t3 := h.hd (j := 3) rfl
 have hp := h.pos
 have hm := h.most
 have hle := h.le
 unfold maxLen at hm
 obtain ⟨n, hn⟩ : ∃ n, n = ts.length := ⟨_, rfl⟩
 rw [← hn] at c0 hp hle
 have hlt := h.lt
 have hrt := h.rlt
 clear hn h
 go_enter Tryz.func69, Tryz.ntmps69
 go_wp2
 exact ⟨rfl, thrown_new (Nat.le_refl _), (Below.refl _ _).alloc (Nat.le_refl _) _⟩
set_option maxHeartbeats 2000000 in
theorem want_no (w : World) (rb : Nat) (ts : List Tok) (d : Nat) (s : ByteArray) (hR : Rd w rb ts d) (hs : isT s ts = false) :
 Calls Tryz.prog 93 #[.pointer (some ⟨rb, 0, none⟩), .string s] w fun e w' => Thrown w' w.heap.size e 3 (hdT ts).at' ∧ Below w.heap.size w w' := by
 have HC := lh (take_no w rb ts d s hR hs)
 have HR := lh hR
 clear hs hR
 go_enter Tryz.func93, Tryz.ntmps93
 go_wp2_with fail
 refine HC.out.mono ?_
 rintro e w1 ⟨rfl, hB⟩
 have HF := lh (fail_any w1 rb ts d 3 (HR.out.below hB))
 have HB := lh hB
 clear hB
 go_wp2_with fail
 refine HF.out.mono ?_
 rintro e w2 ⟨⟨b, rfl, h1, h2⟩, hB⟩
 exact ⟨rfl, ⟨b, rfl, Nat.le_trans HB.out.size h1, h2⟩, HB.out.trans (hB.mono HB.out.size)⟩
set_option maxHeartbeats 2000000 in
theorem want_yes (w : World) (rb : Nat) (ts : List Tok) (d : Nat) (s : ByteArray) (hR : Rd w rb ts d) (hs : isT s ts = true) :
 Calls Tryz.prog 93 #[.pointer (some ⟨rb, 0, none⟩), .string s] w fun e w' => e = .returned (.tuple #[]) ∧ Rd w' rb ts.tail d ∧ RFr w w' rb := by
 have HC := lh (take_yes w rb ts d s hR hs)
 clear hs hR
 go_enter Tryz.func93, Tryz.ntmps93
 go_wp2_with fail
 refine HC.out.mono ?_
 rintro e w1 ⟨rfl, hR, hF⟩
 have HR := lh hR
 have HF := lh hF
 clear hR hF
 go_wp2
 go_end0
 exact ⟨rfl, HR.out, HF.out⟩
set_option maxHeartbeats 2000000 in
theorem name_no (w : World) (rb : Nat) (ts : List Tok) (d : Nat) (hR : Rd w rb ts d) (hk : (hdT ts).kind ≠ 1) :
 Calls Tryz.prog 75 #[.pointer (some ⟨rb, 0, none⟩)] w fun e w' => Thrown w' w.heap.size e 3 (hdT ts).at' ∧ Below w.heap.size w w' := by
 have HR := lh hR
 obtain ⟨tb, off, cap, h⟩ := hR
 have c0 := h.c0
 have t0 := h.hd (j := 0) rfl
 have t1 := h.hd (j := 1) rfl
 have t2 := h.hd (j := 2) rfl
 have t3 := h.hd (j := 3) rfl
 have hp := h.pos
 have hm := h.most
 have hle := h.le
 unfold maxLen at hm
 obtain ⟨n, hn⟩ : ∃ n, n = ts.length := ⟨_, rfl⟩
 rw [← hn] at c0 hp hle
 have hlt := h.lt
 have hrt := h.rlt
 have hk1 : ((hdT ts).kind == 1) = false := by simpa using hk
 have hal : Below w.heap.size w (w.alloc (.cells #[.int .i64 (hdT ts).kind, .string (hdT ts).text, .int .i64 (hdT ts).n, .int .i64 (hdT ts).at'] 90)) := (Below.refl _ _).alloc (Nat.le_refl _) _
 have HF := lh (fail_any _ rb ts d 3 (HR.out.below hal))
 have HAL := lh hal
 simp only [Nat.add_zero] at t0
 clear hn h hk hal
 go_enter Tryz.func75, Tryz.ntmps75
 go_wp2_with fail
 refine HF.out.mono ?_
 rintro e w2 ⟨⟨b, rfl, h1, h2⟩, hB⟩
 exact ⟨rfl, ⟨b, rfl, Nat.le_trans HAL.out.size h1, h2⟩, HAL.out.trans (hB.mono HAL.out.size)⟩
set_option maxHeartbeats 2000000 in
theorem name_yes (w : World) (rb : Nat) (ts : List Tok) (d : Nat) (hR : Rd w rb ts d) (hk : (hdT ts).kind = 1) :
 Calls Tryz.prog 75 #[.pointer (some ⟨rb, 0, none⟩)] w fun e w' => e = .returned (.string (hdT ts).text) ∧ Rd w' rb ts.tail d ∧ RFr w w' rb := by
 obtain ⟨tb, off, cap, h⟩ := hR
 have c0 := h.c0
 have t0 := h.hd (j := 0) rfl
 have t1 := h.hd (j := 1) rfl
 have t2 := h.hd (j := 2) rfl
 have t3 := h.hd (j := 3) rfl
 have h2 := h.two (by omega)
 have hm := h.most
 have hle := h.le
 have z0 := h.fz 0
 unfold maxLen at hm
 have H := lh (h.tail (by omega))
 obtain ⟨n, hn⟩ : ∃ n, n = ts.length := ⟨_, rfl⟩
 rw [← hn] at c0 h2 hle
 have HN := lh hn
 have hlt := h.lt
 have hrt := h.rlt
 have HK := lh hk
 simp only [Nat.add_zero, hk] at t0
 clear hn h hk
 go_enter Tryz.func75, Tryz.ntmps75
 go_wp2
 go_ret
 have h4 := H.out
 rw [← HN.out] at h4
 have hb : ∀ o, Below (w.setCell ⟨rb, 0, none⟩ (.slice (some ⟨tb, off + 4, none⟩) (n - 1) (cap - 1))).heap.size (w.setCell ⟨rb, 0, none⟩ (.slice (some ⟨tb, off + 4, none⟩) (n - 1) (cap - 1))) ((w.setCell ⟨rb, 0, none⟩ (.slice (some ⟨tb, off + 4, none⟩) (n - 1) (cap - 1))).alloc o) := fun o => (Below.refl _ _).alloc (Nat.le_refl _) o
 exact ⟨rfl, ⟨tb, off + 4, cap - 1, h4.below (hb _)⟩, ((RFr.refl w rb).set _ _).trans (RFr.below (hb _))⟩
theorem node_any (w : World) (rb : Nat) (kind : Int) (text : ByteArray) (p : Option Addr) (m c : Nat) :
 Calls Tryz.prog 51 #[.pointer (some ⟨rb, 0, none⟩), .int .i64 kind, .string text, .slice p m c] w fun e w' => e = .returned (.pointer (some ⟨w.heap.size, 0, none⟩)) ∧ w' = w.alloc (.cells #[.int .i64 kind, .string text, .int .i64 0, .slice p m c] 29) := by
 go_enter Tryz.func51, Tryz.ntmps51
 go_wp2
 go_ret
 exact ⟨rfl, rfl⟩
set_option maxHeartbeats 4000000 in
theorem within_statement (w : World) (rb B : Nat) (ts : List Tok) (d : Nat) (p : PR) (r : Except (Int × Nat) (Tree × List Tok)) (hR : Rd w rb ts d) (hd : d < 1000) (hB : rb < B) (hr : withinT d ts p = some r)
 (HC : d + 1 ≤ 30 → p = some r → ∀ w1, Rd w1 rb ts (d + 1) → w1.heap.size = w.heap.size → Calls Tryz.prog 54 #[.pointer (some ⟨rb, 0, none⟩)] w1 (PPost w1 rb B (d + 1) r)) :
 Calls Tryz.prog 53 #[.pointer (some ⟨rb, 0, none⟩), .func (.func 54) #[.pointer (some ⟨rb, 0, none⟩)] #[]] w (PPost w rb B d r) := by
 obtain ⟨tb, off, cap, h⟩ := hR
 have c1 := h.c1
 have z1 := h.fz 1
 have hrt := h.rlt
 have hS : Rd (w.setCell ⟨rb, 1, none⟩ (.int .i64 ((d : Int) + 1))) rb ts (d + 1) := ⟨tb, off, cap, h.deep (by omega)⟩
 have HS := lh hS
 have HH := lh h
 have HC := lh HC
 clear h hS
 unfold withinT at hr
 by_cases hd30 : 30 < d + 1
 ·rw [if_pos hd30] at hr
  obtain rfl := Option.some.inj hr
  have hd' : decide ((d : Int) + 1 > 30) = true := by simp; omega
  have HF := lh (fail_any _ rb ts (d + 1) 4 HS.out)
  clear hr
  go_enter Tryz.func53, Tryz.ntmps53
  go_wp2_with fail
  refine HF.out.mono ?_
  rintro e w2 ⟨⟨b, rfl, h1, h2⟩, hB⟩
  rw [World.size_setCell] at h1
  refine ⟨rfl, ⟨b, rfl, h1, h2⟩, ?_⟩
  exact ((RFr.refl w rb).set 1 _).trans (RFr.below hB)
 ·rw [if_neg hd30] at hr
  have hsz : (w.setCell ⟨rb, 1, none⟩ (.int .i64 ((d : Int) + 1))).heap.size = w.heap.size := World.size_setCell ..
  have HX := lh (HC.out (by omega) hr _ HS.out hsz)
  have HSZ := lh hsz
  clear hsz hr
  go_enter Tryz.func53, Tryz.ntmps53
  go_wp2_with fail
  refine HX.out.mono ?_
  rcases r with ⟨c, p⟩ | ⟨t, ts'⟩
  ·rintro e w2 ⟨⟨b, rfl, h1, h2⟩, hF⟩
   rw [HSZ.out] at h1
   exact ⟨rfl, ⟨b, rfl, h1, h2⟩, ((RFr.refl w rb).set 1 _).trans hF⟩
  ·rintro e w2 ⟨a, rfl, hG, ⟨tb2, off2, cap2, h2⟩, hF⟩
   have k1 := h2.c1
   have kz := h2.fz 1
   have H2 := lh h2
   have HG := lh hG
   have HF := lh hF
   clear hG h2 hF
   go_wp2
   go_ret
   exact ⟨a, rfl, (HG.out.rfr hB ((RFr.refl w2 rb).set _ _)).pre ((RFr.refl w rb).set 1 _), ⟨tb2, off2, cap2, H2.out.deep (by omega)⟩, (((RFr.refl w rb).set 1 _).trans HF.out).set 1 _⟩
set_option maxHeartbeats 4000000 in
theorem within_assign (w : World) (rb B : Nat) (ts : List Tok) (d : Nat) (p : PR) (r : Except (Int × Nat) (Tree × List Tok)) (hR : Rd w rb ts d) (hd : d < 1000) (hB : rb < B) (hr : withinT d ts p = some r)
 (HC : d + 1 ≤ 30 → p = some r → ∀ w1, Rd w1 rb ts (d + 1) → w1.heap.size = w.heap.size → Calls Tryz.prog 94 #[.pointer (some ⟨rb, 0, none⟩)] w1 (PPost w1 rb B (d + 1) r)) :
 Calls Tryz.prog 53 #[.pointer (some ⟨rb, 0, none⟩), .func (.func 94) #[.pointer (some ⟨rb, 0, none⟩)] #[]] w (PPost w rb B d r) := by
 obtain ⟨tb, off, cap, h⟩ := hR
 have c1 := h.c1
 have z1 := h.fz 1
 have hrt := h.rlt
 have hS : Rd (w.setCell ⟨rb, 1, none⟩ (.int .i64 ((d : Int) + 1))) rb ts (d + 1) := ⟨tb, off, cap, h.deep (by omega)⟩
 have HS := lh hS
 have HH := lh h
 have HC := lh HC
 clear h hS
 unfold withinT at hr
 by_cases hd30 : 30 < d + 1
 ·rw [if_pos hd30] at hr
  obtain rfl := Option.some.inj hr
  have hd' : decide ((d : Int) + 1 > 30) = true := by simp; omega
  have HF := lh (fail_any _ rb ts (d + 1) 4 HS.out)
  clear hr
  go_enter Tryz.func53, Tryz.ntmps53
  go_wp2_with fail
  refine HF.out.mono ?_
  rintro e w2 ⟨⟨b, rfl, h1, h2⟩, hB⟩
  rw [World.size_setCell] at h1
  refine ⟨rfl, ⟨b, rfl, h1, h2⟩, ?_⟩
  exact ((RFr.refl w rb).set 1 _).trans (RFr.below hB)
 ·rw [if_neg hd30] at hr
  have hsz : (w.setCell ⟨rb, 1, none⟩ (.int .i64 ((d : Int) + 1))).heap.size = w.heap.size := World.size_setCell ..
  have HX := lh (HC.out (by omega) hr _ HS.out hsz)
  have HSZ := lh hsz
  clear hsz hr
  go_enter Tryz.func53, Tryz.ntmps53
  go_wp2_with fail
  refine HX.out.mono ?_
  rcases r with ⟨c, p⟩ | ⟨t, ts'⟩
  ·rintro e w2 ⟨⟨b, rfl, h1, h2⟩, hF⟩
   rw [HSZ.out] at h1
   exact ⟨rfl, ⟨b, rfl, h1, h2⟩, ((RFr.refl w rb).set 1 _).trans hF⟩
  ·rintro e w2 ⟨a, rfl, hG, ⟨tb2, off2, cap2, h2⟩, hF⟩
   have k1 := h2.c1
   have kz := h2.fz 1
   have H2 := lh h2
   have HG := lh hG
   have HF := lh hF
   clear hG h2 hF
   go_wp2
   go_ret
   exact ⟨a, rfl, (HG.out.rfr hB ((RFr.refl w2 rb).set _ _)).pre ((RFr.refl w rb).set 1 _), ⟨tb2, off2, cap2, H2.out.deep (by omega)⟩, (((RFr.refl w rb).set 1 _).trans HF.out).set 1 _⟩
set_option maxHeartbeats 4000000 in
theorem within_unary (w : World) (rb B : Nat) (ts : List Tok) (d : Nat) (p : PR) (r : Except (Int × Nat) (Tree × List Tok)) (hR : Rd w rb ts d) (hd : d < 1000) (hB : rb < B) (hr : withinT d ts p = some r)
 (HC : d + 1 ≤ 30 → p = some r → ∀ w1, Rd w1 rb ts (d + 1) → w1.heap.size = w.heap.size → Calls Tryz.prog 111 #[.pointer (some ⟨rb, 0, none⟩)] w1 (PPost w1 rb B (d + 1) r)) :
 Calls Tryz.prog 53 #[.pointer (some ⟨rb, 0, none⟩), .func (.func 111) #[.pointer (some ⟨rb, 0, none⟩)] #[]] w (PPost w rb B d r) := by
 obtain ⟨tb, off, cap, h⟩ := hR
 have c1 := h.c1
 have z1 := h.fz 1
 have hrt := h.rlt
 have hS : Rd (w.setCell ⟨rb, 1, none⟩ (.int .i64 ((d : Int) + 1))) rb ts (d + 1) := ⟨tb, off, cap, h.deep (by omega)⟩
 have HS := lh hS
 have HH := lh h
 have HC := lh HC
 clear h hS
 unfold withinT at hr
 by_cases hd30 : 30 < d + 1
 ·rw [if_pos hd30] at hr
  obtain rfl := Option.some.inj hr
  have hd' : decide ((d : Int) + 1 > 30) = true := by simp; omega
  have HF := lh (fail_any _ rb ts (d + 1) 4 HS.out)
  clear hr
  go_enter Tryz.func53, Tryz.ntmps53
  go_wp2_with fail
  refine HF.out.mono ?_
  rintro e w2 ⟨⟨b, rfl, h1, h2⟩, hB⟩
  rw [World.size_setCell] at h1
  refine ⟨rfl, ⟨b, rfl, h1, h2⟩, ?_⟩
  exact ((RFr.refl w rb).set 1 _).trans (RFr.below hB)
 ·rw [if_neg hd30] at hr
  have hsz : (w.setCell ⟨rb, 1, none⟩ (.int .i64 ((d : Int) + 1))).heap.size = w.heap.size := World.size_setCell ..
  have HX := lh (HC.out (by omega) hr _ HS.out hsz)
  have HSZ := lh hsz
  clear hsz hr
  go_enter Tryz.func53, Tryz.ntmps53
  go_wp2_with fail
  refine HX.out.mono ?_
  rcases r with ⟨c, p⟩ | ⟨t, ts'⟩
  ·rintro e w2 ⟨⟨b, rfl, h1, h2⟩, hF⟩
   rw [HSZ.out] at h1
   exact ⟨rfl, ⟨b, rfl, h1, h2⟩, ((RFr.refl w rb).set 1 _).trans hF⟩
  ·rintro e w2 ⟨a, rfl, hG, ⟨tb2, off2, cap2, h2⟩, hF⟩
   have k1 := h2.c1
   have kz := h2.fz 1
   have H2 := lh h2
   have HG := lh hG
   have HF := lh hF
   clear hG h2 hF
   go_wp2
   go_ret
   exact ⟨a, rfl, (HG.out.rfr hB ((RFr.refl w2 rb).set _ _)).pre ((RFr.refl w rb).set 1 _), ⟨tb2, off2, cap2, H2.out.deep (by omega)⟩, (((RFr.refl w rb).set 1 _).trans HF.out).set 1 _⟩
end Go.Proofs.YtilchadbjflpgaaGreatDoor
namespace Go.Proofs.YtilchadbjflpgaaGreatDoor
open Go Go.RowKit
set_option maxRecDepth 100000
set_option linter.unusedVariables false
theorem leaves_le {f : Nat} {job : Job} {d : Nat} {ts ts' : List Tok} {t : Tree} (h : parseF f job d ts = some (.ok (t, ts'))) : ts'.length ≤ ts.length := by
 have := parse_leaves f job d ts t ts' h
 have hl : job.least ≤ 1 := by cases job <;> simp [Job.least]
 omega
set_option maxHeartbeats 4000000 in
theorem value_says (f : Nat) (hA : Says 94 rArg .assign f) : Says 77 rArg .value (f + 1) := by
 intro w rb B d ts r hP hp
 have hw : withinT d ts (parseF f .assign (d + 1) ts) = some r := hp
 have HC := lh (within_assign w rb B ts d _ r hP.rd (by have := hP.deep; omega) hP.lt hw fun hd h1 w1 hR hs => hA w1 rb B (d + 1) ts r ⟨hR, hd, hP.lt, by have := hP.le; omega, hP.few⟩ h1)
 have hmf : ∀ (fn : Fn) (first cap : Array Value) (w : World), (Instr.makeFunc fn first cap).run Tryz.prog w = .ok (.func fn first cap) w := fun _ _ _ _ => rfl
 clear hP hp hw hA
 unfold rArg
 go_enter Tryz.func77, Tryz.ntmps77
 go_wp2_with fail
 refine HC.out.mono ?_
 rcases r with ⟨c, p⟩ | ⟨t, ts'⟩
 ·rintro e w2 ⟨⟨b, rfl, h1, h2⟩, hF⟩
  exact ⟨rfl, ⟨b, rfl, h1, h2⟩, hF⟩
 ·rintro e w2 ⟨a, rfl, hG, hR, hF⟩
  have HG := lh hG
  have HR := lh hR
  have HF := lh hF
  clear hG hR hF HC
  go_wp2
  go_ret
  exact ⟨a, rfl, HG.out, HR.out, HF.out⟩
set_option maxHeartbeats 4000000 in
theorem around_says (f : Nat) (hV : Says 77 rArg .value f) : Says 76 rArg .around (f + 1) := by
 intro w rb B d ts r hP hp
 have hw : wantT s_lpar ts (fun ts => bindT (parseF f .value d ts) fun x ts => wantT s_rpar ts fun ts => okT x ts) = some r := hp
 have HP := lh hP
 unfold rArg
 rcases wantT_some hw with ⟨hs, h1⟩ | ⟨hs, rfl⟩
 ·have HC := lh (want_yes w rb ts d s_lpar hP.rd hs)
  have H1 := lh h1
  clear hP hp hw hs h1
  go_enter Tryz.func76, Tryz.ntmps76
  go_wp2_with fail
  refine HC.out.mono ?_
  rintro e w1 ⟨rfl, hR1, hF1⟩
  have P1 := lh (HP.out.tail hR1 hF1)
  have F1 := lh hF1
  clear hR1 hF1 HC
  rcases bindT_some H1.out with ⟨⟨c, p⟩, hv, rfl⟩ | ⟨t, ts2, hv, h2⟩
  ·have HV := lh (hV w1 rb B d _ _ P1.out hv)
   clear hv
   go_wp2_with fail
   refine HV.out.mono ?_
   rintro e w2 ⟨⟨b, rfl, h1, h2⟩, hF⟩
   exact ⟨rfl, PPost.pre F1.out (r := .error (c, p)) ⟨⟨b, rfl, h1, h2⟩, hF⟩⟩
  ·have HV := lh (hV w1 rb B d _ _ P1.out hv)
   have hl := leaves_le hv
   have H2 := lh h2
   clear hv h2
   go_wp2_with fail
   refine HV.out.mono ?_
   rintro e w2 ⟨a, rfl, hG, hR2, hF2⟩
   have P2 := lh (P1.out.next hR2 hF2 hl)
   have F2 := lh (F1.out.trans hF2)
   have G2 := lh (hG.pre F1.out)
   clear hG hR2 hF2 HV hl
   rcases wantT_some H2.out with ⟨hs, h3⟩ | ⟨hs, rfl⟩
   ·obtain rfl := Option.some.inj h3
    have HC := lh (want_yes w2 rb ts2 d s_rpar P2.out.rd hs)
    clear hs h3
    go_wp2_with fail
    refine HC.out.mono ?_
    rintro e w3 ⟨rfl, hR3, hF3⟩
    have R3 := lh hR3
    have F3 := lh hF3
    clear hR3 hF3
    go_wp2
    go_ret
    exact ⟨a, rfl, G2.out.rfr HP.out.lt F3.out, R3.out, F2.out.trans F3.out⟩
   ·have HC := lh (want_no w2 rb ts2 d s_rpar P2.out.rd hs)
    clear hs
    go_wp2_with fail
    refine HC.out.mono ?_
    rintro e w3 ⟨⟨b, rfl, h1, h2⟩, hB⟩
    exact ⟨rfl, PPost.err F2.out ⟨b, rfl, h1, h2⟩ hB⟩
 ·have HC := lh (want_no w rb ts d s_lpar hP.rd hs)
  clear hP hp hw hs
  go_enter Tryz.func76, Tryz.ntmps76
  go_wp2_with fail
  refine HC.out.mono ?_
  rintro e w3 ⟨⟨b, rfl, h1, h2⟩, hB⟩
  exact ⟨rfl, PPost.err (RFr.refl _ _) ⟨b, rfl, h1, h2⟩ hB⟩
end Go.Proofs.YtilchadbjflpgaaGreatDoor
namespace Go.Proofs.YtilchadbjflpgaaGreatDoor
open Go Go.RowKit
set_option maxRecDepth 100000
theorem okT_inj {t t' : Tree} {ts ts' : List Tok} (h : okT t ts = some (.ok (t', ts'))) : t = t' ∧ ts = ts' := by simpa [okT] using h
theorem bindT_ok {p : PR} {k : Tree → List Tok → PR} {t : Tree} {ts : List Tok} (h : bindT p k = some (.ok (t, ts))) : ∃ x us, p = some (.ok (x, us)) ∧ k x us = some (.ok (t, ts)) := by
 rcases bindT_some h with ⟨e, _, he⟩ | h
 ·cases he
 ·exact h
theorem wantT_ok {s : ByteArray} {us : List Tok} {k : List Tok → PR} {t : Tree} {ts : List Tok} (h : wantT s us k = some (.ok (t, ts))) : isT s us = true ∧ k us.tail = some (.ok (t, ts)) := by
 rcases wantT_some h with h | ⟨_, h⟩
 ·exact h
 ·cases h
theorem nameT_ok {us : List Tok} {k : ByteArray → List Tok → PR} {t : Tree} {ts : List Tok} (h : nameT us k = some (.ok (t, ts))) : (hdT us).kind = 1 ∧ k (hdT us).text us.tail = some (.ok (t, ts)) := by
 rcases nameT_some h with h | ⟨_, h⟩
 ·exact h
 ·cases h
theorem decl_kind {f d : Nat} {k : Int} {m : Bool} {us ts : List Tok} {t : Tree} (h : parseF f (.decl k m) d us = some (.ok (t, ts))) : t.kind = k := by
 cases f with
 | zero => cases h
 | succ f =>
   obtain ⟨_, h⟩ := nameT_ok h
   split at h
   ·cases h
   ·split at h
    ·obtain ⟨x, vs, _, h⟩ := bindT_ok h
     obtain ⟨rfl, _⟩ := okT_inj h; rfl
    ·obtain ⟨rfl, _⟩ := okT_inj h; rfl
theorem func_kind {f d : Nat} {k : Int} {s : ByteArray} {us ts : List Tok} {t : Tree} (h : parseF f (.func k s) d us = some (.ok (t, ts))) : t.kind = k := by
 cases f with
 | zero => cases h
 | succ f =>
   obtain ⟨_, h⟩ := wantT_ok h
   obtain ⟨x, vs, _, h⟩ := bindT_ok h
   obtain ⟨_, h⟩ := wantT_ok h
   obtain ⟨x, vs, _, h⟩ := bindT_ok h
   obtain ⟨rfl, _⟩ := okT_inj h; rfl
theorem stmts_kind : ∀ {f d : Nat} {k : Int} {acc : List Tree} {us ts : List Tok} {t : Tree}, parseF f (.stmts k acc) d us = some (.ok (t, ts)) → t.kind = k := by
 intro f
 induction f with
 | zero => intro d k acc us ts t h; cases h
 | succ f ih =>
   intro d k acc us ts t h
   rw [parseF] at h
   generalize (if k = 1 then decide ((hdT us).kind = 6) else isT s_rbrace us) = c at h
   cases c
   ·obtain ⟨x, vs, _, h⟩ := bindT_ok h
    exact ih h
   ·obtain ⟨rfl, _⟩ := okT_inj h; rfl
theorem block_kind {f d : Nat} {b : Bool} {us ts : List Tok} {t : Tree} (h : parseF f (.block b) d us = some (.ok (t, ts))) : t.kind = 6 := by
 cases f with
 | zero => cases h
 | succ f =>
   obtain ⟨_, h⟩ := wantT_ok h
   obtain ⟨x, vs, hx, h⟩ := bindT_ok h
   obtain ⟨_, h⟩ := wantT_ok h
   obtain ⟨h1, _⟩ := okT_inj h
   cases b
   ·simp at h1; rw [← h1]; rfl
   ·simp at h1; rw [← h1]; exact stmts_kind hx
theorem try_kind {f d : Nat} {us ts : List Tok} {t : Tree} (h : parseF f .try_ d us = some (.ok (t, ts))) : t.kind = 12 := by
 cases f with
 | zero => cases h
 | succ f =>
   have key : ∀ (l : List Tree) (us : List Tok), (if isT s_finally us = true then bindT (parseF f (.block false) d us.tail) fun c ts => okT (.mk 12 ByteArray.empty 0 (l ++ [.mk 14 ByteArray.empty 0 [c]])) ts else if l.length = 1 then failT 3 us else okT (.mk 12 ByteArray.empty 0 l) us) = some (.ok (t, ts)) → t.kind = 12 := by
    intro l us h
    by_cases c : isT s_finally us = true
    ·rw [if_pos c] at h
     obtain ⟨x, vs, hx, h⟩ := bindT_ok h
     obtain ⟨rfl, _⟩ := okT_inj h; rfl
    ·rw [if_neg c] at h
     by_cases c2 : l.length = 1
     ·rw [if_pos c2] at h; cases h
     ·rw [if_neg c2] at h; obtain ⟨rfl, _⟩ := okT_inj h; rfl
   rw [parseF] at h
   obtain ⟨x, vs, hx, h⟩ := bindT_ok h
   dsimp only at h
   by_cases c : isT s_catch vs = true
   ·rw [if_pos c] at h
    obtain ⟨_, h⟩ := wantT_ok h
    obtain ⟨_, h⟩ := nameT_ok h
    obtain ⟨_, h⟩ := wantT_ok h
    obtain ⟨x, vs, hx, h⟩ := bindT_ok h
    exact key _ _ h
   ·rw [if_neg c] at h
    exact key _ _ h
theorem stmt_expr {f d : Nat} {us ts : List Tok} {t : Tree} (h : parseF (f + 1) .stmt d us = some (.ok (t, ts))) (hk : t.kind = 15) : t.kids ≠ [] := by
 have hend : ∀ {n : Tree} {vs : List Tok}, endT n vs = some (.ok (t, ts)) → n = t := fun h => (okT_inj (wantT_ok h).2).1
 rw [parseF] at h
 by_cases c0 : isT s_lbrace us = true
 ·rw [if_pos c0] at h
  have := block_kind h; omega
 rw [if_neg c0] at h
 by_cases c1 : isT s_semi us = true
 ·rw [if_pos c1] at h
  obtain ⟨rfl, _⟩ := okT_inj h; cases hk
 rw [if_neg c1] at h
 by_cases c2 : isT s_var us = true
 ·rw [if_pos c2] at h
  obtain ⟨x, vs, hx, h⟩ := bindT_ok h
  have := decl_kind hx; have := hend h; subst this; omega
 rw [if_neg c2] at h
 by_cases c3 : isT s_let us = true
 ·rw [if_pos c3] at h
  obtain ⟨x, vs, hx, h⟩ := bindT_ok h
  have := decl_kind hx; have := hend h; subst this; omega
 rw [if_neg c3] at h
 by_cases c4 : isT s_const us = true
 ·rw [if_pos c4] at h
  obtain ⟨x, vs, hx, h⟩ := bindT_ok h
  have := decl_kind hx; have := hend h; subst this; omega
 rw [if_neg c4] at h
 by_cases c5 : isT s_function us = true
 ·rw [if_pos c5] at h
  obtain ⟨_, h⟩ := nameT_ok h
  have := func_kind h; omega
 rw [if_neg c5] at h
 by_cases c6 : isT s_if us = true
 ·rw [if_pos c6] at h
  obtain ⟨x, vs, hx, h⟩ := bindT_ok h
  obtain ⟨y, vs, hx, h⟩ := bindT_ok h
  split at h
  ·obtain ⟨z, vs, hx, h⟩ := bindT_ok h
   obtain ⟨rfl, _⟩ := okT_inj h; cases hk
  ·obtain ⟨rfl, _⟩ := okT_inj h; cases hk
 rw [if_neg c6] at h
 by_cases c7 : isT s_while us = true
 ·rw [if_pos c7] at h
  obtain ⟨x, vs, hx, h⟩ := bindT_ok h
  obtain ⟨y, vs, hx, h⟩ := bindT_ok h
  obtain ⟨rfl, _⟩ := okT_inj h; cases hk
 rw [if_neg c7] at h
 by_cases c8 : isT s_with us = true
 ·rw [if_pos c8] at h
  obtain ⟨x, vs, hx, h⟩ := bindT_ok h
  obtain ⟨y, vs, hx, h⟩ := bindT_ok h
  obtain ⟨rfl, _⟩ := okT_inj h; cases hk
 rw [if_neg c8] at h
 by_cases c9 : isT s_return us = true
 ·rw [if_pos c9] at h
  split at h
  ·have := hend h; subst this; cases hk
  ·obtain ⟨x, vs, hx, h⟩ := bindT_ok h
   have := hend h; subst this; cases hk
 rw [if_neg c9] at h
 by_cases c10 : isT s_throw us = true
 ·rw [if_pos c10] at h
  obtain ⟨x, vs, hx, h⟩ := bindT_ok h
  have := hend h; subst this; cases hk
 rw [if_neg c10] at h
 by_cases c11 : isT s_try us = true
 ·rw [if_pos c11] at h
  have := try_kind h; omega
 rw [if_neg c11] at h
 obtain ⟨x, vs, hx, h⟩ := bindT_ok h
 have := hend h; subst this
 simp [Tree.kids]
end Go.Proofs.YtilchadbjflpgaaGreatDoor
