/- Package tree: Walk with alpha.isBody$1. Map literals with texts for keys and numbers for elements. Package hoist: lists of texts, once each. Package tree: what the reader throws; want, name, node, within. Package tree: value, end, around, block. Package tree: the kinds of what is read. -/
import Derived.Test.YtgmnfgljkocnpaaGreatDoorJ01
import Derived.Test.YtgmnfgljkocnpaaGreatDoorJ09
import Derived.Test.YtgmnfgljkocnpaaGreatDoorJ04
import Derived.WalkKit
import Derived.Maps.Own
import Derived.Maps.OwnOps
import Derived.Maps.RangeWalk
import Derived.Lib.Hide
namespace Go.Proofs.YtgmnfgljkocnpaaGreatDoor
open Go Go.RowKit
set_option maxRecDepth 100000
set_option maxHeartbeats 20000000
set_option linter.unusedVariables false
theorem Ziq (p0 p1 : Addr) {σ : Type} (Inv : σ → World → Prop) (g : σ → ATree → Bool × σ) (B : Nat) : ∀ (m : Nat) (a : ATree), a.many ≤ m → (∀ s w, Inv s w → TreeAt w B a) →
 ∀ s, (∀ x s', Reach g a s x s' → ∀ w, Inv s' w → Calls Tryz.prog 38 #[x.ptr, .pointer (some p0), .pointer (some p1)] w fun e w' => e = .returned (.bool (g s' x).1) ∧ Inv (g s' x).2 w') →
 ∀ w, Inv s w → Calls Tryz.prog 31 #[a.ptr, .func (.func 38) #[] #[.pointer (some p0), .pointer (some p1)]] w fun e w' => e = .returned (.tuple #[]) ∧ Inv (Z2p g a s) w' := by
 intro m;induction m with
 | zero => intro a h; exfalso; cases a; simp [ATree.many] at h
 | succ m ih =>
   intro a hm hT s hg w hI;have IH := lh ih;have HT := lh hT;have HG := lh hg;have HM := lh hm;have HC := hg a s (.self a s) w hI;rw [Z64];unfold ATree.ptr at HC ⊢;have hkid : ∀ (i : Nat) (k x : ATree) (s' : σ), (g s a).1 = true → a.kids[i]? = some k → Reach g k (Z14 g (a.kids.take i) (g s a).2) x s' → Reach g a s x s' := fun i k x s' h1 h2 h3 => .kid h1 h2 h3;obtain ⟨ok, s1, hgs⟩ : ∃ ok s1, g s a = (ok, s1) := ⟨_, _, rfl⟩
   rw [hgs] at HC hkid ⊢;have HKID := lh hkid;clear hkid;have HC := lh HC;clear ih hT hg hm hI hgs;cases ok
   ·go_enter Tryz.func31, Tryz.ntmps31
    go_wp2_with fail
    refine HC.out.mono ?_;rintro e w1 ⟨rfl, hI1⟩;have HI1 := lh hI1;clear hI1 HC;go_wp2;refine bodyPost_ret (results_none rfl _ _ _) rfl ?_;exact ⟨rfl, HI1.out⟩
   ·simp only [if_true];go_enter Tryz.func31, Tryz.ntmps31
    go_wp2_with fail
    refine HC.out.mono ?_;rintro e w1 ⟨rfl, hI1⟩;have hT1 := HT.out _ _ hI1;have hblk := hT1.blkOf;have hrow := hT1.rowOf;obtain ⟨p, cp, hv⟩ : ∃ p cp, a.v = .slice p a.kids.length cp := by
     rcases Zc hrow with ⟨h1, h2⟩ | ⟨g0, cap0, h1, _⟩;·exact ⟨none, 0, by rw [h1, h2]⟩
     ·exact ⟨_, _, h1⟩
    rw [hv] at hblk;have c3 : w1.cell? ⟨a.b, 3, none⟩ = some (.slice p a.kids.length cp) := by simp [World.cell?, hblk]
    have hlen : a.kids.length ≤ 9223372036854775807 := by
     rcases Zc hrow with ⟨h1, h2⟩ | ⟨g0, cap0, h1, k1, k2, k3⟩;·omega
     ·unfold maxLen at k2; omega
    have HI1 := lh hI1;have HV := lh hv;obtain ⟨n, hn⟩ : ∃ n, n = a.kids.length := ⟨_, rfl⟩
    rw [← hn] at c3 hlen;have HN := lh hn;clear hI1 hT1 hblk hrow hv hn HC;go_wp2_with fail
    go_loopw [19] (fun i wr => ∃ k : Nat, k ≤ n ∧ i = .int .i64 k ∧ Hid (Inv (Z14 g (a.kids.take k) s1) wr)) (fun i _ => n - (intOf i).toNat)
    case atStart => exact ⟨0, Nat.zero_le _, rfl, lh (by simpa [Z14] using HI1.out)⟩
    case round =>
     obtain ⟨k, hk, rfl, HI⟩ := hrel;by_cases hkn : k < n
     ·obtain ⟨x, hx⟩ : ∃ x, a.kids[k]? = some x := ⟨_, List.getElem?_eq_getElem (by rw [← HN.out]; exact hkn)⟩
      have hT2 := HT.out _ _ HI.out;have hrow := hT2.rowOf;rcases Zc hrow with ⟨_, h2⟩ | ⟨g0, cap0, hv0, k1, k2, k3⟩;·rw [← HN.out] at h2; omega
      have hp : p = some ⟨g0, 0, none⟩ := by
       have := HV.out.symm.trans hv0;simp only [Value.slice.injEq] at this;exact this.1
      subst hp;have cx := Zo hrow (g := g0) (by rw [hv0]; rfl) (i := k) (x := x.ptr) (by rw [List.getElem?_map, hx]; rfl);unfold ATree.ptr at cx;have hmem : x ∈ a.kids := List.mem_of_getElem? hx;have hcall := IH.out x (by have := Z3n hmem; have := HM.out; omega) (fun s w h => (HT.out s w h).kid hmem) _ (fun y s' hy => HG.out y s' (HKID.out k x y s' (by first | rfl | trivial) hx hy)) _ HI.out;unfold ATree.ptr at hcall;have HCALL := lh hcall;have HX := lh hx;have hge : n ≤ cp := by
       have := HV.out.symm.trans hv0;simp only [Value.slice.injEq] at this;rw [HN.out, this.2.2]; exact k1
      clear hx hT2 hrow hv0 k1 k2 k3 hmem hcall;go_wp2_with fail
      refine HCALL.out.mono ?_;rintro e w2 ⟨rfl, hI2⟩;have HI2 := lh hI2;clear hI2 HCALL;go_wp2;go_roundw
      case rel => exact ⟨k + 1, by omega, by go_num, lh (by rw [Z0c HX.out, Z4d]; exact HI2.out)⟩
      case measure => simp [intOf]; omega
     ·have hk2 : k = n := by omega
      subst hk2;go_wp2;go_end0
      refine ⟨rfl, ?_⟩;have := HI.out;rwa [List.take_of_length_le (by rw [← HN.out]; exact Nat.le_refl _)] at this
end Go.Proofs.YtgmnfgljkocnpaaGreatDoor
namespace Go.Proofs.YtgmnfgljkocnpaaGreatDoor
open Go Go.RowKit Go.Maps
set_option maxRecDepth 100000
set_option maxHeartbeats 20000000
theorem Z3 {H : Type} {P : Program} (w : World) {ops : Array Oper} {rest : List Oper} {o : Oper} {a : Act} {Q : Exit → Act → World → Prop}
 (hg : o.guard = none) (m x v : Operand) (t : TypeId) (hop : o.op = Op.insert t m x v)
 (k e : TypeId) (K : Keyed P k) (ht : P.underlying t = some (.map k e)) (R : Value → Option (DataW H × List MemPlace)) (b n : Nat) (D : DataW H)
 (hm : a.eval m = .map (some b)) (hown : w.ownsMap P k R b n D) (hn : n < maxLen) (key val : Value) (kl : Lit) (hx : a.eval x = key) (hv : a.eval v = val) (hkey : keyOf P k key = some kl)
 (d : DataW H) (ps : List MemPlace) (hval : R val = some (d, ps))
 (hK : ∀ w', w'.ownsMap P k R b (n + 1) (D.put kl d) → w.grownBy w' (some b) → wpList P ops Q rest (a.put o.dst undef) w') :
 wpList P ops Q (o :: rest) a w := by
 refine wpList_plain hg fun K' hK' => ?_;obtain ⟨w', hrun, r1, r2⟩ := hown.update K ht hn hkey hval;unfold Oper.wp;simp [execOp, hop, hm, hx, hv, hrun, Result.andThen];exact hK' _ _ (hK w' r1 r2)
theorem Tryz.keyedS : Keyed Tryz.prog 9 := string_keyed Tryz.underlying9
theorem Tryz.zeroI (w : World) : (zeroValue 3).run Tryz.prog w = .ok (.int .i64 0) w := by kernel_rfl
theorem Ze {B : Nat} {w w1 w2 : World} {b : Nat} (h : Below B w w1) (hg : w1.grownBy w2 (some b)) (hb : B ≤ b) (hs : B ≤ w1.heap.size) : Below B w w2 :=
 h.grown hg hs fun j hj => by cases hj; exact hb
def litD (l : List (ByteArray × Int)) : DataW Unit := l.foldl (fun D x => D.put (.string x.1.data.toList) (.lit (.int .i64 x.2))) (.map [])
def Zi1 : List (ByteArray × Int) := [(s_or, 25), (Z66, 26), (Z41, 27), (Z43, 28), (Z4o, 29), (Z56, 30), (Z67, 31)]
end Go.Proofs.YtgmnfgljkocnpaaGreatDoor
namespace Go.Proofs.YtgmnfgljkocnpaaGreatDoor
open Go Go.RowKit
set_option maxRecDepth 100000
set_option maxHeartbeats 20000000
set_option linter.unusedVariables false
def Zy (w : World) (B : Nat) (v : Value) (l : List ByteArray) : Prop := w.ownsRow B 9 1 v l.length (l.map Value.string)
def addL (l : List ByteArray) (s : ByteArray) : List ByteArray := if Lib.containsS l s then l else l ++ [s]
theorem Z83 (l : List ByteArray) (s : ByteArray) : (addL l s).length ≤ l.length + 1 := by
 unfold addL;split <;> simp
theorem Zy.nil (w : World) (B : Nat) : Zy w B (.slice none 0 0) [] := World.ownsRow_nil w B _ _
theorem Zy.cells {w : World} {B : Nat} {v : Value} {l : List ByteArray} (h : Zy w B v l) {b : Nat} (hb : v.ownBlock = some b) {j : Nat} {s : ByteArray} (hs : l[j]? = some s) : w.cell? ⟨b, j, none⟩ = some (.string s) :=
 Zo h hb (by rw [List.getElem?_map, hs]; rfl)
theorem Zy.bel {w w' : World} {B : Nat} {v : Value} {l : List ByteArray} (h : Zy w B v l) (g : Below w.heap.size w w') : Zy w' B v l :=
 Zl h fun k hk => g.block k (World.ownsRow.lt h k hk).2
theorem Zy.form {w : World} {B : Nat} {v : Value} {l : List ByteArray} (h : Zy w B v l) : (v = .slice none 0 0 ∧ l = []) ∨ ∃ g cap, v = .slice (some ⟨g, 0, none⟩) l.length cap ∧ l.length ≤ cap ∧ cap ≤ maxLen := by
 rcases Zc h with ⟨h1, h2⟩ | ⟨g, cap, h1, h2, h3, _⟩;·exact .inl ⟨h1, List.eq_nil_of_length_eq_zero h2⟩
 ·exact .inr ⟨g, cap, h1, h2, h3⟩
theorem Tryz.infoStr : (Tryz.prog.info? 9).map (fun i => (i.zero, i.size, i.bytes)) = some (some (.string ByteArray.empty), 1, 16) := by kernel_rfl
theorem Zfp (w : World) (s : ByteArray) :
 Calls Tryz.prog 34 #[.slice none 0 0, .string s] w fun e w' => e = .returned (.int .i64 (-1)) ∧ w' = w := by
 go_enter Tryz.func34, Tryz.ntmps34
 go_wp2_with fail
 go_loopw [8] (fun i wr => wr = w ∧ i = .int .i64 0) (fun i _ => 0)
 case atStart => exact ⟨rfl, rfl⟩
 case round =>
  obtain ⟨rfl, rfl⟩ := hrel;go_wp2;go_ret;exact ⟨rfl, rfl⟩
theorem Zau (w : World) (s : ByteArray) :
 Calls Tryz.prog 14 #[.slice none 0 0, .string s] w fun e w' => e = .returned (.bool false) ∧ w' = w := by
 have HC := lh (Zfp w s);go_enter Tryz.func14, Tryz.ntmps14
 go_wp2_with fail
 refine HC.out.mono ?_;rintro e w1 ⟨rfl, rfl⟩;go_wp2;go_ret;exact ⟨rfl, rfl⟩
theorem Z3p {w : World} {B : Nat} {v : Value} {l : List ByteArray} (h : Zy w B v l) (s : ByteArray) :
 Calls Tryz.prog 14 #[v, .string s] w fun e w' => e = .returned (.bool (Lib.containsS l s)) ∧ w' = w := by
 rcases h.form with ⟨rfl, rfl⟩ | ⟨g, cap, rfl, hle, hm⟩;·exact Zau w s
 ·have HC := Tryz.slices_Contains_string g 0 l.length cap l s w (Nat.le_refl _) (by unfold maxLen at hm; omega) (fun j hj => by
   rw [Nat.zero_add];exact h.cells rfl (by rw [List.getD_eq_getElem?_getD, List.getElem?_eq_getElem hj]; rfl))
  rwa [List.take_length] at HC
theorem Z92 (w : World) (B : Nat) (v : Value) (l : List ByteArray) (s : ByteArray) (h : Zy w B v l) (hB : B ≤ w.heap.size) (hn : l.length < 1099511627776) :
 Calls Tryz.prog 37 #[v, .string s] w fun e w' => ∃ v', e = .returned v' ∧ Zy w' B v' (addL l s) ∧ Below B w w' ∧ ∀ k, k < w.heap.size → v.ownBlock ≠ some k → w'.heap[k]? = w.heap[k]? := by
 obtain ⟨i0, hi, hz0, hz1, hz2⟩ := info_parts Tryz.infoStr;have HC := Z3p h s;unfold addL;obtain ⟨c, hc⟩ : ∃ c, c = Lib.containsS l s := ⟨_, rfl⟩
 rw [← hc] at HC ⊢;have HC := lh HC;clear hc;cases c
 ·unfold Zy at h ⊢;have HO := lh h;obtain ⟨n, hnn⟩ : ∃ n, n = l.length := ⟨_, rfl⟩
  rw [← hnn] at HO hn;have HNN := lh hnn;clear h hnn;go_enter Tryz.func37, Tryz.ntmps37
  go_wp2_with fail
  refine HC.out.mono ?_;rintro e w1 ⟨rfl, rfl⟩
  go_wp2_with (at_builtin; go_must (refine wpList_append_lies _ rfl (.tmp 9) (.tmp 11) 25 rfl B 9 i0 (.string ByteArray.empty) 1 16 Tryz.underlying25 hi hz0 hz1 hz2 rfl (by decide) v n (l.map Value.string) rfl (HO.out.alloc _) ⟨w1.heap.size, 0, none⟩ 1 1 [.string s] rfl rfl (fun j u hu => cell_one_new w1 _ _ j u hu) (by intro u hu; simp at hu; subst hu; rfl) (by first | omega | (simp; omega)) (by unfold maxLen; omega) (by first | omega | (simp; omega)) (by first | omega | (simp; omega)) (w1.heap.size + 1) (by simp) ?_); intro g cap w2 hown2 hgrow2 hat2 hgl2; have HG := lh hgrow2; have HW := lh hown2; have HT := lh hat2; clear hgrow2 hown2 hat2 hgl2)
  go_ret;refine ⟨_, rfl, ?_, ?_, ?_⟩
  ·simp only [← HNN.out];exact HW.out
  ·exact ((Below.refl _ _).alloc hB _).grown HG.out (by simp; omega) fun j hj => (World.ownsRow.lt HO.out j hj).1
  ·exact fun k hk hv => (HG.out.block k (by simp; omega) (fun e => hv e.symm)).trans (Below.heap_alloc _ _ _ hk)
 ·have HO := lh h;clear h;go_enter Tryz.func37, Tryz.ntmps37
  go_wp2_with fail
  refine HC.out.mono ?_;rintro e w1 ⟨rfl, rfl⟩;go_wp2;go_ret;exact ⟨_, rfl, HO.out, Below.refl _ _, fun _ _ _ => rfl⟩
theorem Zib (w : World) (B : Nat) (v : Value) (l : List ByteArray) (s : ByteArray) (h : Zy w B v l) (hB : B ≤ w.heap.size) (hn : l.length < 1099511627776) :
 Calls Tryz.prog 37 #[v, .string s] w fun e w' => ∃ v', e = .returned v' ∧ Zy w' B v' (addL l s) ∧ Below B w w' :=
 (Z92 w B v l s h hB hn).mono fun e w' ⟨v', h1, h2, h3, _⟩ => ⟨v', h1, h2, h3⟩
end Go.Proofs.YtgmnfgljkocnpaaGreatDoor
namespace Go.Proofs.YtgmnfgljkocnpaaGreatDoor
open Go Go.RowKit
set_option maxRecDepth 100000
set_option maxHeartbeats 20000000
theorem Z9v {w : World} {base : Nat} {c p : Int} (hb : base ≤ w.heap.size) :
 Z6r (w.alloc (.cells #[.int .i64 c, .int .i64 p] 95)) base (.panicked [{ v := .iface 67 (.agg #[.iface 94 (.pointer (some ⟨w.heap.size, 0, none⟩))]), recovered := false }]) c p :=
 ⟨w.heap.size, rfl, hb, heap_alloc_new w _⟩
theorem Z6r.base {w : World} {b b' : Nat} {e : Ending} {c p : Int} (h : Z6r w b e c p) (hb : b' ≤ b) : Z6r w b' e c p := by
 obtain ⟨x, h1, h2, h3⟩ := h;exact ⟨x, h1, Nat.le_trans hb h2, h3⟩
theorem Z2o (w : World) (rb : Nat) (ts : List Tok) (d : Nat) (c : Int) (hR : Rd w rb ts d) :
 Calls Tryz.prog 83 #[.pointer (some ⟨rb, 0, none⟩), .int .i64 c] w fun e w' => Z6r w' w.heap.size e c (hdT ts).at' ∧ Below w.heap.size w w' := by
 obtain ⟨tb, off, cap, h⟩ := hR;have c0 := h.c0;have t3 := h.hd (j := 3) rfl;have hp := h.pos;have hm := h.most;have hle := h.le;unfold maxLen at hm;obtain ⟨n, hn⟩ : ∃ n, n = ts.length := ⟨_, rfl⟩
 rw [← hn] at c0 hp hle;have hlt := h.lt;have hrt := h.rlt;clear hn h;go_enter Tryz.func83, Tryz.ntmps83
 go_wp2;exact ⟨rfl, Z9v (Nat.le_refl _), (Below.refl _ _).alloc (Nat.le_refl _) _⟩
theorem Z33 (w : World) (rb : Nat) (ts : List Tok) (d : Nat) (s : ByteArray) (hR : Rd w rb ts d) (hs : isT s ts = false) :
 Calls Tryz.prog 101 #[.pointer (some ⟨rb, 0, none⟩), .string s] w fun e w' => Z6r w' w.heap.size e 3 (hdT ts).at' ∧ Below w.heap.size w w' := by
 have HC := lh (Z1m w rb ts d s hR hs);have HR := lh hR;clear hs hR;go_enter Tryz.func101, Tryz.ntmps101
 go_wp2_with fail
 refine HC.out.mono ?_;rintro e w1 ⟨rfl, hB⟩;have HF := lh (Z2o w1 rb ts d 3 (HR.out.below hB));have HB := lh hB;clear hB;go_wp2_with fail
 refine HF.out.mono ?_;rintro e w2 ⟨⟨b, rfl, h1, h2⟩, hB⟩;exact ⟨rfl, ⟨b, rfl, Nat.le_trans HB.out.size h1, h2⟩, HB.out.trans (hB.mono HB.out.size)⟩
theorem Z1t (w : World) (rb : Nat) (ts : List Tok) (d : Nat) (s : ByteArray) (hR : Rd w rb ts d) (hs : isT s ts = true) :
 Calls Tryz.prog 101 #[.pointer (some ⟨rb, 0, none⟩), .string s] w fun e w' => e = .returned (.tuple #[]) ∧ Rd w' rb ts.tail d ∧ RFr w w' rb := by
 have HC := lh (Z0r w rb ts d s hR hs);clear hs hR;go_enter Tryz.func101, Tryz.ntmps101
 go_wp2_with fail
 refine HC.out.mono ?_;rintro e w1 ⟨rfl, hR, hF⟩;have HR := lh hR;have HF := lh hF;clear hR hF;go_wp2;go_end0
 exact ⟨rfl, HR.out, HF.out⟩
theorem Z5n (w : World) (rb : Nat) (ts : List Tok) (d : Nat) (hR : Rd w rb ts d) (hk : (hdT ts).kind ≠ 1) :
 Calls Tryz.prog 89 #[.pointer (some ⟨rb, 0, none⟩)] w fun e w' => Z6r w' w.heap.size e 3 (hdT ts).at' ∧ Below w.heap.size w w' := by
 have HR := lh hR;obtain ⟨tb, off, cap, h⟩ := hR;have c0 := h.c0;have t0 := h.hd (j := 0) rfl;have t1 := h.hd (j := 1) rfl;have t2 := h.hd (j := 2) rfl;have t3 := h.hd (j := 3) rfl;have hp := h.pos;have hm := h.most;have hle := h.le;unfold maxLen at hm;obtain ⟨n, hn⟩ : ∃ n, n = ts.length := ⟨_, rfl⟩
 rw [← hn] at c0 hp hle;have hlt := h.lt;have hrt := h.rlt;have hk1 : ((hdT ts).kind == 1) = false := by simpa using hk
 have hal : Below w.heap.size w (w.alloc (.cells #[.int .i64 (hdT ts).kind, .string (hdT ts).text, .int .i64 (hdT ts).n, .int .i64 (hdT ts).at'] 93)) := (Below.refl _ _).alloc (Nat.le_refl _) _;have HF := lh (Z2o _ rb ts d 3 (HR.out.below hal));have HAL := lh hal;simp only [Nat.add_zero] at t0;clear hn h hk hal;go_enter Tryz.func89, Tryz.ntmps89
 go_wp2_with fail
 refine HF.out.mono ?_;rintro e w2 ⟨⟨b, rfl, h1, h2⟩, hB⟩;exact ⟨rfl, ⟨b, rfl, Nat.le_trans HAL.out.size h1, h2⟩, HAL.out.trans (hB.mono HAL.out.size)⟩
theorem Z3s (w : World) (rb : Nat) (ts : List Tok) (d : Nat) (hR : Rd w rb ts d) (hk : (hdT ts).kind = 1) :
 Calls Tryz.prog 89 #[.pointer (some ⟨rb, 0, none⟩)] w fun e w' => e = .returned (.string (hdT ts).text) ∧ Rd w' rb ts.tail d ∧ RFr w w' rb := by
 obtain ⟨tb, off, cap, h⟩ := hR;have c0 := h.c0;have t0 := h.hd (j := 0) rfl;have t1 := h.hd (j := 1) rfl;have t2 := h.hd (j := 2) rfl;have t3 := h.hd (j := 3) rfl;have h2 := h.two (by omega);have hm := h.most;have hle := h.le;have z0 := h.fz 0;unfold maxLen at hm;have H := lh (h.tail (by omega));obtain ⟨n, hn⟩ : ∃ n, n = ts.length := ⟨_, rfl⟩
 rw [← hn] at c0 h2 hle;have HN := lh hn;have hlt := h.lt;have hrt := h.rlt;have HK := lh hk;simp only [Nat.add_zero, hk] at t0;clear hn h hk;go_enter Tryz.func89, Tryz.ntmps89
 go_wp2;go_ret;have h4 := H.out;rw [← HN.out] at h4;have hb : ∀ o, Below (w.setCell ⟨rb, 0, none⟩ (.slice (some ⟨tb, off + 4, none⟩) (n - 1) (cap - 1))).heap.size (w.setCell ⟨rb, 0, none⟩ (.slice (some ⟨tb, off + 4, none⟩) (n - 1) (cap - 1))) ((w.setCell ⟨rb, 0, none⟩ (.slice (some ⟨tb, off + 4, none⟩) (n - 1) (cap - 1))).alloc o) := fun o => (Below.refl _ _).alloc (Nat.le_refl _) o;exact ⟨rfl, ⟨tb, off + 4, cap - 1, h4.below (hb _)⟩, ((RFr.refl w rb).set _ _).trans (RFr.below (hb _))⟩
theorem Z0g (w : World) (rb : Nat) (kind : Int) (text : ByteArray) (p : Option Addr) (m c : Nat) :
 Calls Tryz.prog 66 #[.pointer (some ⟨rb, 0, none⟩), .int .i64 kind, .string text, .slice p m c] w fun e w' => e = .returned (.pointer (some ⟨w.heap.size, 0, none⟩)) ∧ w' = w.alloc (.cells #[.int .i64 kind, .string text, .int .i64 0, .slice p m c] 44) := by
 go_enter Tryz.func66, Tryz.ntmps66
 go_wp2;go_ret;exact ⟨rfl, rfl⟩
theorem Z09 (w : World) (rb B : Nat) (ts : List Tok) (d : Nat) (p : PR) (r : Except (Int × Nat) (Tree × List Tok)) (hR : Rd w rb ts d) (hd : d < 1000) (hB : rb < B) (hr : Z0q d ts p = some r)
 (HC : d + 1 ≤ 30 → p = some r → ∀ w1, Rd w1 rb ts (d + 1) → w1.heap.size = w.heap.size → Calls Tryz.prog 69 #[.pointer (some ⟨rb, 0, none⟩)] w1 (Z07 w1 rb B (d + 1) r)) :
 Calls Tryz.prog 68 #[.pointer (some ⟨rb, 0, none⟩), .func (.func 69) #[.pointer (some ⟨rb, 0, none⟩)] #[]] w (Z07 w rb B d r) := by
 obtain ⟨tb, off, cap, h⟩ := hR;have c1 := h.c1;have z1 := h.fz 1;have hrt := h.rlt;have hS : Rd (w.setCell ⟨rb, 1, none⟩ (.int .i64 ((d : Int) + 1))) rb ts (d + 1) := ⟨tb, off, cap, h.deep (by omega)⟩
 have HS := lh hS;have HH := lh h;have HC := lh HC;clear h hS;unfold Z0q at hr;by_cases hd30 : 30 < d + 1
 ·rw [if_pos hd30] at hr;obtain rfl := Option.some.inj hr;have hd' : decide ((d : Int) + 1 > 30) = true := by simp; omega
  have HF := lh (Z2o _ rb ts (d + 1) 4 HS.out);clear hr;go_enter Tryz.func68, Tryz.ntmps68
  go_wp2_with fail
  refine HF.out.mono ?_;rintro e w2 ⟨⟨b, rfl, h1, h2⟩, hB⟩;rw [World.size_setCell] at h1;refine ⟨rfl, ⟨b, rfl, h1, h2⟩, ?_⟩;exact ((RFr.refl w rb).set 1 _).trans (RFr.below hB)
 ·rw [if_neg hd30] at hr;have hsz : (w.setCell ⟨rb, 1, none⟩ (.int .i64 ((d : Int) + 1))).heap.size = w.heap.size := World.size_setCell ..;have HX := lh (HC.out (by omega) hr _ HS.out hsz);have HSZ := lh hsz;clear hsz hr;go_enter Tryz.func68, Tryz.ntmps68
  go_wp2_with fail
  refine HX.out.mono ?_;rcases r with ⟨c, p⟩ | ⟨t, ts'⟩
  ·rintro e w2 ⟨⟨b, rfl, h1, h2⟩, hF⟩;rw [HSZ.out] at h1;exact ⟨rfl, ⟨b, rfl, h1, h2⟩, ((RFr.refl w rb).set 1 _).trans hF⟩
  ·rintro e w2 ⟨a, rfl, hG, ⟨tb2, off2, cap2, h2⟩, hF⟩;have k1 := h2.c1;have kz := h2.fz 1;have H2 := lh h2;have HG := lh hG;have HF := lh hF;clear hG h2 hF;go_wp2;go_ret;exact ⟨a, rfl, (HG.out.rfr hB ((RFr.refl w2 rb).set _ _)).pre ((RFr.refl w rb).set 1 _), ⟨tb2, off2, cap2, H2.out.deep (by omega)⟩, (((RFr.refl w rb).set 1 _).trans HF.out).set 1 _⟩
theorem Za8 (w : World) (rb B : Nat) (ts : List Tok) (d : Nat) (p : PR) (r : Except (Int × Nat) (Tree × List Tok)) (hR : Rd w rb ts d) (hd : d < 1000) (hB : rb < B) (hr : Z0q d ts p = some r)
 (HC : d + 1 ≤ 30 → p = some r → ∀ w1, Rd w1 rb ts (d + 1) → w1.heap.size = w.heap.size → Calls Tryz.prog 102 #[.pointer (some ⟨rb, 0, none⟩)] w1 (Z07 w1 rb B (d + 1) r)) :
 Calls Tryz.prog 68 #[.pointer (some ⟨rb, 0, none⟩), .func (.func 102) #[.pointer (some ⟨rb, 0, none⟩)] #[]] w (Z07 w rb B d r) := by
 obtain ⟨tb, off, cap, h⟩ := hR;have c1 := h.c1;have z1 := h.fz 1;have hrt := h.rlt;have hS : Rd (w.setCell ⟨rb, 1, none⟩ (.int .i64 ((d : Int) + 1))) rb ts (d + 1) := ⟨tb, off, cap, h.deep (by omega)⟩
 have HS := lh hS;have HH := lh h;have HC := lh HC;clear h hS;unfold Z0q at hr;by_cases hd30 : 30 < d + 1
 ·rw [if_pos hd30] at hr;obtain rfl := Option.some.inj hr;have hd' : decide ((d : Int) + 1 > 30) = true := by simp; omega
  have HF := lh (Z2o _ rb ts (d + 1) 4 HS.out);clear hr;go_enter Tryz.func68, Tryz.ntmps68
  go_wp2_with fail
  refine HF.out.mono ?_;rintro e w2 ⟨⟨b, rfl, h1, h2⟩, hB⟩;rw [World.size_setCell] at h1;refine ⟨rfl, ⟨b, rfl, h1, h2⟩, ?_⟩;exact ((RFr.refl w rb).set 1 _).trans (RFr.below hB)
 ·rw [if_neg hd30] at hr;have hsz : (w.setCell ⟨rb, 1, none⟩ (.int .i64 ((d : Int) + 1))).heap.size = w.heap.size := World.size_setCell ..;have HX := lh (HC.out (by omega) hr _ HS.out hsz);have HSZ := lh hsz;clear hsz hr;go_enter Tryz.func68, Tryz.ntmps68
  go_wp2_with fail
  refine HX.out.mono ?_;rcases r with ⟨c, p⟩ | ⟨t, ts'⟩
  ·rintro e w2 ⟨⟨b, rfl, h1, h2⟩, hF⟩;rw [HSZ.out] at h1;exact ⟨rfl, ⟨b, rfl, h1, h2⟩, ((RFr.refl w rb).set 1 _).trans hF⟩
  ·rintro e w2 ⟨a, rfl, hG, ⟨tb2, off2, cap2, h2⟩, hF⟩;have k1 := h2.c1;have kz := h2.fz 1;have H2 := lh h2;have HG := lh hG;have HF := lh hF;clear hG h2 hF;go_wp2;go_ret;exact ⟨a, rfl, (HG.out.rfr hB ((RFr.refl w2 rb).set _ _)).pre ((RFr.refl w rb).set 1 _), ⟨tb2, off2, cap2, H2.out.deep (by omega)⟩, (((RFr.refl w rb).set 1 _).trans HF.out).set 1 _⟩
theorem Zb1 (w : World) (rb B : Nat) (ts : List Tok) (d : Nat) (p : PR) (r : Except (Int × Nat) (Tree × List Tok)) (hR : Rd w rb ts d) (hd : d < 1000) (hB : rb < B) (hr : Z0q d ts p = some r)
 (HC : d + 1 ≤ 30 → p = some r → ∀ w1, Rd w1 rb ts (d + 1) → w1.heap.size = w.heap.size → Calls Tryz.prog 115 #[.pointer (some ⟨rb, 0, none⟩)] w1 (Z07 w1 rb B (d + 1) r)) :
 Calls Tryz.prog 68 #[.pointer (some ⟨rb, 0, none⟩), .func (.func 115) #[.pointer (some ⟨rb, 0, none⟩)] #[]] w (Z07 w rb B d r) := by
 obtain ⟨tb, off, cap, h⟩ := hR;have c1 := h.c1;have z1 := h.fz 1;have hrt := h.rlt;have hS : Rd (w.setCell ⟨rb, 1, none⟩ (.int .i64 ((d : Int) + 1))) rb ts (d + 1) := ⟨tb, off, cap, h.deep (by omega)⟩
 have HS := lh hS;have HH := lh h;have HC := lh HC;clear h hS;unfold Z0q at hr;by_cases hd30 : 30 < d + 1
 ·rw [if_pos hd30] at hr;obtain rfl := Option.some.inj hr;have hd' : decide ((d : Int) + 1 > 30) = true := by simp; omega
  have HF := lh (Z2o _ rb ts (d + 1) 4 HS.out);clear hr;go_enter Tryz.func68, Tryz.ntmps68
  go_wp2_with fail
  refine HF.out.mono ?_;rintro e w2 ⟨⟨b, rfl, h1, h2⟩, hB⟩;rw [World.size_setCell] at h1;refine ⟨rfl, ⟨b, rfl, h1, h2⟩, ?_⟩;exact ((RFr.refl w rb).set 1 _).trans (RFr.below hB)
 ·rw [if_neg hd30] at hr;have hsz : (w.setCell ⟨rb, 1, none⟩ (.int .i64 ((d : Int) + 1))).heap.size = w.heap.size := World.size_setCell ..;have HX := lh (HC.out (by omega) hr _ HS.out hsz);have HSZ := lh hsz;clear hsz hr;go_enter Tryz.func68, Tryz.ntmps68
  go_wp2_with fail
  refine HX.out.mono ?_;rcases r with ⟨c, p⟩ | ⟨t, ts'⟩
  ·rintro e w2 ⟨⟨b, rfl, h1, h2⟩, hF⟩;rw [HSZ.out] at h1;exact ⟨rfl, ⟨b, rfl, h1, h2⟩, ((RFr.refl w rb).set 1 _).trans hF⟩
  ·rintro e w2 ⟨a, rfl, hG, ⟨tb2, off2, cap2, h2⟩, hF⟩;have k1 := h2.c1;have kz := h2.fz 1;have H2 := lh h2;have HG := lh hG;have HF := lh hF;clear hG h2 hF;go_wp2;go_ret;exact ⟨a, rfl, (HG.out.rfr hB ((RFr.refl w2 rb).set _ _)).pre ((RFr.refl w rb).set 1 _), ⟨tb2, off2, cap2, H2.out.deep (by omega)⟩, (((RFr.refl w rb).set 1 _).trans HF.out).set 1 _⟩
end Go.Proofs.YtgmnfgljkocnpaaGreatDoor
namespace Go.Proofs.YtgmnfgljkocnpaaGreatDoor
open Go Go.RowKit
set_option maxRecDepth 100000
set_option maxHeartbeats 20000000
set_option linter.unusedVariables false
theorem Z0t {f : Nat} {job : Job} {d : Nat} {ts ts' : List Tok} {t : Tree} (h : Z4 f job d ts = some (.ok (t, ts'))) : ts'.length ≤ ts.length := by
 have := Z1n f job d ts t ts' h;have hl : job.least ≤ 1 := by cases job <;> simp [Job.least]
 omega
theorem Zdc (f : Nat) (hA : Says 102 rArg .assign f) : Says 91 rArg .value (f + 1) := by
 intro w rb B d ts r hP hp;have hw : Z0q d ts (Z4 f .assign (d + 1) ts) = some r := hp;have HC := lh (Za8 w rb B ts d _ r hP.rd (by have := hP.deep; omega) hP.lt hw fun hd h1 w1 hR hs => hA w1 rb B (d + 1) ts r ⟨hR, hd, hP.lt, by have := hP.le; omega, hP.few⟩ h1);have hmf : ∀ (fn : Fn) (first cap : Array Value) (w : World), (Instr.makeFunc fn first cap).run Tryz.prog w = .ok (.func fn first cap) w := fun _ _ _ _ => rfl;clear hP hp hw hA;unfold rArg;go_enter Tryz.func91, Tryz.ntmps91
 go_wp2_with fail
 refine HC.out.mono ?_;rcases r with ⟨c, p⟩ | ⟨t, ts'⟩
 ·rintro e w2 ⟨⟨b, rfl, h1, h2⟩, hF⟩;exact ⟨rfl, ⟨b, rfl, h1, h2⟩, hF⟩
 ·rintro e w2 ⟨a, rfl, hG, hR, hF⟩;have HG := lh hG;have HR := lh hR;have HF := lh hF;clear hG hR hF HC;go_wp2;go_ret;exact ⟨a, rfl, HG.out, HR.out, HF.out⟩
theorem Zbw (f : Nat) (hV : Says 91 rArg .value f) : Says 90 rArg .around (f + 1) := by
 intro w rb B d ts r hP hp;have hw : Z0u Z05 ts (fun ts => Zx (Z4 f .value d ts) fun x ts => Z0u Z06 ts fun ts => okT x ts) = some r := hp;have HP := lh hP;unfold rArg;rcases Z1r hw with ⟨hs, h1⟩ | ⟨hs, rfl⟩
 ·have HC := lh (Z1t w rb ts d Z05 hP.rd hs);have H1 := lh h1;clear hP hp hw hs h1;go_enter Tryz.func90, Tryz.ntmps90
  go_wp2_with fail
  refine HC.out.mono ?_;rintro e w1 ⟨rfl, hR1, hF1⟩;have P1 := lh (HP.out.tail hR1 hF1);have F1 := lh hF1;clear hR1 hF1 HC;rcases Zr H1.out with ⟨⟨c, p⟩, hv, rfl⟩ | ⟨t, ts2, hv, h2⟩
  ·have HV := lh (hV w1 rb B d _ _ P1.out hv);clear hv;go_wp2_with fail
   refine HV.out.mono ?_;rintro e w2 ⟨⟨b, rfl, h1, h2⟩, hF⟩;exact ⟨rfl, Z07.pre F1.out (r := .error (c, p)) ⟨⟨b, rfl, h1, h2⟩, hF⟩⟩
  ·have HV := lh (hV w1 rb B d _ _ P1.out hv);have hl := Z0t hv;have H2 := lh h2;clear hv h2;go_wp2_with fail
   refine HV.out.mono ?_;rintro e w2 ⟨a, rfl, hG, hR2, hF2⟩;have P2 := lh (P1.out.next hR2 hF2 hl);have F2 := lh (F1.out.trans hF2);have G2 := lh (hG.pre F1.out);clear hG hR2 hF2 HV hl;rcases Z1r H2.out with ⟨hs, h3⟩ | ⟨hs, rfl⟩
   ·obtain rfl := Option.some.inj h3;have HC := lh (Z1t w2 rb ts2 d Z06 P2.out.rd hs);clear hs h3;go_wp2_with fail
    refine HC.out.mono ?_;rintro e w3 ⟨rfl, hR3, hF3⟩;have R3 := lh hR3;have F3 := lh hF3;clear hR3 hF3;go_wp2;go_ret;exact ⟨a, rfl, G2.out.rfr HP.out.lt F3.out, R3.out, F2.out.trans F3.out⟩
   ·have HC := lh (Z33 w2 rb ts2 d Z06 P2.out.rd hs);clear hs;go_wp2_with fail
    refine HC.out.mono ?_;rintro e w3 ⟨⟨b, rfl, h1, h2⟩, hB⟩;exact ⟨rfl, Z07.err F2.out ⟨b, rfl, h1, h2⟩ hB⟩
 ·have HC := lh (Z33 w rb ts d Z05 hP.rd hs);clear hP hp hw hs;go_enter Tryz.func90, Tryz.ntmps90
  go_wp2_with fail
  refine HC.out.mono ?_;rintro e w3 ⟨⟨b, rfl, h1, h2⟩, hB⟩;exact ⟨rfl, Z07.err (RFr.refl _ _) ⟨b, rfl, h1, h2⟩ hB⟩
end Go.Proofs.YtgmnfgljkocnpaaGreatDoor
namespace Go.Proofs.YtgmnfgljkocnpaaGreatDoor
open Go Go.RowKit
set_option maxRecDepth 100000
set_option maxHeartbeats 20000000
theorem Z35 {t t' : Tree} {ts ts' : List Tok} (h : okT t ts = some (.ok (t', ts'))) : t = t' ∧ ts = ts' := by simpa [okT] using h
theorem Z15 {p : PR} {k : Tree → List Tok → PR} {t : Tree} {ts : List Tok} (h : Zx p k = some (.ok (t, ts))) : ∃ x us, p = some (.ok (x, us)) ∧ k x us = some (.ok (t, ts)) := by
 rcases Zr h with ⟨e, _, he⟩ | h;·cases he
 ·exact h
theorem Z5e {s : ByteArray} {us : List Tok} {k : List Tok → PR} {t : Tree} {ts : List Tok} (h : Z0u s us k = some (.ok (t, ts))) : isT s us = true ∧ k us.tail = some (.ok (t, ts)) := by
 rcases Z1r h with h | ⟨_, h⟩;·exact h
 ·cases h
theorem Zac {us : List Tok} {k : ByteArray → List Tok → PR} {t : Tree} {ts : List Tok} (h : Z3b us k = some (.ok (t, ts))) : (hdT us).kind = 1 ∧ k (hdT us).text us.tail = some (.ok (t, ts)) := by
 rcases Z3i h with h | ⟨_, h⟩;·exact h
 ·cases h
theorem Z8t {f d : Nat} {k : Int} {m : Bool} {us ts : List Tok} {t : Tree} (h : Z4 f (.decl k m) d us = some (.ok (t, ts))) : t.kind = k := by
 cases f with
 | zero => cases h
 | succ f =>
   obtain ⟨_, h⟩ := Zac h;split at h;·cases h
   ·split at h
    ·obtain ⟨x, vs, _, h⟩ := Z15 h;obtain ⟨rfl, _⟩ := Z35 h; rfl
    ·obtain ⟨rfl, _⟩ := Z35 h; rfl
theorem Zgg {f d : Nat} {k : Int} {s : ByteArray} {us ts : List Tok} {t : Tree} (h : Z4 f (.func k s) d us = some (.ok (t, ts))) : t.kind = k := by
 cases f with
 | zero => cases h
 | succ f =>
   obtain ⟨_, h⟩ := Z5e h;obtain ⟨x, vs, _, h⟩ := Z15 h;obtain ⟨_, h⟩ := Z5e h;obtain ⟨x, vs, _, h⟩ := Z15 h;obtain ⟨rfl, _⟩ := Z35 h; rfl
theorem Ze3 : ∀ {f d : Nat} {k : Int} {acc : List Tree} {us ts : List Tok} {t : Tree}, Z4 f (.stmts k acc) d us = some (.ok (t, ts)) → t.kind = k := by
 intro f;induction f with
 | zero => intro d k acc us ts t h; cases h
 | succ f ih =>
   intro d k acc us ts t h;rw [Z4] at h;generalize (if k = 1 then decide ((hdT us).kind = 6) else isT Zm us) = c at h;cases c
   ·obtain ⟨x, vs, _, h⟩ := Z15 h;exact ih h
   ·obtain ⟨rfl, _⟩ := Z35 h; rfl
theorem Ze9 {f d : Nat} {b : Bool} {us ts : List Tok} {t : Tree} (h : Z4 f (.block b) d us = some (.ok (t, ts))) : t.kind = 6 := by
 cases f with
 | zero => cases h
 | succ f =>
   obtain ⟨_, h⟩ := Z5e h;obtain ⟨x, vs, hx, h⟩ := Z15 h;obtain ⟨_, h⟩ := Z5e h;obtain ⟨h1, _⟩ := Z35 h;cases b;·simp at h1; rw [← h1]; rfl
   ·simp at h1; rw [← h1]; exact Ze3 hx
theorem Zhs {f d : Nat} {us ts : List Tok} {t : Tree} (h : Z4 f .try_ d us = some (.ok (t, ts))) : t.kind = 12 := by
 cases f with
 | zero => cases h
 | succ f =>
   have key : ∀ (l : List Tree) (us : List Tok), (if isT Zz us = true then Zx (Z4 f (.block false) d us.tail) fun c ts => okT (.mk 12 ByteArray.empty 0 (l ++ [.mk 14 ByteArray.empty 0 [c]])) ts else if l.length = 1 then Z2m 3 us else okT (.mk 12 ByteArray.empty 0 l) us) = some (.ok (t, ts)) → t.kind = 12 := by
    intro l us h;by_cases c : isT Zz us = true
    ·rw [if_pos c] at h;obtain ⟨x, vs, hx, h⟩ := Z15 h;obtain ⟨rfl, _⟩ := Z35 h; rfl
    ·rw [if_neg c] at h;by_cases c2 : l.length = 1;·rw [if_pos c2] at h; cases h
     ·rw [if_neg c2] at h; obtain ⟨rfl, _⟩ := Z35 h; rfl
   rw [Z4] at h;obtain ⟨x, vs, hx, h⟩ := Z15 h;dsimp only at h
   by_cases c : isT Z23 vs = true
   ·rw [if_pos c] at h;obtain ⟨_, h⟩ := Z5e h;obtain ⟨_, h⟩ := Zac h;obtain ⟨_, h⟩ := Z5e h;obtain ⟨x, vs, hx, h⟩ := Z15 h;exact key _ _ h
   ·rw [if_neg c] at h;exact key _ _ h
theorem Zap {f d : Nat} {us ts : List Tok} {t : Tree} (h : Z4 (f + 1) .stmt d us = some (.ok (t, ts))) (hk : t.kind = 15) : t.kids ≠ [] := by
 have hend : ∀ {n : Tree} {vs : List Tok}, endT n vs = some (.ok (t, ts)) → n = t := fun h => (Z35 (Z5e h).2).1;rw [Z4] at h;by_cases c0 : isT Zb us = true
 ·rw [if_pos c0] at h;have := Ze9 h; omega
 rw [if_neg c0] at h;by_cases c1 : isT Zh us = true
 ·rw [if_pos c1] at h;obtain ⟨rfl, _⟩ := Z35 h; cases hk
 rw [if_neg c1] at h;by_cases c2 : isT Z19 us = true
 ·rw [if_pos c2] at h;obtain ⟨x, vs, hx, h⟩ := Z15 h;have := Z8t hx; have := hend h; subst this; omega
 rw [if_neg c2] at h;by_cases c3 : isT Z1f us = true
 ·rw [if_pos c3] at h;obtain ⟨x, vs, hx, h⟩ := Z15 h;have := Z8t hx; have := hend h; subst this; omega
 rw [if_neg c3] at h;by_cases c4 : isT Z02 us = true
 ·rw [if_pos c4] at h;obtain ⟨x, vs, hx, h⟩ := Z15 h;have := Z8t hx; have := hend h; subst this; omega
 rw [if_neg c4] at h;by_cases c5 : isT Z8 us = true
 ·rw [if_pos c5] at h;obtain ⟨_, h⟩ := Zac h;have := Zgg h; omega
 rw [if_neg c5] at h;by_cases c6 : isT s_if us = true
 ·rw [if_pos c6] at h;obtain ⟨x, vs, hx, h⟩ := Z15 h;obtain ⟨y, vs, hx, h⟩ := Z15 h;split at h
  ·obtain ⟨z, vs, hx, h⟩ := Z15 h;obtain ⟨rfl, _⟩ := Z35 h; cases hk
  ·obtain ⟨rfl, _⟩ := Z35 h; cases hk
 rw [if_neg c6] at h;by_cases c7 : isT Zp us = true
 ·rw [if_pos c7] at h;obtain ⟨x, vs, hx, h⟩ := Z15 h;obtain ⟨y, vs, hx, h⟩ := Z15 h;obtain ⟨rfl, _⟩ := Z35 h; cases hk
 rw [if_neg c7] at h;by_cases c8 : isT Z01 us = true
 ·rw [if_pos c8] at h;obtain ⟨x, vs, hx, h⟩ := Z15 h;obtain ⟨y, vs, hx, h⟩ := Z15 h;obtain ⟨rfl, _⟩ := Z35 h; cases hk
 rw [if_neg c8] at h;by_cases c9 : isT Z0b us = true
 ·rw [if_pos c9] at h;split at h;·have := hend h; subst this; cases hk
  ·obtain ⟨x, vs, hx, h⟩ := Z15 h;have := hend h; subst this; cases hk
 rw [if_neg c9] at h;by_cases c10 : isT Z1k us = true
 ·rw [if_pos c10] at h;obtain ⟨x, vs, hx, h⟩ := Z15 h;have := hend h; subst this; cases hk
 rw [if_neg c10] at h;by_cases c11 : isT Z1i us = true
 ·rw [if_pos c11] at h;have := Zhs h; omega
 rw [if_neg c11] at h;obtain ⟨x, vs, hx, h⟩ := Z15 h;have := hend h; subst this;simp [Tree.kids]
end Go.Proofs.YtgmnfgljkocnpaaGreatDoor
