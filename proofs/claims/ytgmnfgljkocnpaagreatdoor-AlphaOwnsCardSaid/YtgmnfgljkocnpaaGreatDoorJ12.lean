/- Package tree: Walk with hoist.Vars$1. Package hoist: Vars; tree.Strict. Package hoist: Names; tree.Strict. -/
import Derived.Test.YtgmnfgljkocnpaaGreatDoorJ01
import Derived.Test.YtgmnfgljkocnpaaGreatDoorJ09
import Derived.Test.YtgmnfgljkocnpaaGreatDoorJ11
import Derived.Lib.OwnKind
namespace Go.Proofs.YtgmnfgljkocnpaaGreatDoor
open Go Go.RowKit
set_option maxRecDepth 100000
set_option maxHeartbeats 20000000
set_option linter.unusedVariables false
theorem Zir (p0 : Addr) {σ : Type} (Inv : σ → World → Prop) (g : σ → ATree → Bool × σ) (B : Nat) : ∀ (m : Nat) (a : ATree), a.many ≤ m → (∀ s w, Inv s w → TreeAt w B a) →
 ∀ s, (∀ x s', Reach g a s x s' → ∀ w, Inv s' w → Calls Tryz.prog 71 #[x.ptr, .pointer (some p0)] w fun e w' => e = .returned (.bool (g s' x).1) ∧ Inv (g s' x).2 w') →
 ∀ w, Inv s w → Calls Tryz.prog 31 #[a.ptr, .func (.func 71) #[] #[.pointer (some p0)]] w fun e w' => e = .returned (.tuple #[]) ∧ Inv (Z2p g a s) w' := by
 intro m;induction m with
 | zero => intro a h; exfalso; cases a; simp [ATree.many] at h
 | succ m ih =>
   intro a hm hT s hg w hI;have IH := lh ih;have HT := lh hT;have HG := lh hg;have HM := lh hm;have HC := hg a s (.self a s) w hI;rw [Z64];unfold ATree.ptr at HC ⊢;have hkid : ∀ (i : Nat) (k x : ATree) (s' : σ), (g s a).1 = true → a.kids[i]? = some k → Reach g k (Z14 g (a.kids.take i) (g s a).2) x s' → Reach g a s x s' := fun i k x s' h1 h2 h3 => .kid h1 h2 h3;obtain ⟨ok, s1, hgs⟩ : ∃ ok s1, g s a = (ok, s1) := ⟨_, _, rfl⟩
   rw [hgs] at HC hkid ⊢;have HKID := lh hkid;clear hkid;have HC := lh HC;clear ih hT hg hm hI hgs;cases ok
   ·go_enter Tryz.func31, Tryz.ntmps31
    go_wp2_with fail
    refine HC.out.mono ?_;rintro e w1 ⟨rfl, hI1⟩;have HI1 := lh hI1;clear hI1 HC;go_wp2;refine bodyPost_ret (results_none rfl _ _ _) rfl ?_;exact ⟨rfl, HI1.out⟩
   ·simp only [if_true];go_enter Tryz.func31, Tryz.ntmps31
    go_wp2_with fail
    refine HC.out.mono ?_;rintro e w1 ⟨rfl, hI1⟩;have hT1 := HT.out _ _ hI1;have hblk := hT1.blkOf;have hrow := hT1.rowOf;obtain ⟨p, cp, hv⟩ : ∃ p cp, a.v = .slice p a.kids.length cp := by
     rcases Zc hrow with ⟨h1, h2⟩ | ⟨g0, cap0, h1, _⟩;·exact ⟨none, 0, by rw [h1, h2]⟩
     ·exact ⟨_, _, h1⟩
    rw [hv] at hblk;have c3 : w1.cell? ⟨a.b, 3, none⟩ = some (.slice p a.kids.length cp) := by simp [World.cell?, hblk]
    have hlen : a.kids.length ≤ 9223372036854775807 := by
     rcases Zc hrow with ⟨h1, h2⟩ | ⟨g0, cap0, h1, k1, k2, k3⟩;·omega
     ·unfold maxLen at k2; omega
    have HI1 := lh hI1;have HV := lh hv;obtain ⟨n, hn⟩ : ∃ n, n = a.kids.length := ⟨_, rfl⟩
    rw [← hn] at c3 hlen;have HN := lh hn;clear hI1 hT1 hblk hrow hv hn HC;go_wp2_with fail
    go_loopw [19] (fun i wr => ∃ k : Nat, k ≤ n ∧ i = .int .i64 k ∧ Hid (Inv (Z14 g (a.kids.take k) s1) wr)) (fun i _ => n - (intOf i).toNat)
    case atStart => exact ⟨0, Nat.zero_le _, rfl, lh (by simpa [Z14] using HI1.out)⟩
    case round =>
     obtain ⟨k, hk, rfl, HI⟩ := hrel;by_cases hkn : k < n
     ·obtain ⟨x, hx⟩ : ∃ x, a.kids[k]? = some x := ⟨_, List.getElem?_eq_getElem (by rw [← HN.out]; exact hkn)⟩
      have hT2 := HT.out _ _ HI.out;have hrow := hT2.rowOf;rcases Zc hrow with ⟨_, h2⟩ | ⟨g0, cap0, hv0, k1, k2, k3⟩;·rw [← HN.out] at h2; omega
      have hp : p = some ⟨g0, 0, none⟩ := by
       have := HV.out.symm.trans hv0;simp only [Value.slice.injEq] at this;exact this.1
      subst hp;have cx := Zo hrow (g := g0) (by rw [hv0]; rfl) (i := k) (x := x.ptr) (by rw [List.getElem?_map, hx]; rfl);unfold ATree.ptr at cx;have hmem : x ∈ a.kids := List.mem_of_getElem? hx;have hcall := IH.out x (by have := Z3n hmem; have := HM.out; omega) (fun s w h => (HT.out s w h).kid hmem) _ (fun y s' hy => HG.out y s' (HKID.out k x y s' (by first | rfl | trivial) hx hy)) _ HI.out;unfold ATree.ptr at hcall;have HCALL := lh hcall;have HX := lh hx;have hge : n ≤ cp := by
       have := HV.out.symm.trans hv0;simp only [Value.slice.injEq] at this;rw [HN.out, this.2.2]; exact k1
      clear hx hT2 hrow hv0 k1 k2 k3 hmem hcall;go_wp2_with fail
      refine HCALL.out.mono ?_;rintro e w2 ⟨rfl, hI2⟩;have HI2 := lh hI2;clear hI2 HCALL;go_wp2;go_roundw
      case rel => exact ⟨k + 1, by omega, by go_num, lh (by rw [Z0c HX.out, Z4d]; exact HI2.out)⟩
      case measure => simp [intOf]; omega
     ·have hk2 : k = n := by omega
      subst hk2;go_wp2;go_end0
      refine ⟨rfl, ?_⟩;have := HI.out;rwa [List.take_of_length_le (by rw [← HN.out]; exact Nat.le_refl _)] at this
def Z4z (a : ATree) : List ByteArray := Z14 Z2g a.kids []
theorem Zy.base {w : World} {B B' : Nat} {v : Value} {l : List ByteArray} (h : Zy w B v l) (hB : B' ≤ B) : Zy w B' v l := by
 refine ⟨h.1, ?_⟩;rcases h.2 with hn | ⟨g, cap, cur, h1, h2, rest⟩;·exact .inl hn
 ·exact .inr ⟨g, cap, cur, h1, by omega, rest⟩
theorem Z5q (l : List ATree) : (Z0x l).length = Z20 l := by
 have key : ∀ n, ∀ l : List ATree, Z20 l ≤ n → (Z0x l).length = Z20 l := by
  intro n;induction n with
  | zero =>
    intro l hl;cases l with
    | nil => rfl
    | cons a l => exfalso; obtain ⟨b, v, k, t, m, ks⟩ := a; simp only [Z20, ATree.many] at hl; omega
  | succ n ih =>
    intro l hl;cases l with
    | nil => rfl
    | cons a l =>
      obtain ⟨b, v, k, t, m, ks⟩ := a;simp only [Z20, ATree.many] at hl ⊢;have h1 := ih ks (by omega);have h2 := ih l (by omega);simp only [Z0x, ATree.subs, List.length_append, List.length_cons, h1, h2]
 exact key _ l (Nat.le_refl _)
theorem Zfb (a : ATree) : a.kids.length ≤ a.many := by
 have key : ∀ l : List ATree, l.length ≤ Z20 l := by
  intro l;induction l with
  | nil => simp [Z20]
  | cons x l ih => obtain ⟨b, v, k, t, m, ks⟩ := x; simp only [List.length_cons, Z20, ATree.many]; omega
 obtain ⟨b, v, k, t, m, ks⟩ := a;have := key ks;simp only [ATree.kids, ATree.many];omega
theorem Z57 {w : World} {B : Nat} : ∀ {a x : ATree}, TreeAt w B a → x ∈ a.subs → TreeAt w B x := by
 have key : ∀ n, ∀ a x : ATree, a.many ≤ n → TreeAt w B a → x ∈ a.subs → TreeAt w B x := by
  intro n;induction n with
  | zero => intro a x h; exfalso; obtain ⟨b, v, k, t, m, ks⟩ := a; simp only [ATree.many] at h; omega
  | succ n ih =>
    intro a x hn hT hx;obtain ⟨b, v, k, t, m, ks⟩ := a;simp only [ATree.subs, List.mem_cons] at hx;rcases hx with rfl | hx;·exact hT
    ·have : ∀ l : List ATree, (∀ y ∈ l, y ∈ ks) → x ∈ Z0x l → TreeAt w B x := by
      intro l;induction l with
      | nil => intro _ h; simp [Z0x] at h
      | cons y l ih2 =>
        intro hl h;simp only [Z0x, List.mem_append] at h;rcases h with h | h
        ·have hy : y ∈ (ATree.mk b v k t m ks).kids := hl y (by simp);exact ih y x (by have := Z3n hy; omega) (hT.kid hy) h
        ·exact ih2 (fun z hz => hl z (List.mem_cons_of_mem _ hz)) h
     exact this ks (fun y h => h) hx
 intro a x hT hx;exact key _ a x (Nat.le_refl _) hT hx
def Z4x (a : ATree) : List ByteArray := (Z0x a.kids).map ATree.text
theorem Zbl {a k x : ATree} (h : k ∈ a.kids) (hx : x ∈ k.subs) : x.text ∈ Z4x a := by
 unfold Z4x;refine List.mem_map_of_mem ?_;have key : ∀ l : List ATree, k ∈ l → x ∈ Z0x l := by
  intro l;induction l with
  | nil => intro h; cases h
  | cons y l ih =>
    intro h;simp only [Z0x, List.mem_append];rcases List.mem_cons.1 h with rfl | h;·exact .inl hx
    ·exact .inr (ih h)
 exact key _ h
theorem Zjf (w : World) (B : Nat) (a k : ATree) (hT : TreeAt w B a) (hm : a.many < 1099511627776) (hk : k ∈ a.kids) (l : List ByteArray) (w1 : World) (hI : VInv w w.heap.size (Z4x a) l w1) :
 Calls Tryz.prog 31 #[k.ptr, .func (.func 71) #[] #[.pointer (some ⟨w.heap.size, 0, none⟩)]] w1 fun e w' => e = .returned (.tuple #[]) ∧ VInv w w.heap.size (Z4x a) (Z2p Z2g k l) w' :=
 Zir ⟨w.heap.size, 0, none⟩ (VInv w w.heap.size (Z4x a)) Z2g B k.many k (Nat.le_refl _) (fun s w1 h => h.tree (hT.kid hk) (Nat.le_refl _))
  l (fun x s hx w1 h => Zfd w w.heap.size B (Z4x a) (by unfold Z4x; rw [List.length_map, Z5q]; obtain ⟨b, v, kk, t, m, ks⟩ := a; simp only [ATree.many] at hm; simp only [ATree.kids]; omega) (Nat.le_refl _) x (Z57 (hT.kid hk) hx.sub) (Zbl hk hx.sub) s w1 h) w1 hI
theorem Zhu (w : World) (B : Nat) (a : ATree) (hT : TreeAt w B a) (hm : a.many < 1099511627776) :
 Calls Tryz.prog 35 #[a.ptr] w fun e w' => ∃ v, e = .returned v ∧ Zy w' w.heap.size v (Z4z a) ∧ Below w.heap.size w w' ∧ (Z4z a).length ≤ a.many := by
 have HW := lh (Zjf w B a · hT hm);have hmf : ∀ (fn : Fn) (first cap : Array Value) (w : World), (Instr.makeFunc fn first cap).run Tryz.prog w = .ok (.func fn first cap) w := fun _ _ _ _ => rfl;have hblk := hT.blkOf;obtain ⟨p, cp, hv, hge, hmx⟩ := hT.vOf;have c3 : w.cell? ⟨a.b, 3, none⟩ = some (.slice p a.kids.length cp) := by rw [← hv]; exact hT.c3
 have hlen : a.kids.length ≤ 9223372036854775807 := by unfold maxLen at hmx; omega
 have hab := hT.lt;have c3' : (w.alloc (.cells #[.slice none 0 0] 25)).cell? ⟨a.b, 3, none⟩ = some (.slice p a.kids.length cp) := (Z7 hab).trans c3;have HT := lh hT;have HV := lh hv;have HM := lh hm;unfold ATree.ptr;obtain ⟨n, hnn⟩ : ∃ n, n = a.kids.length := ⟨_, rfl⟩
 rw [← hnn] at c3 hlen hge c3';have HN := lh hnn;have hstart : VInv w w.heap.size (Z4x a) [] (w.alloc (.cells #[.slice none 0 0] 25)) :=
  ⟨⟨_, by rw [World.alloc]; simp, Zy.nil _ _⟩, (Below.refl _ _).alloc (Nat.le_refl _) _, List.nodup_nil, fun _ h => by cases h⟩
 have HS := lh hstart;clear hblk hv hnn hT hstart hm;go_enter Tryz.func35, Tryz.ntmps35
 go_wp2_with fail
 go_loopw [13] (fun i wr => ∃ (k : Nat), k ≤ n ∧ i = .int .i64 k ∧ Hid (VInv w w.heap.size (Z4x a) (Z14 Z2g (a.kids.take k) []) wr)) (fun i _ => n - (intOf i).toNat)
 case atStart => exact ⟨0, Nat.zero_le _, rfl, lh (by simpa [Z14] using HS.out)⟩
 case round =>
  obtain ⟨k, hk, rfl, HI⟩ := hrel;by_cases hkn : k < n
  ·obtain ⟨x, hx⟩ : ∃ x, a.kids[k]? = some x := ⟨_, List.getElem?_eq_getElem (by rw [← HN.out]; exact hkn)⟩
   have hT2 := HI.out.tree HT.out (Nat.le_refl _);have hrow := hT2.rowOf;rcases Zc hrow with ⟨_, h2⟩ | ⟨g0, cap0, hv0, _⟩;·rw [← HN.out] at h2; omega
   have hp : p = some ⟨g0, 0, none⟩ := by
    have := HV.out.symm.trans hv0;simp only [Value.slice.injEq] at this;exact this.1
   subst hp;have cx := Zo hrow (g := g0) (by rw [hv0]; rfl) (i := k) (x := x.ptr) (by rw [List.getElem?_map, hx]; rfl);have hcall := HW.out x (List.mem_of_getElem? hx) _ _ HI.out;unfold ATree.ptr at cx hcall;have HCALL := lh hcall;have HX := lh hx;clear hT2 hrow hv0 hx hcall;go_wp2_with fail
   refine HCALL.out.mono ?_;rintro e w1 ⟨rfl, hI1⟩;have HI1 := lh hI1;clear hI1 HCALL;go_wp2;go_roundw
   case rel => exact ⟨k + 1, by omega, by go_num, lh (by rw [Z0c HX.out, Z4d]; exact HI1.out)⟩
   case measure => simp [intOf]; omega
  ·have hk2 : k = n := by omega
   subst hk2;obtain ⟨v, hb, htx⟩ := HI.out.cell;have cc : wr.cell? ⟨w.heap.size, 0, none⟩ = some v := by simp [World.cell?, hb]
   have HTX := lh htx;clear hb htx;go_wp2;go_ret;have hall : Z14 Z2g (a.kids.take k) [] = Z4z a := by rw [List.take_of_length_le (by rw [← HN.out]; exact Nat.le_refl _)]; rfl
   rw [← hall];refine ⟨_, rfl, HTX.out.base (Nat.le_succ _), HI.out.bel, ?_⟩;have := Zbe _ _ HI.out.nd HI.out.sub;refine Nat.le_trans this ?_;unfold Z4x;rw [List.length_map, Z5q];obtain ⟨b, v, kk, t, m, ks⟩ := a;simp only [ATree.many, ATree.kids];omega
def Z0d (l : List ByteArray) (ks : List ATree) : List ByteArray := ks.foldl (fun l k => addL l k.text) l
theorem Z5d (l : List ByteArray) (ks : List ATree) (k : ATree) : Z0d l (ks ++ [k]) = addL (Z0d l ks) k.text := by simp [Z0d, List.foldl_append]
theorem Z16 (l : List ByteArray) (ks : List ATree) : (Z0d l ks).length ≤ l.length + ks.length := by
 induction ks generalizing l with
 | nil => simp [Z0d]
 | cons k ks ih =>
   have h1 := ih (addL l k.text);have h2 := Z83 l k.text;simp only [Z0d, List.foldl_cons, List.length_cons] at h1 ⊢;omega
def Z2f (body : Bool) (a : ATree) : List ByteArray := Z0d (Z0d (if body then Z4z a else []) (a.kids.filter Z1o)) (a.kids.filter Z26)
theorem Z0s.far {w w' : World} {B B' : Nat} {v v' : Value} {l : List ATree} {ks : List ByteArray} (h : Z0s w B v l) (ht : Zy w B' v' ks) (hf : ∀ k, k < w.heap.size → v'.ownBlock ≠ some k → w'.heap[k]? = w.heap[k]?) : Z0s w' B v l := by
 refine Zl h fun k hk => hf k (World.ownsRow.lt h k hk).2 fun e => ?_;obtain ⟨c1, f1, h1⟩ := Lib.ownsRow_kind h k hk;obtain ⟨c2, f2, h2⟩ := Lib.ownsRow_kind ht k e;rw [h1] at h2;simp only [Option.some.injEq, Obj.cells.injEq] at h2;exact absurd h2.2.1 (by decide)
theorem Zdt (w : World) (B0 : Nat) (a : ATree) (hT : TreeAt w B0 a) (hm : a.many < 274877906944) :
 Calls Tryz.prog 15 #[a.ptr, .bool true] w fun e w' => ∃ v, e = .returned v ∧ Zy w' w.heap.size v (Z2f true a) ∧ Below w.heap.size w w' := by
 have hkl := Zfb a;have HT := lh hT;have hfu : (a.kids.filter Z1o).length ≤ a.kids.length := List.length_filter_le _ _;have hle : (a.kids.filter Z26).length ≤ a.kids.length := List.length_filter_le _ _;have hfk : ∀ x, x ∈ a.kids.filter Z1o → x ∈ a.kids := fun x hx => (List.mem_filter.1 hx).1;have hlk : ∀ x, x ∈ a.kids.filter Z26 → x ∈ a.kids := fun x hx => (List.mem_filter.1 hx).1;have HFK := lh hfk;have HLK := lh hlk;have hF := fun (w' : World) (h : TreeAt w' B0 a) => Zb0 w' B0 a h (by omega);have hL := fun (w' : World) (h : TreeAt w' B0 a) => Za4 w' B0 a h (by omega)
 obtain ⟨P, hP⟩ : ∃ P, P = a.kids.filter Z1o := ⟨_, rfl⟩
 obtain ⟨Q, hQ⟩ : ∃ Q, Q = a.kids.filter Z26 := ⟨_, rfl⟩
 unfold Z2f;simp only [if_true];rw [← hP] at hfu HFK;rw [← hQ] at hle HLK;simp only [← hP] at hF;simp only [← hQ] at hL;rw [← hP, ← hQ];clear hP hQ hfk hlk hT;have HF := lh hF;have HL := lh hL;clear hF hL;have hV := Zhu w B0 a HT.out (by omega);obtain ⟨l0, hl0⟩ : ∃ l, l = Z4z a := ⟨_, rfl⟩
 rw [← hl0] at hV ⊢;have HV := lh hV;clear hV hl0;unfold ATree.ptr at HF HL HV ⊢;go_enter Tryz.func15, Tryz.ntmps15
 go_wp2_with fail
 refine HV.out.mono ?_;rintro e w1 ⟨v1, rfl, ht1, hb1, hl1⟩;have TX1 := lh ht1;have HB1 := lh hb1;clear HV ht1 hb1;go_wp2_with fail
 refine (HF.out w1 (HT.out.bel HB1.out)).mono ?_;rintro e w2 ⟨v2, rfl, hn2, hb2⟩;obtain ⟨p2, cp2, rfl, hge2, hmx2⟩ : ∃ p cp, v2 = .slice p P.length cp ∧ P.length ≤ cp ∧ cp ≤ maxLen := by
  rcases hn2.form with ⟨h1, h2⟩ | ⟨g, cap, h1, h2, h3⟩;·exact ⟨none, 0, by rw [h1, h2]; rfl, by rw [h2]; exact Nat.le_refl _, by unfold maxLen; omega⟩
  ·exact ⟨_, _, h1, h2, h3⟩
 have TX2 := lh (TX1.out.bel hb2);have HB2 := lh (HB1.out.trans (hb2.mono HB1.out.size));have N2 := lh hn2;obtain ⟨m, hm1⟩ : ∃ m, m = P.length := ⟨_, rfl⟩
 have hmq : m ≤ 9223372036854775807 := by unfold maxLen at hmx2; omega
 rw [← hm1] at hge2 N2 hfu ⊢;have HM1 := lh hm1;clear hn2 hb2 hm1 TX1 HB1;go_wp2_with fail
 go_loopw [5, 16] (fun v i wr => ∃ (k : Nat) (v' : Value), v' = v ∧ k ≤ m ∧ i = .int .i64 k ∧ Hid (Zy wr w.heap.size v' (Z0d l0 (P.take k))) ∧ Hid (Z0s wr w1.heap.size (.slice p2 m cp2) P) ∧ Hid (Below w.heap.size w wr)) (fun _ i _ => m - (intOf i).toNat)
 case atStart => exact ⟨0, _, rfl, Nat.zero_le _, rfl, TX2, N2, HB2⟩
 case round =>
  obtain ⟨k, v, rfl, hk, rfl, TX, NO, HB⟩ := hrel;clear TX2 N2 HB2;by_cases hkn : k < m
  ·obtain ⟨x, hx⟩ : ∃ x, P[k]? = some x := ⟨_, List.getElem?_eq_getElem (by rw [← HM1.out]; exact hkn)⟩
   obtain ⟨g0, hp⟩ : ∃ g, p2 = some ⟨g, 0, none⟩ := by
    rcases NO.out.form with ⟨h1, h2⟩ | ⟨g, cap, h1, _⟩;·rw [h2] at hx; simp at hx
    ·simp only [Value.slice.injEq] at h1; exact ⟨g, h1.1⟩
   subst hp;have cx := NO.out.cell rfl hx;have hTx := (HT.out.bel HB.out).kid (HFK.out x (List.mem_of_getElem? hx));have c1 := hTx.c1;have hln : (Z0d l0 (P.take k)).length < 1099511627776 := by
    have := Z16 l0 (P.take k);have h3 : (P.take k).length ≤ k := by simp; omega
    have h4 := HM1.out;omega
   have HA := lh (Z92 wr w.heap.size v _ x.text TX.out HB.out.size hln);have HX := lh hx;clear hTx hx hln;go_wp2_with fail
   refine HA.out.mono ?_;rintro e w3 ⟨v3, rfl, ht3, hb3, hf3⟩;have hsn : Z0d l0 (P.take (k + 1)) = addL (Z0d l0 (P.take k)) x.text := by rw [Z0c HX.out, Z5d]
   have TX3 : Hid (Zy w3 w.heap.size v3 (Z0d l0 (P.take (k + 1)))) := lh (by rw [hsn]; exact ht3);have N3 := lh (NO.out.far TX.out hf3);have HB3 := lh (HB.out.trans hb3);clear HA ht3 hb3 hf3 hsn;go_wp2;go_roundw
   case rel => exact ⟨k + 1, _, rfl, by omega, by go_num, TX3, N3, HB3⟩
   case measure => simp [intOf]; omega
  ·have hk2 : k = m := by omega
   subst hk2;have hend : Zy wr w.heap.size v (Z0d l0 P) := by
    have := TX.out;rwa [List.take_of_length_le (by rw [← HM1.out]; exact Nat.le_refl _)] at this
   have TX3 := lh hend;have hl3 := Z16 l0 P;obtain ⟨l1, hl1⟩ : ∃ l, l = Z0d l0 P := ⟨_, rfl⟩
   rw [← hl1] at TX3 hl3;have HL1 := lh hl1;clear hend TX NO hl1;go_wp2_with fail
   refine (HL.out wr (HT.out.bel HB.out)).mono ?_;rintro e w4 ⟨v4, rfl, hn4, hb4⟩;obtain ⟨p4, cp4, rfl, hge4, hmx4⟩ : ∃ p cp, v4 = .slice p Q.length cp ∧ Q.length ≤ cp ∧ cp ≤ maxLen := by
    rcases hn4.form with ⟨h1, h2⟩ | ⟨g, cap, h1, h2, h3⟩;·exact ⟨none, 0, by rw [h1, h2]; rfl, by rw [h2]; exact Nat.le_refl _, by unfold maxLen; omega⟩
    ·exact ⟨_, _, h1, h2, h3⟩
   have TX4 := lh (TX3.out.bel hb4);have HB4 := lh (HB.out.trans (hb4.mono HB.out.size));have N4 := lh hn4;obtain ⟨q, hq1⟩ : ∃ q, q = Q.length := ⟨_, rfl⟩
   have hqq : q ≤ 9223372036854775807 := by unfold maxLen at hmx4; omega
   rw [← hq1] at hge4 N4 hle ⊢;have HQ1 := lh hq1;clear hn4 hb4 hq1 TX3 HB;obtain ⟨bb, hbb⟩ : ∃ b, b = wr.heap.size := ⟨_, rfl⟩
   rw [← hbb] at N4;clear hbb;go_wp2_with fail
   go_loopw [5, 30] (fun v i wr => ∃ (k : Nat) (v' : Value), v' = v ∧ k ≤ q ∧ i = .int .i64 k ∧ Hid (Zy wr w.heap.size v' (Z0d l1 (Q.take k))) ∧ Hid (Z0s wr bb (.slice p4 q cp4) Q) ∧ Hid (Below w.heap.size w wr)) (fun _ i _ => q - (intOf i).toNat)
   case atStart => exact ⟨0, _, rfl, Nat.zero_le _, rfl, TX4, N4, HB4⟩
   case round =>
    obtain ⟨k, v, rfl, hk, rfl, TX, NO, HB⟩ := hrel;clear TX4 N4 HB4;by_cases hkn : k < q
    ·obtain ⟨x, hx⟩ : ∃ x, Q[k]? = some x := ⟨_, List.getElem?_eq_getElem (by rw [← HQ1.out]; exact hkn)⟩
     obtain ⟨g0, hp⟩ : ∃ g, p4 = some ⟨g, 0, none⟩ := by
      rcases NO.out.form with ⟨h1, h2⟩ | ⟨g, cap, h1, _⟩;·rw [h2] at hx; simp at hx
      ·simp only [Value.slice.injEq] at h1; exact ⟨g, h1.1⟩
     subst hp;have cx := NO.out.cell rfl hx;have hTx := (HT.out.bel HB.out).kid (HLK.out x (List.mem_of_getElem? hx));have c1 := hTx.c1;have hln : (Z0d l1 (Q.take k)).length < 1099511627776 := by
      have := Z16 l1 (Q.take k);have h3 : (Q.take k).length ≤ k := by simp; omega
      have h4 := HM1.out;omega
     have HA := lh (Z92 wr w.heap.size v _ x.text TX.out HB.out.size hln);have HX := lh hx;clear hTx hx hln;go_wp2_with fail
     refine HA.out.mono ?_;rintro e w3 ⟨v3, rfl, ht3, hb3, hf3⟩;have hsn : Z0d l1 (Q.take (k + 1)) = addL (Z0d l1 (Q.take k)) x.text := by rw [Z0c HX.out, Z5d]
     have TX3 : Hid (Zy w3 w.heap.size v3 (Z0d l1 (Q.take (k + 1)))) := lh (by rw [hsn]; exact ht3);have N3 := lh (NO.out.far TX.out hf3);have HB3 := lh (HB.out.trans hb3);clear HA ht3 hb3 hf3 hsn;go_wp2;go_roundw
     case rel => exact ⟨k + 1, _, rfl, by omega, by go_num, TX3, N3, HB3⟩
     case measure => simp [intOf]; omega
    ·have hk2 : k = q := by omega
     subst hk2;have hend : Zy wr w.heap.size v (Z0d l1 Q) := by
      have := TX.out;rwa [List.take_of_length_le (by rw [← HQ1.out]; exact Nat.le_refl _)] at this
     have TX5 := lh hend;clear hend TX;go_wp2;go_ret;rw [← HL1.out];exact ⟨_, rfl, TX5.out, HB.out⟩
theorem Zbu (w : World) (B0 : Nat) (a : ATree) (hT : TreeAt w B0 a) (hm : a.many < 274877906944) :
 Calls Tryz.prog 15 #[a.ptr, .bool false] w fun e w' => ∃ v, e = .returned v ∧ Zy w' w.heap.size v (Z2f false a) ∧ Below w.heap.size w w' := by
 have hkl := Zfb a;have HT := lh hT;have hfu : (a.kids.filter Z1o).length ≤ a.kids.length := List.length_filter_le _ _;have hle : (a.kids.filter Z26).length ≤ a.kids.length := List.length_filter_le _ _;have hfk : ∀ x, x ∈ a.kids.filter Z1o → x ∈ a.kids := fun x hx => (List.mem_filter.1 hx).1;have hlk : ∀ x, x ∈ a.kids.filter Z26 → x ∈ a.kids := fun x hx => (List.mem_filter.1 hx).1;have HFK := lh hfk;have HLK := lh hlk;have hF := fun (w' : World) (h : TreeAt w' B0 a) => Zb0 w' B0 a h (by omega);have hL := fun (w' : World) (h : TreeAt w' B0 a) => Za4 w' B0 a h (by omega)
 obtain ⟨P, hP⟩ : ∃ P, P = a.kids.filter Z1o := ⟨_, rfl⟩
 obtain ⟨Q, hQ⟩ : ∃ Q, Q = a.kids.filter Z26 := ⟨_, rfl⟩
 unfold Z2f;simp only [Bool.false_eq_true, if_false];rw [← hP] at hfu HFK;rw [← hQ] at hle HLK;simp only [← hP] at hF;simp only [← hQ] at hL;rw [← hP, ← hQ];clear hP hQ hfk hlk hT;have HF := lh hF;have HL := lh hL;clear hF hL;obtain ⟨l0, hl0⟩ : ∃ l : List ByteArray, l = [] := ⟨_, rfl⟩
 have hl1 : l0.length ≤ a.many := by rw [hl0]; exact Nat.zero_le _
 have TX1 : Hid (Zy w w.heap.size (.slice none 0 0) l0) := lh (by rw [hl0]; exact Zy.nil _ _);rw [← hl0];have HB1 := lh (Below.refl w.heap.size w);clear hl0;unfold ATree.ptr at HF HL ⊢;go_enter Tryz.func15, Tryz.ntmps15
 go_wp2_with fail
 refine (HF.out w (HT.out.bel HB1.out)).mono ?_;rintro e w2 ⟨v2, rfl, hn2, hb2⟩;obtain ⟨p2, cp2, rfl, hge2, hmx2⟩ : ∃ p cp, v2 = .slice p P.length cp ∧ P.length ≤ cp ∧ cp ≤ maxLen := by
  rcases hn2.form with ⟨h1, h2⟩ | ⟨g, cap, h1, h2, h3⟩;·exact ⟨none, 0, by rw [h1, h2]; rfl, by rw [h2]; exact Nat.le_refl _, by unfold maxLen; omega⟩
  ·exact ⟨_, _, h1, h2, h3⟩
 have TX2 := lh (TX1.out.bel hb2);have HB2 := lh (HB1.out.trans (hb2.mono HB1.out.size));have N2 := lh hn2;obtain ⟨m, hm1⟩ : ∃ m, m = P.length := ⟨_, rfl⟩
 have hmq : m ≤ 9223372036854775807 := by unfold maxLen at hmx2; omega
 rw [← hm1] at hge2 N2 hfu ⊢;have HM1 := lh hm1;clear hn2 hb2 hm1 TX1 HB1;go_wp2_with fail
 go_loopw [5, 16] (fun v i wr => ∃ (k : Nat) (v' : Value), v' = v ∧ k ≤ m ∧ i = .int .i64 k ∧ Hid (Zy wr w.heap.size v' (Z0d l0 (P.take k))) ∧ Hid (Z0s wr w.heap.size (.slice p2 m cp2) P) ∧ Hid (Below w.heap.size w wr)) (fun _ i _ => m - (intOf i).toNat)
 case atStart => exact ⟨0, _, rfl, Nat.zero_le _, rfl, TX2, N2, HB2⟩
 case round =>
  obtain ⟨k, v, rfl, hk, rfl, TX, NO, HB⟩ := hrel;clear TX2 N2 HB2;by_cases hkn : k < m
  ·obtain ⟨x, hx⟩ : ∃ x, P[k]? = some x := ⟨_, List.getElem?_eq_getElem (by rw [← HM1.out]; exact hkn)⟩
   obtain ⟨g0, hp⟩ : ∃ g, p2 = some ⟨g, 0, none⟩ := by
    rcases NO.out.form with ⟨h1, h2⟩ | ⟨g, cap, h1, _⟩;·rw [h2] at hx; simp at hx
    ·simp only [Value.slice.injEq] at h1; exact ⟨g, h1.1⟩
   subst hp;have cx := NO.out.cell rfl hx;have hTx := (HT.out.bel HB.out).kid (HFK.out x (List.mem_of_getElem? hx));have c1 := hTx.c1;have hln : (Z0d l0 (P.take k)).length < 1099511627776 := by
    have := Z16 l0 (P.take k);have h3 : (P.take k).length ≤ k := by simp; omega
    have h4 := HM1.out;omega
   have HA := lh (Z92 wr w.heap.size v _ x.text TX.out HB.out.size hln);have HX := lh hx;clear hTx hx hln;go_wp2_with fail
   refine HA.out.mono ?_;rintro e w3 ⟨v3, rfl, ht3, hb3, hf3⟩;have hsn : Z0d l0 (P.take (k + 1)) = addL (Z0d l0 (P.take k)) x.text := by rw [Z0c HX.out, Z5d]
   have TX3 : Hid (Zy w3 w.heap.size v3 (Z0d l0 (P.take (k + 1)))) := lh (by rw [hsn]; exact ht3);have N3 := lh (NO.out.far TX.out hf3);have HB3 := lh (HB.out.trans hb3);clear HA ht3 hb3 hf3 hsn;go_wp2;go_roundw
   case rel => exact ⟨k + 1, _, rfl, by omega, by go_num, TX3, N3, HB3⟩
   case measure => simp [intOf]; omega
  ·have hk2 : k = m := by omega
   subst hk2;have hend : Zy wr w.heap.size v (Z0d l0 P) := by
    have := TX.out;rwa [List.take_of_length_le (by rw [← HM1.out]; exact Nat.le_refl _)] at this
   have TX3 := lh hend;have hl3 := Z16 l0 P;obtain ⟨l1, hl1⟩ : ∃ l, l = Z0d l0 P := ⟨_, rfl⟩
   rw [← hl1] at TX3 hl3;have HL1 := lh hl1;clear hend TX NO hl1;go_wp2_with fail
   refine (HL.out wr (HT.out.bel HB.out)).mono ?_;rintro e w4 ⟨v4, rfl, hn4, hb4⟩;obtain ⟨p4, cp4, rfl, hge4, hmx4⟩ : ∃ p cp, v4 = .slice p Q.length cp ∧ Q.length ≤ cp ∧ cp ≤ maxLen := by
    rcases hn4.form with ⟨h1, h2⟩ | ⟨g, cap, h1, h2, h3⟩;·exact ⟨none, 0, by rw [h1, h2]; rfl, by rw [h2]; exact Nat.le_refl _, by unfold maxLen; omega⟩
    ·exact ⟨_, _, h1, h2, h3⟩
   have TX4 := lh (TX3.out.bel hb4);have HB4 := lh (HB.out.trans (hb4.mono HB.out.size));have N4 := lh hn4;obtain ⟨q, hq1⟩ : ∃ q, q = Q.length := ⟨_, rfl⟩
   have hqq : q ≤ 9223372036854775807 := by unfold maxLen at hmx4; omega
   rw [← hq1] at hge4 N4 hle ⊢;have HQ1 := lh hq1;clear hn4 hb4 hq1 TX3 HB;obtain ⟨bb, hbb⟩ : ∃ b, b = wr.heap.size := ⟨_, rfl⟩
   rw [← hbb] at N4;clear hbb;go_wp2_with fail
   go_loopw [5, 30] (fun v i wr => ∃ (k : Nat) (v' : Value), v' = v ∧ k ≤ q ∧ i = .int .i64 k ∧ Hid (Zy wr w.heap.size v' (Z0d l1 (Q.take k))) ∧ Hid (Z0s wr bb (.slice p4 q cp4) Q) ∧ Hid (Below w.heap.size w wr)) (fun _ i _ => q - (intOf i).toNat)
   case atStart => exact ⟨0, _, rfl, Nat.zero_le _, rfl, TX4, N4, HB4⟩
   case round =>
    obtain ⟨k, v, rfl, hk, rfl, TX, NO, HB⟩ := hrel;clear TX4 N4 HB4;by_cases hkn : k < q
    ·obtain ⟨x, hx⟩ : ∃ x, Q[k]? = some x := ⟨_, List.getElem?_eq_getElem (by rw [← HQ1.out]; exact hkn)⟩
     obtain ⟨g0, hp⟩ : ∃ g, p4 = some ⟨g, 0, none⟩ := by
      rcases NO.out.form with ⟨h1, h2⟩ | ⟨g, cap, h1, _⟩;·rw [h2] at hx; simp at hx
      ·simp only [Value.slice.injEq] at h1; exact ⟨g, h1.1⟩
     subst hp;have cx := NO.out.cell rfl hx;have hTx := (HT.out.bel HB.out).kid (HLK.out x (List.mem_of_getElem? hx));have c1 := hTx.c1;have hln : (Z0d l1 (Q.take k)).length < 1099511627776 := by
      have := Z16 l1 (Q.take k);have h3 : (Q.take k).length ≤ k := by simp; omega
      have h4 := HM1.out;omega
     have HA := lh (Z92 wr w.heap.size v _ x.text TX.out HB.out.size hln);have HX := lh hx;clear hTx hx hln;go_wp2_with fail
     refine HA.out.mono ?_;rintro e w3 ⟨v3, rfl, ht3, hb3, hf3⟩;have hsn : Z0d l1 (Q.take (k + 1)) = addL (Z0d l1 (Q.take k)) x.text := by rw [Z0c HX.out, Z5d]
     have TX3 : Hid (Zy w3 w.heap.size v3 (Z0d l1 (Q.take (k + 1)))) := lh (by rw [hsn]; exact ht3);have N3 := lh (NO.out.far TX.out hf3);have HB3 := lh (HB.out.trans hb3);clear HA ht3 hb3 hf3 hsn;go_wp2;go_roundw
     case rel => exact ⟨k + 1, _, rfl, by omega, by go_num, TX3, N3, HB3⟩
     case measure => simp [intOf]; omega
    ·have hk2 : k = q := by omega
     subst hk2;have hend : Zy wr w.heap.size v (Z0d l1 Q) := by
      have := TX.out;rwa [List.take_of_length_le (by rw [← HQ1.out]; exact Nat.le_refl _)] at this
     have TX5 := lh hend;clear hend TX;go_wp2;go_ret;rw [← HL1.out];exact ⟨_, rfl, TX5.out, HB.out⟩
theorem Zar (body : Bool) (w : World) (B0 : Nat) (a : ATree) (hT : TreeAt w B0 a) (hm : a.many < 274877906944) :
 Calls Tryz.prog 15 #[a.ptr, .bool body] w fun e w' => ∃ v, e = .returned v ∧ Zy w' w.heap.size v (Z2f body a) ∧ Below w.heap.size w w' := by
 cases body;·exact Zbu w B0 a hT hm
 ·exact Zdt w B0 a hT hm
end Go.Proofs.YtgmnfgljkocnpaaGreatDoor
