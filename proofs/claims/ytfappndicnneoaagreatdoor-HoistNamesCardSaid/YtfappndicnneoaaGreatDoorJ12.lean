/- Package tree: Walk with hoist.Vars$1. Package hoist: Vars; tree.Strict. Package hoist: Names; tree.Strict. Maps from nodes to numbers. Package tree: Walk with run.Number$1. Package run: Number. -/
import Derived.Test.YtfappndicnneoaaGreatDoorJ01
import Derived.Test.YtfappndicnneoaaGreatDoorJ09
import Derived.Test.YtfappndicnneoaaGreatDoorJ11
import Derived.Lib.OwnKind
import Derived.LaidEql
namespace Go.Proofs.YtfappndicnneoaaGreatDoor
open Go Go.RowKit
set_option maxRecDepth 100000
set_option linter.unusedVariables false
set_option maxHeartbeats 4000000 in
theorem walk_Va (p0 : Addr) {σ : Type} (Inv : σ → World → Prop) (g : σ → ATree → Bool × σ) (B : Nat) : ∀ (m : Nat) (a : ATree), a.many ≤ m → (∀ s w, Inv s w → TreeAt w B a) →
 ∀ s, (∀ x s', Reach g a s x s' → ∀ w, Inv s' w → Calls Tryz.prog 19 #[x.ptr, .pointer (some p0)] w fun e w' => e = .returned (.bool (g s' x).1) ∧ Inv (g s' x).2 w') →
 ∀ w, Inv s w → Calls Tryz.prog 18 #[a.ptr, .func (.func 19) #[] #[.pointer (some p0)]] w fun e w' => e = .returned (.tuple #[]) ∧ Inv (walkA g a s) w' := by
 intro m
 induction m with
 | zero => intro a h; exfalso; cases a; simp [ATree.many] at h
 | succ m ih =>
   intro a hm hT s hg w hI
   have IH := lh ih
   have HT := lh hT
   have HG := lh hg
   have HM := lh hm
   have HC := hg a s (.self a s) w hI
   rw [walkA_eq]
   unfold ATree.ptr at HC ⊢
   have hkid : ∀ (i : Nat) (k x : ATree) (s' : σ), (g s a).1 = true → a.kids[i]? = some k → Reach g k (walkL g (a.kids.take i) (g s a).2) x s' → Reach g a s x s' := fun i k x s' h1 h2 h3 => .kid h1 h2 h3
   obtain ⟨ok, s1, hgs⟩ : ∃ ok s1, g s a = (ok, s1) := ⟨_, _, rfl⟩
   rw [hgs] at HC hkid ⊢
   have HKID := lh hkid
   clear hkid
   have HC := lh HC
   clear ih hT hg hm hI hgs
   cases ok
   ·go_enter Tryz.func18, Tryz.ntmps18
    go_wp2_with fail
    refine HC.out.mono ?_
    rintro e w1 ⟨rfl, hI1⟩
    have HI1 := lh hI1
    clear hI1 HC
    go_wp2
    refine bodyPost_ret (results_none rfl _ _ _) rfl ?_
    exact ⟨rfl, HI1.out⟩
   ·simp only [if_true]
    go_enter Tryz.func18, Tryz.ntmps18
    go_wp2_with fail
    refine HC.out.mono ?_
    rintro e w1 ⟨rfl, hI1⟩
    have hT1 := HT.out _ _ hI1
    have hblk := hT1.blkOf
    have hrow := hT1.rowOf
    obtain ⟨p, cp, hv⟩ : ∃ p cp, a.v = .slice p a.kids.length cp := by
     rcases ownsRow_cases hrow with ⟨h1, h2⟩ | ⟨g0, cap0, h1, _⟩
     ·exact ⟨none, 0, by rw [h1, h2]⟩
     ·exact ⟨_, _, h1⟩
    rw [hv] at hblk
    have c3 : w1.cell? ⟨a.b, 3, none⟩ = some (.slice p a.kids.length cp) := by simp [World.cell?, hblk]
    have hlen : a.kids.length ≤ 9223372036854775807 := by
     rcases ownsRow_cases hrow with ⟨h1, h2⟩ | ⟨g0, cap0, h1, k1, k2, k3⟩
     ·omega
     ·unfold maxLen at k2; omega
    have HI1 := lh hI1
    have HV := lh hv
    obtain ⟨n, hn⟩ : ∃ n, n = a.kids.length := ⟨_, rfl⟩
    rw [← hn] at c3 hlen
    have HN := lh hn
    clear hI1 hT1 hblk hrow hv hn HC
    go_wp2_with fail
    go_loopw [19] (fun i wr => ∃ k : Nat, k ≤ n ∧ i = .int .i64 k ∧ Hid (Inv (walkL g (a.kids.take k) s1) wr)) (fun i _ => n - (intOf i).toNat)
    case atStart => exact ⟨0, Nat.zero_le _, rfl, lh (by simpa [walkL] using HI1.out)⟩
    case round =>
     obtain ⟨k, hk, rfl, HI⟩ := hrel
     by_cases hkn : k < n
     ·obtain ⟨x, hx⟩ : ∃ x, a.kids[k]? = some x := ⟨_, List.getElem?_eq_getElem (by rw [← HN.out]; exact hkn)⟩
      have hT2 := HT.out _ _ HI.out
      have hrow := hT2.rowOf
      rcases ownsRow_cases hrow with ⟨_, h2⟩ | ⟨g0, cap0, hv0, k1, k2, k3⟩
      ·rw [← HN.out] at h2; omega
      have hp : p = some ⟨g0, 0, none⟩ := by
       have := HV.out.symm.trans hv0
       simp only [Value.slice.injEq] at this
       exact this.1
      subst hp
      have cx := ownsRow_cell1 hrow (g := g0) (by rw [hv0]; rfl) (i := k) (x := x.ptr) (by rw [List.getElem?_map, hx]; rfl)
      unfold ATree.ptr at cx
      have hmem : x ∈ a.kids := List.mem_of_getElem? hx
      have hcall := IH.out x (by have := many_kid hmem; have := HM.out; omega) (fun s w h => (HT.out s w h).kid hmem) _ (fun y s' hy => HG.out y s' (HKID.out k x y s' (by first | rfl | trivial) hx hy)) _ HI.out
      unfold ATree.ptr at hcall
      have HCALL := lh hcall
      have HX := lh hx
      have hge : n ≤ cp := by
       have := HV.out.symm.trans hv0
       simp only [Value.slice.injEq] at this
       rw [HN.out, this.2.2]; exact k1
      clear hx hT2 hrow hv0 k1 k2 k3 hmem hcall
      go_wp2_with fail
      refine HCALL.out.mono ?_
      rintro e w2 ⟨rfl, hI2⟩
      have HI2 := lh hI2
      clear hI2 HCALL
      go_wp2
      go_roundw
      case rel => exact ⟨k + 1, by omega, by go_num, lh (by rw [take_succ_kid HX.out, walkL_snoc]; exact HI2.out)⟩
      case measure => simp [intOf]; omega
     ·have hk2 : k = n := by omega
      subst hk2
      go_wp2
      go_end0
      refine ⟨rfl, ?_⟩
      have := HI.out
      rwa [List.take_of_length_le (by rw [← HN.out]; exact Nat.le_refl _)] at this
def varsF (a : ATree) : List ByteArray := walkL varsG a.kids []
theorem Texts.base {w : World} {B B' : Nat} {v : Value} {l : List ByteArray} (h : Texts w B v l) (hB : B' ≤ B) : Texts w B' v l := by
 refine ⟨h.1, ?_⟩
 rcases h.2 with hn | ⟨g, cap, cur, h1, h2, rest⟩
 ·exact .inl hn
 ·exact .inr ⟨g, cap, cur, h1, by omega, rest⟩
theorem subsL_len (l : List ATree) : (subsL l).length = manyLA l := by
 have key : ∀ n, ∀ l : List ATree, manyLA l ≤ n → (subsL l).length = manyLA l := by
  intro n
  induction n with
  | zero =>
    intro l hl
    cases l with
    | nil => rfl
    | cons a l => exfalso; obtain ⟨b, v, k, t, m, ks⟩ := a; simp only [manyLA, ATree.many] at hl; omega
  | succ n ih =>
    intro l hl
    cases l with
    | nil => rfl
    | cons a l =>
      obtain ⟨b, v, k, t, m, ks⟩ := a
      simp only [manyLA, ATree.many] at hl ⊢
      have h1 := ih ks (by omega)
      have h2 := ih l (by omega)
      simp only [subsL, ATree.subs, List.length_append, List.length_cons, h1, h2]
 exact key _ l (Nat.le_refl _)
theorem kids_le (a : ATree) : a.kids.length ≤ a.many := by
 have key : ∀ l : List ATree, l.length ≤ manyLA l := by
  intro l
  induction l with
  | nil => simp [manyLA]
  | cons x l ih => obtain ⟨b, v, k, t, m, ks⟩ := x; simp only [List.length_cons, manyLA, ATree.many]; omega
 obtain ⟨b, v, k, t, m, ks⟩ := a
 have := key ks
 simp only [ATree.kids, ATree.many]
 omega
theorem subs_tree {w : World} {B : Nat} : ∀ {a x : ATree}, TreeAt w B a → x ∈ a.subs → TreeAt w B x := by
 have key : ∀ n, ∀ a x : ATree, a.many ≤ n → TreeAt w B a → x ∈ a.subs → TreeAt w B x := by
  intro n
  induction n with
  | zero => intro a x h; exfalso; obtain ⟨b, v, k, t, m, ks⟩ := a; simp only [ATree.many] at h; omega
  | succ n ih =>
    intro a x hn hT hx
    obtain ⟨b, v, k, t, m, ks⟩ := a
    simp only [ATree.subs, List.mem_cons] at hx
    rcases hx with rfl | hx
    ·exact hT
    ·have : ∀ l : List ATree, (∀ y ∈ l, y ∈ ks) → x ∈ subsL l → TreeAt w B x := by
      intro l
      induction l with
      | nil => intro _ h; simp [subsL] at h
      | cons y l ih2 =>
        intro hl h
        simp only [subsL, List.mem_append] at h
        rcases h with h | h
        ·have hy : y ∈ (ATree.mk b v k t m ks).kids := hl y (by simp)
         exact ih y x (by have := many_kid hy; omega) (hT.kid hy) h
        ·exact ih2 (fun z hz => hl z (List.mem_cons_of_mem _ hz)) h
     exact this ks (fun y h => h) hx
 intro a x hT hx
 exact key _ a x (Nat.le_refl _) hT hx
def textsOf (a : ATree) : List ByteArray := (subsL a.kids).map ATree.text
theorem textsOf_mem {a k x : ATree} (h : k ∈ a.kids) (hx : x ∈ k.subs) : x.text ∈ textsOf a := by
 unfold textsOf
 refine List.mem_map_of_mem ?_
 have key : ∀ l : List ATree, k ∈ l → x ∈ subsL l := by
  intro l
  induction l with
  | nil => intro h; cases h
  | cons y l ih =>
    intro h
    simp only [subsL, List.mem_append]
    rcases List.mem_cons.1 h with rfl | h
    ·exact .inl hx
    ·exact .inr (ih h)
 exact key _ h
theorem walkVa (w : World) (B : Nat) (a k : ATree) (hT : TreeAt w B a) (hm : a.many < 1099511627776) (hk : k ∈ a.kids) (l : List ByteArray) (w1 : World) (hI : VInv w w.heap.size (textsOf a) l w1) :
 Calls Tryz.prog 18 #[k.ptr, .func (.func 19) #[] #[.pointer (some ⟨w.heap.size, 0, none⟩)]] w1 fun e w' => e = .returned (.tuple #[]) ∧ VInv w w.heap.size (textsOf a) (walkA varsG k l) w' :=
 walk_Va ⟨w.heap.size, 0, none⟩ (VInv w w.heap.size (textsOf a)) varsG B k.many k (Nat.le_refl _) (fun s w1 h => h.tree (hT.kid hk) (Nat.le_refl _))
  l (fun x s hx w1 h => vars1_any w w.heap.size B (textsOf a) (by unfold textsOf; rw [List.length_map, subsL_len]; obtain ⟨b, v, kk, t, m, ks⟩ := a; simp only [ATree.many] at hm; simp only [ATree.kids]; omega) (Nat.le_refl _) x (subs_tree (hT.kid hk) hx.sub) (textsOf_mem hk hx.sub) s w1 h) w1 hI
set_option maxHeartbeats 4000000 in
theorem vars_any (w : World) (B : Nat) (a : ATree) (hT : TreeAt w B a) (hm : a.many < 1099511627776) :
 Calls Tryz.prog 7 #[a.ptr] w fun e w' => ∃ v, e = .returned v ∧ Texts w' w.heap.size v (varsF a) ∧ Below w.heap.size w w' ∧ (varsF a).length ≤ a.many := by
 have HW := lh (walkVa w B a · hT hm)
 have hmf : ∀ (fn : Fn) (first cap : Array Value) (w : World), (Instr.makeFunc fn first cap).run Tryz.prog w = .ok (.func fn first cap) w := fun _ _ _ _ => rfl
 have hblk := hT.blkOf
 obtain ⟨p, cp, hv, hge, hmx⟩ := hT.vOf
 have c3 : w.cell? ⟨a.b, 3, none⟩ = some (.slice p a.kids.length cp) := by rw [← hv]; exact hT.c3
 have hlen : a.kids.length ≤ 9223372036854775807 := by unfold maxLen at hmx; omega
 have hab := hT.lt
 have c3' : (w.alloc (.cells #[.slice none 0 0] 30)).cell? ⟨a.b, 3, none⟩ = some (.slice p a.kids.length cp) := (cell_old hab).trans c3
 have HT := lh hT
 have HV := lh hv
 have HM := lh hm
 unfold ATree.ptr
 obtain ⟨n, hnn⟩ : ∃ n, n = a.kids.length := ⟨_, rfl⟩
 rw [← hnn] at c3 hlen hge c3'
 have HN := lh hnn
 have hstart : VInv w w.heap.size (textsOf a) [] (w.alloc (.cells #[.slice none 0 0] 30)) :=
  ⟨⟨_, by rw [World.alloc]; simp, Texts.nil _ _⟩, (Below.refl _ _).alloc (Nat.le_refl _) _, List.nodup_nil, fun _ h => by cases h⟩
 have HS := lh hstart
 clear hblk hv hnn hT hstart hm
 go_enter Tryz.func7, Tryz.ntmps7
 go_wp2_with fail
 go_loopw [13] (fun i wr => ∃ (k : Nat), k ≤ n ∧ i = .int .i64 k ∧ Hid (VInv w w.heap.size (textsOf a) (walkL varsG (a.kids.take k) []) wr)) (fun i _ => n - (intOf i).toNat)
 case atStart => exact ⟨0, Nat.zero_le _, rfl, lh (by simpa [walkL] using HS.out)⟩
 case round =>
  obtain ⟨k, hk, rfl, HI⟩ := hrel
  by_cases hkn : k < n
  ·obtain ⟨x, hx⟩ : ∃ x, a.kids[k]? = some x := ⟨_, List.getElem?_eq_getElem (by rw [← HN.out]; exact hkn)⟩
   have hT2 := HI.out.tree HT.out (Nat.le_refl _)
   have hrow := hT2.rowOf
   rcases ownsRow_cases hrow with ⟨_, h2⟩ | ⟨g0, cap0, hv0, _⟩
   ·rw [← HN.out] at h2; omega
   have hp : p = some ⟨g0, 0, none⟩ := by
    have := HV.out.symm.trans hv0
    simp only [Value.slice.injEq] at this
    exact this.1
   subst hp
   have cx := ownsRow_cell1 hrow (g := g0) (by rw [hv0]; rfl) (i := k) (x := x.ptr) (by rw [List.getElem?_map, hx]; rfl)
   have hcall := HW.out x (List.mem_of_getElem? hx) _ _ HI.out
   unfold ATree.ptr at cx hcall
   have HCALL := lh hcall
   have HX := lh hx
   clear hT2 hrow hv0 hx hcall
   go_wp2_with fail
   refine HCALL.out.mono ?_
   rintro e w1 ⟨rfl, hI1⟩
   have HI1 := lh hI1
   clear hI1 HCALL
   go_wp2
   go_roundw
   case rel => exact ⟨k + 1, by omega, by go_num, lh (by rw [take_succ_kid HX.out, walkL_snoc]; exact HI1.out)⟩
   case measure => simp [intOf]; omega
  ·have hk2 : k = n := by omega
   subst hk2
   obtain ⟨v, hb, htx⟩ := HI.out.cell
   have cc : wr.cell? ⟨w.heap.size, 0, none⟩ = some v := by simp [World.cell?, hb]
   have HTX := lh htx
   clear hb htx
   go_wp2
   go_ret
   have hall : walkL varsG (a.kids.take k) [] = varsF a := by rw [List.take_of_length_le (by rw [← HN.out]; exact Nat.le_refl _)]; rfl
   rw [← hall]
   refine ⟨_, rfl, HTX.out.base (Nat.le_succ _), HI.out.bel, ?_⟩
   have := nodup_len _ _ HI.out.nd HI.out.sub
   refine Nat.le_trans this ?_
   unfold textsOf
   rw [List.length_map, subsL_len]
   obtain ⟨b, v, kk, t, m, ks⟩ := a
   simp only [ATree.many, ATree.kids]
   omega
def addsL (l : List ByteArray) (ks : List ATree) : List ByteArray := ks.foldl (fun l k => addL l k.text) l
theorem addsL_snoc (l : List ByteArray) (ks : List ATree) (k : ATree) : addsL l (ks ++ [k]) = addL (addsL l ks) k.text := by simp [addsL, List.foldl_append]
theorem addsL_len (l : List ByteArray) (ks : List ATree) : (addsL l ks).length ≤ l.length + ks.length := by
 induction ks generalizing l with
 | nil => simp [addsL]
 | cons k ks ih =>
   have h1 := ih (addL l k.text)
   have h2 := addL_len l k.text
   simp only [addsL, List.foldl_cons, List.length_cons] at h1 ⊢
   omega
def namesF (body : Bool) (a : ATree) : List ByteArray := addsL (addsL (if body then varsF a else []) (a.kids.filter isFunc)) (a.kids.filter isLet)
theorem Nodes.far {w w' : World} {B B' : Nat} {v v' : Value} {l : List ATree} {ks : List ByteArray} (h : Nodes w B v l) (ht : Texts w B' v' ks) (hf : ∀ k, k < w.heap.size → v'.ownBlock ≠ some k → w'.heap[k]? = w.heap[k]?) : Nodes w' B v l := by
 refine ownsRow_block h fun k hk => hf k (World.ownsRow.lt h k hk).2 fun e => ?_
 obtain ⟨c1, f1, h1⟩ := Lib.ownsRow_kind h k hk
 obtain ⟨c2, f2, h2⟩ := Lib.ownsRow_kind ht k e
 rw [h1] at h2
 simp only [Option.some.injEq, Obj.cells.injEq] at h2
 exact absurd h2.2.1 (by decide)
set_option maxHeartbeats 4000000 in
theorem names_true (w : World) (B0 : Nat) (a : ATree) (hT : TreeAt w B0 a) (hm : a.many < 274877906944) :
 Calls Tryz.prog 13 #[a.ptr, .bool true] w fun e w' => ∃ v, e = .returned v ∧ Texts w' w.heap.size v (namesF true a) ∧ Below w.heap.size w w' := by
 have hkl := kids_le a
 have HT := lh hT
 have hfu : (a.kids.filter isFunc).length ≤ a.kids.length := List.length_filter_le _ _
 have hle : (a.kids.filter isLet).length ≤ a.kids.length := List.length_filter_le _ _
 have hfk : ∀ x, x ∈ a.kids.filter isFunc → x ∈ a.kids := fun x hx => (List.mem_filter.1 hx).1
 have hlk : ∀ x, x ∈ a.kids.filter isLet → x ∈ a.kids := fun x hx => (List.mem_filter.1 hx).1
 have HFK := lh hfk
 have HLK := lh hlk
 have hF := fun (w' : World) (h : TreeAt w' B0 a) => funcs_any w' B0 a h (by omega)
 have hL := fun (w' : World) (h : TreeAt w' B0 a) => lets_any w' B0 a h (by omega)
 obtain ⟨P, hP⟩ : ∃ P, P = a.kids.filter isFunc := ⟨_, rfl⟩
 obtain ⟨Q, hQ⟩ : ∃ Q, Q = a.kids.filter isLet := ⟨_, rfl⟩
 unfold namesF
 simp only [if_true]
 rw [← hP] at hfu HFK
 rw [← hQ] at hle HLK
 simp only [← hP] at hF
 simp only [← hQ] at hL
 rw [← hP, ← hQ]
 clear hP hQ hfk hlk hT
 have HF := lh hF
 have HL := lh hL
 clear hF hL
 have hV := vars_any w B0 a HT.out (by omega)
 obtain ⟨l0, hl0⟩ : ∃ l, l = varsF a := ⟨_, rfl⟩
 rw [← hl0] at hV ⊢
 have HV := lh hV
 clear hV hl0
 unfold ATree.ptr at HF HL HV ⊢
 go_enter Tryz.func13, Tryz.ntmps13
 go_wp2_with fail
 refine HV.out.mono ?_
 rintro e w1 ⟨v1, rfl, ht1, hb1, hl1⟩
 have TX1 := lh ht1
 have HB1 := lh hb1
 clear HV ht1 hb1
 go_wp2_with fail
 refine (HF.out w1 (HT.out.bel HB1.out)).mono ?_
 rintro e w2 ⟨v2, rfl, hn2, hb2⟩
 obtain ⟨p2, cp2, rfl, hge2, hmx2⟩ : ∃ p cp, v2 = .slice p P.length cp ∧ P.length ≤ cp ∧ cp ≤ maxLen := by
  rcases hn2.form with ⟨h1, h2⟩ | ⟨g, cap, h1, h2, h3⟩
  ·exact ⟨none, 0, by rw [h1, h2]; rfl, by rw [h2]; exact Nat.le_refl _, by unfold maxLen; omega⟩
  ·exact ⟨_, _, h1, h2, h3⟩
 have TX2 := lh (TX1.out.bel hb2)
 have HB2 := lh (HB1.out.trans (hb2.mono HB1.out.size))
 have N2 := lh hn2
 obtain ⟨m, hm1⟩ : ∃ m, m = P.length := ⟨_, rfl⟩
 have hmq : m ≤ 9223372036854775807 := by unfold maxLen at hmx2; omega
 rw [← hm1] at hge2 N2 hfu ⊢
 have HM1 := lh hm1
 clear hn2 hb2 hm1 TX1 HB1
 go_wp2_with fail
 go_loopw [5, 16] (fun v i wr => ∃ (k : Nat) (v' : Value), v' = v ∧ k ≤ m ∧ i = .int .i64 k ∧ Hid (Texts wr w.heap.size v' (addsL l0 (P.take k))) ∧ Hid (Nodes wr w1.heap.size (.slice p2 m cp2) P) ∧ Hid (Below w.heap.size w wr)) (fun _ i _ => m - (intOf i).toNat)
 case atStart => exact ⟨0, _, rfl, Nat.zero_le _, rfl, TX2, N2, HB2⟩
 case round =>
  obtain ⟨k, v, rfl, hk, rfl, TX, NO, HB⟩ := hrel
  clear TX2 N2 HB2
  by_cases hkn : k < m
  ·obtain ⟨x, hx⟩ : ∃ x, P[k]? = some x := ⟨_, List.getElem?_eq_getElem (by rw [← HM1.out]; exact hkn)⟩
   obtain ⟨g0, hp⟩ : ∃ g, p2 = some ⟨g, 0, none⟩ := by
    rcases NO.out.form with ⟨h1, h2⟩ | ⟨g, cap, h1, _⟩
    ·rw [h2] at hx; simp at hx
    ·simp only [Value.slice.injEq] at h1; exact ⟨g, h1.1⟩
   subst hp
   have cx := NO.out.cell rfl hx
   have hTx := (HT.out.bel HB.out).kid (HFK.out x (List.mem_of_getElem? hx))
   have c1 := hTx.c1
   have hln : (addsL l0 (P.take k)).length < 1099511627776 := by
    have := addsL_len l0 (P.take k)
    have h3 : (P.take k).length ≤ k := by simp; omega
    have h4 := HM1.out
    omega
   have HA := lh (add_far wr w.heap.size v _ x.text TX.out HB.out.size hln)
   have HX := lh hx
   clear hTx hx hln
   go_wp2_with fail
   refine HA.out.mono ?_
   rintro e w3 ⟨v3, rfl, ht3, hb3, hf3⟩
   have hsn : addsL l0 (P.take (k + 1)) = addL (addsL l0 (P.take k)) x.text := by rw [take_succ_kid HX.out, addsL_snoc]
   have TX3 : Hid (Texts w3 w.heap.size v3 (addsL l0 (P.take (k + 1)))) := lh (by rw [hsn]; exact ht3)
   have N3 := lh (NO.out.far TX.out hf3)
   have HB3 := lh (HB.out.trans hb3)
   clear HA ht3 hb3 hf3 hsn
   go_wp2
   go_roundw
   case rel => exact ⟨k + 1, _, rfl, by omega, by go_num, TX3, N3, HB3⟩
   case measure => simp [intOf]; omega
  ·have hk2 : k = m := by omega
   subst hk2
   have hend : Texts wr w.heap.size v (addsL l0 P) := by
    have := TX.out
    rwa [List.take_of_length_le (by rw [← HM1.out]; exact Nat.le_refl _)] at this
   have TX3 := lh hend
   have hl3 := addsL_len l0 P
   obtain ⟨l1, hl1⟩ : ∃ l, l = addsL l0 P := ⟨_, rfl⟩
   rw [← hl1] at TX3 hl3
   have HL1 := lh hl1
   clear hend TX NO hl1
   go_wp2_with fail
   refine (HL.out wr (HT.out.bel HB.out)).mono ?_
   rintro e w4 ⟨v4, rfl, hn4, hb4⟩
   obtain ⟨p4, cp4, rfl, hge4, hmx4⟩ : ∃ p cp, v4 = .slice p Q.length cp ∧ Q.length ≤ cp ∧ cp ≤ maxLen := by
    rcases hn4.form with ⟨h1, h2⟩ | ⟨g, cap, h1, h2, h3⟩
    ·exact ⟨none, 0, by rw [h1, h2]; rfl, by rw [h2]; exact Nat.le_refl _, by unfold maxLen; omega⟩
    ·exact ⟨_, _, h1, h2, h3⟩
   have TX4 := lh (TX3.out.bel hb4)
   have HB4 := lh (HB.out.trans (hb4.mono HB.out.size))
   have N4 := lh hn4
   obtain ⟨q, hq1⟩ : ∃ q, q = Q.length := ⟨_, rfl⟩
   have hqq : q ≤ 9223372036854775807 := by unfold maxLen at hmx4; omega
   rw [← hq1] at hge4 N4 hle ⊢
   have HQ1 := lh hq1
   clear hn4 hb4 hq1 TX3 HB
   obtain ⟨bb, hbb⟩ : ∃ b, b = wr.heap.size := ⟨_, rfl⟩
   rw [← hbb] at N4
   clear hbb
   go_wp2_with fail
   go_loopw [5, 30] (fun v i wr => ∃ (k : Nat) (v' : Value), v' = v ∧ k ≤ q ∧ i = .int .i64 k ∧ Hid (Texts wr w.heap.size v' (addsL l1 (Q.take k))) ∧ Hid (Nodes wr bb (.slice p4 q cp4) Q) ∧ Hid (Below w.heap.size w wr)) (fun _ i _ => q - (intOf i).toNat)
   case atStart => exact ⟨0, _, rfl, Nat.zero_le _, rfl, TX4, N4, HB4⟩
   case round =>
    obtain ⟨k, v, rfl, hk, rfl, TX, NO, HB⟩ := hrel
    clear TX4 N4 HB4
    by_cases hkn : k < q
    ·obtain ⟨x, hx⟩ : ∃ x, Q[k]? = some x := ⟨_, List.getElem?_eq_getElem (by rw [← HQ1.out]; exact hkn)⟩
     obtain ⟨g0, hp⟩ : ∃ g, p4 = some ⟨g, 0, none⟩ := by
      rcases NO.out.form with ⟨h1, h2⟩ | ⟨g, cap, h1, _⟩
      ·rw [h2] at hx; simp at hx
      ·simp only [Value.slice.injEq] at h1; exact ⟨g, h1.1⟩
     subst hp
     have cx := NO.out.cell rfl hx
     have hTx := (HT.out.bel HB.out).kid (HLK.out x (List.mem_of_getElem? hx))
     have c1 := hTx.c1
     have hln : (addsL l1 (Q.take k)).length < 1099511627776 := by
      have := addsL_len l1 (Q.take k)
      have h3 : (Q.take k).length ≤ k := by simp; omega
      have h4 := HM1.out
      omega
     have HA := lh (add_far wr w.heap.size v _ x.text TX.out HB.out.size hln)
     have HX := lh hx
     clear hTx hx hln
     go_wp2_with fail
     refine HA.out.mono ?_
     rintro e w3 ⟨v3, rfl, ht3, hb3, hf3⟩
     have hsn : addsL l1 (Q.take (k + 1)) = addL (addsL l1 (Q.take k)) x.text := by rw [take_succ_kid HX.out, addsL_snoc]
     have TX3 : Hid (Texts w3 w.heap.size v3 (addsL l1 (Q.take (k + 1)))) := lh (by rw [hsn]; exact ht3)
     have N3 := lh (NO.out.far TX.out hf3)
     have HB3 := lh (HB.out.trans hb3)
     clear HA ht3 hb3 hf3 hsn
     go_wp2
     go_roundw
     case rel => exact ⟨k + 1, _, rfl, by omega, by go_num, TX3, N3, HB3⟩
     case measure => simp [intOf]; omega
    ·have hk2 : k = q := by omega
     subst hk2
     have hend : Texts wr w.heap.size v (addsL l1 Q) := by
      have := TX.out
      rwa [List.take_of_length_le (by rw [← HQ1.out]; exact Nat.le_refl _)] at this
     have TX5 := lh hend
     clear hend TX
     go_wp2
     go_ret
     rw [← HL1.out]
     exact ⟨_, rfl, TX5.out, HB.out⟩
set_option maxHeartbeats 4000000 in
theorem names_false (w : World) (B0 : Nat) (a : ATree) (hT : TreeAt w B0 a) (hm : a.many < 274877906944) :
 Calls Tryz.prog 13 #[a.ptr, .bool false] w fun e w' => ∃ v, e = .returned v ∧ Texts w' w.heap.size v (namesF false a) ∧ Below w.heap.size w w' := by
 have hkl := kids_le a
 have HT := lh hT
 have hfu : (a.kids.filter isFunc).length ≤ a.kids.length := List.length_filter_le _ _
 have hle : (a.kids.filter isLet).length ≤ a.kids.length := List.length_filter_le _ _
 have hfk : ∀ x, x ∈ a.kids.filter isFunc → x ∈ a.kids := fun x hx => (List.mem_filter.1 hx).1
 have hlk : ∀ x, x ∈ a.kids.filter isLet → x ∈ a.kids := fun x hx => (List.mem_filter.1 hx).1
 have HFK := lh hfk
 have HLK := lh hlk
 have hF := fun (w' : World) (h : TreeAt w' B0 a) => funcs_any w' B0 a h (by omega)
 have hL := fun (w' : World) (h : TreeAt w' B0 a) => lets_any w' B0 a h (by omega)
 obtain ⟨P, hP⟩ : ∃ P, P = a.kids.filter isFunc := ⟨_, rfl⟩
 obtain ⟨Q, hQ⟩ : ∃ Q, Q = a.kids.filter isLet := ⟨_, rfl⟩
 unfold namesF
 simp only [Bool.false_eq_true, if_false]
 rw [← hP] at hfu HFK
 rw [← hQ] at hle HLK
 simp only [← hP] at hF
 simp only [← hQ] at hL
 rw [← hP, ← hQ]
 clear hP hQ hfk hlk hT
 have HF := lh hF
 have HL := lh hL
 clear hF hL
 obtain ⟨l0, hl0⟩ : ∃ l : List ByteArray, l = [] := ⟨_, rfl⟩
 have hl1 : l0.length ≤ a.many := by rw [hl0]; exact Nat.zero_le _
 have TX1 : Hid (Texts w w.heap.size (.slice none 0 0) l0) := lh (by rw [hl0]; exact Texts.nil _ _)
 rw [← hl0]
 have HB1 := lh (Below.refl w.heap.size w)
 clear hl0
 unfold ATree.ptr at HF HL ⊢
 go_enter Tryz.func13, Tryz.ntmps13
 go_wp2_with fail
 refine (HF.out w (HT.out.bel HB1.out)).mono ?_
 rintro e w2 ⟨v2, rfl, hn2, hb2⟩
 obtain ⟨p2, cp2, rfl, hge2, hmx2⟩ : ∃ p cp, v2 = .slice p P.length cp ∧ P.length ≤ cp ∧ cp ≤ maxLen := by
  rcases hn2.form with ⟨h1, h2⟩ | ⟨g, cap, h1, h2, h3⟩
  ·exact ⟨none, 0, by rw [h1, h2]; rfl, by rw [h2]; exact Nat.le_refl _, by unfold maxLen; omega⟩
  ·exact ⟨_, _, h1, h2, h3⟩
 have TX2 := lh (TX1.out.bel hb2)
 have HB2 := lh (HB1.out.trans (hb2.mono HB1.out.size))
 have N2 := lh hn2
 obtain ⟨m, hm1⟩ : ∃ m, m = P.length := ⟨_, rfl⟩
 have hmq : m ≤ 9223372036854775807 := by unfold maxLen at hmx2; omega
 rw [← hm1] at hge2 N2 hfu ⊢
 have HM1 := lh hm1
 clear hn2 hb2 hm1 TX1 HB1
 go_wp2_with fail
 go_loopw [5, 16] (fun v i wr => ∃ (k : Nat) (v' : Value), v' = v ∧ k ≤ m ∧ i = .int .i64 k ∧ Hid (Texts wr w.heap.size v' (addsL l0 (P.take k))) ∧ Hid (Nodes wr w.heap.size (.slice p2 m cp2) P) ∧ Hid (Below w.heap.size w wr)) (fun _ i _ => m - (intOf i).toNat)
 case atStart => exact ⟨0, _, rfl, Nat.zero_le _, rfl, TX2, N2, HB2⟩
 case round =>
  obtain ⟨k, v, rfl, hk, rfl, TX, NO, HB⟩ := hrel
  clear TX2 N2 HB2
  by_cases hkn : k < m
  ·obtain ⟨x, hx⟩ : ∃ x, P[k]? = some x := ⟨_, List.getElem?_eq_getElem (by rw [← HM1.out]; exact hkn)⟩
   obtain ⟨g0, hp⟩ : ∃ g, p2 = some ⟨g, 0, none⟩ := by
    rcases NO.out.form with ⟨h1, h2⟩ | ⟨g, cap, h1, _⟩
    ·rw [h2] at hx; simp at hx
    ·simp only [Value.slice.injEq] at h1; exact ⟨g, h1.1⟩
   subst hp
   have cx := NO.out.cell rfl hx
   have hTx := (HT.out.bel HB.out).kid (HFK.out x (List.mem_of_getElem? hx))
   have c1 := hTx.c1
   have hln : (addsL l0 (P.take k)).length < 1099511627776 := by
    have := addsL_len l0 (P.take k)
    have h3 : (P.take k).length ≤ k := by simp; omega
    have h4 := HM1.out
    omega
   have HA := lh (add_far wr w.heap.size v _ x.text TX.out HB.out.size hln)
   have HX := lh hx
   clear hTx hx hln
   go_wp2_with fail
   refine HA.out.mono ?_
   rintro e w3 ⟨v3, rfl, ht3, hb3, hf3⟩
   have hsn : addsL l0 (P.take (k + 1)) = addL (addsL l0 (P.take k)) x.text := by rw [take_succ_kid HX.out, addsL_snoc]
   have TX3 : Hid (Texts w3 w.heap.size v3 (addsL l0 (P.take (k + 1)))) := lh (by rw [hsn]; exact ht3)
   have N3 := lh (NO.out.far TX.out hf3)
   have HB3 := lh (HB.out.trans hb3)
   clear HA ht3 hb3 hf3 hsn
   go_wp2
   go_roundw
   case rel => exact ⟨k + 1, _, rfl, by omega, by go_num, TX3, N3, HB3⟩
   case measure => simp [intOf]; omega
  ·have hk2 : k = m := by omega
   subst hk2
   have hend : Texts wr w.heap.size v (addsL l0 P) := by
    have := TX.out
    rwa [List.take_of_length_le (by rw [← HM1.out]; exact Nat.le_refl _)] at this
   have TX3 := lh hend
   have hl3 := addsL_len l0 P
   obtain ⟨l1, hl1⟩ : ∃ l, l = addsL l0 P := ⟨_, rfl⟩
   rw [← hl1] at TX3 hl3
   have HL1 := lh hl1
   clear hend TX NO hl1
   go_wp2_with fail
   refine (HL.out wr (HT.out.bel HB.out)).mono ?_
   rintro e w4 ⟨v4, rfl, hn4, hb4⟩
   obtain ⟨p4, cp4, rfl, hge4, hmx4⟩ : ∃ p cp, v4 = .slice p Q.length cp ∧ Q.length ≤ cp ∧ cp ≤ maxLen := by
    rcases hn4.form with ⟨h1, h2⟩ | ⟨g, cap, h1, h2, h3⟩
    ·exact ⟨none, 0, by rw [h1, h2]; rfl, by rw [h2]; exact Nat.le_refl _, by unfold maxLen; omega⟩
    ·exact ⟨_, _, h1, h2, h3⟩
   have TX4 := lh (TX3.out.bel hb4)
   have HB4 := lh (HB.out.trans (hb4.mono HB.out.size))
   have N4 := lh hn4
   obtain ⟨q, hq1⟩ : ∃ q, q = Q.length := ⟨_, rfl⟩
   have hqq : q ≤ 9223372036854775807 := by unfold maxLen at hmx4; omega
   rw [← hq1] at hge4 N4 hle ⊢
   have HQ1 := lh hq1
   clear hn4 hb4 hq1 TX3 HB
   obtain ⟨bb, hbb⟩ : ∃ b, b = wr.heap.size := ⟨_, rfl⟩
   rw [← hbb] at N4
   clear hbb
   go_wp2_with fail
   go_loopw [5, 30] (fun v i wr => ∃ (k : Nat) (v' : Value), v' = v ∧ k ≤ q ∧ i = .int .i64 k ∧ Hid (Texts wr w.heap.size v' (addsL l1 (Q.take k))) ∧ Hid (Nodes wr bb (.slice p4 q cp4) Q) ∧ Hid (Below w.heap.size w wr)) (fun _ i _ => q - (intOf i).toNat)
   case atStart => exact ⟨0, _, rfl, Nat.zero_le _, rfl, TX4, N4, HB4⟩
   case round =>
    obtain ⟨k, v, rfl, hk, rfl, TX, NO, HB⟩ := hrel
    clear TX4 N4 HB4
    by_cases hkn : k < q
    ·obtain ⟨x, hx⟩ : ∃ x, Q[k]? = some x := ⟨_, List.getElem?_eq_getElem (by rw [← HQ1.out]; exact hkn)⟩
     obtain ⟨g0, hp⟩ : ∃ g, p4 = some ⟨g, 0, none⟩ := by
      rcases NO.out.form with ⟨h1, h2⟩ | ⟨g, cap, h1, _⟩
      ·rw [h2] at hx; simp at hx
      ·simp only [Value.slice.injEq] at h1; exact ⟨g, h1.1⟩
     subst hp
     have cx := NO.out.cell rfl hx
     have hTx := (HT.out.bel HB.out).kid (HLK.out x (List.mem_of_getElem? hx))
     have c1 := hTx.c1
     have hln : (addsL l1 (Q.take k)).length < 1099511627776 := by
      have := addsL_len l1 (Q.take k)
      have h3 : (Q.take k).length ≤ k := by simp; omega
      have h4 := HM1.out
      omega
     have HA := lh (add_far wr w.heap.size v _ x.text TX.out HB.out.size hln)
     have HX := lh hx
     clear hTx hx hln
     go_wp2_with fail
     refine HA.out.mono ?_
     rintro e w3 ⟨v3, rfl, ht3, hb3, hf3⟩
     have hsn : addsL l1 (Q.take (k + 1)) = addL (addsL l1 (Q.take k)) x.text := by rw [take_succ_kid HX.out, addsL_snoc]
     have TX3 : Hid (Texts w3 w.heap.size v3 (addsL l1 (Q.take (k + 1)))) := lh (by rw [hsn]; exact ht3)
     have N3 := lh (NO.out.far TX.out hf3)
     have HB3 := lh (HB.out.trans hb3)
     clear HA ht3 hb3 hf3 hsn
     go_wp2
     go_roundw
     case rel => exact ⟨k + 1, _, rfl, by omega, by go_num, TX3, N3, HB3⟩
     case measure => simp [intOf]; omega
    ·have hk2 : k = q := by omega
     subst hk2
     have hend : Texts wr w.heap.size v (addsL l1 Q) := by
      have := TX.out
      rwa [List.take_of_length_le (by rw [← HQ1.out]; exact Nat.le_refl _)] at this
     have TX5 := lh hend
     clear hend TX
     go_wp2
     go_ret
     rw [← HL1.out]
     exact ⟨_, rfl, TX5.out, HB.out⟩
end Go.Proofs.YtfappndicnneoaaGreatDoor
namespace Go.Proofs.YtfappndicnneoaaGreatDoor
open Go Go.RowKit Go.ChangeMaps Go.MapKept
set_option maxRecDepth 100000
set_option linter.unusedVariables false
def nodeP (b : Nat) : Value := .pointer (some ⟨b, 0, none⟩)
def Cells (w : World) (k : Nat) : Prop := ∃ c t, w.heap[k]? = some (.cells c t (0, 0))
def PMap (w : World) (b : Nat) (l : List (Nat × Nat)) : Prop :=
 ∃ es clock, w.heap[b]? = some (.map es clock) ∧ es.toList.map (fun e => (e.key, e.val)) = l.map (fun x => (nodeP x.1, Value.int .i64 x.2))
theorem PMap.len {w : World} {b : Nat} {l : List (Nat × Nat)} (h : PMap w b l) : ∃ es clock, w.heap[b]? = some (.map es clock) ∧ es.size = l.length := by
 obtain ⟨es, clock, hb, he⟩ := h
 refine ⟨es, clock, hb, ?_⟩
 have := congrArg List.length he
 simpa using this
end Go.Proofs.YtfappndicnneoaaGreatDoor
namespace Go.Proofs.YtfappndicnneoaaGreatDoor
open Go Go.RowKit
set_option maxRecDepth 100000
set_option linter.unusedVariables false
theorem subsL_app (l m : List ATree) : subsL (l ++ m) = subsL l ++ subsL m := by
 induction l with
 | nil => rfl
 | cons a l ih => simp only [List.cons_append, subsL, ih, List.append_assoc]
theorem subs_eq (a : ATree) : a.subs = a :: subsL a.kids := by cases a; rfl
theorem Cells.bel {w0 w : World} {k : Nat} (h : Cells w0 k) (g : Below w0.heap.size w0 w) : Cells w k := by
 obtain ⟨c, t, h⟩ := h
 exact ⟨c, t, (g.block k (Array.getElem?_eq_some_iff.1 h).1).trans h⟩
theorem TreeAt.cellsOf {w : World} {B : Nat} {a : ATree} (h : TreeAt w B a) : Cells w a.b := ⟨_, _, h.blkOf⟩
theorem subs_length (a : ATree) : a.subs.length = a.many := by
 obtain ⟨b, v, k, t, n, ks⟩ := a
 simp only [ATree.subs, ATree.many, List.length_cons, subsL_len]
end Go.Proofs.YtfappndicnneoaaGreatDoor
