/- The law AlphaOwns, walked. What a listed variable gives a walk: rows of texts. What a listed variable gives a walk: an array of rows of texts, second on the list. -/
import Derived.Test.YtgmnfgljkocnpaaGreatDoorJ01
import Derived.Test.YtgmnfgljkocnpaaGreatDoorJ50
import Derived.Test.YtgmnfgljkocnpaaGreatDoorProg
import Derived.Lib.LaidTab
import Derived.LaidMore
import Derived.Stop.Joined
import Derived.WalkKit
namespace Go.Proofs.YtgmnfgljkocnpaaGreatDoor
open Go Go.RowKit
set_option maxRecDepth 100000
set_option maxHeartbeats 20000000
set_option linter.unusedVariables false
theorem Za9 (w : World) (text : ByteArray) (n : Int) (hW : Words w) (hL : Z3e w w.heap.size) (hR : Z68 w) (hF : Z69 w) :
 Calls Tryz.prog 3 #[.string text, .int .i64 n] w fun e w' => e = .returned (.bool true) ∧ Below w.heap.size w w' := by
 have HB := Zgt w text hW hL hR hF;cases hr : Z0n text with
 | error x =>
   rw [hr] at HB;have HB := lh HB;clear hr hW hL hR hF;go_enter Tryz.func3, Tryz.ntmps3
   go_wp2_with fail
   refine HB.out.mono ?_;rintro e w1 ⟨hb, rfl⟩;have BEL := lh hb;clear hb HB;go_wp2;go_ret;exact ⟨rfl, BEL.out⟩
 | ok t =>
   rw [hr] at HB;have HMN := lh (Z6x hr);have HWT := lh (Z94 hr);have HB := lh HB;clear hr hW hL hR hF;go_enter Tryz.func3, Tryz.ntmps3
   go_wp2_with fail
   refine HB.out.mono ?_;rintro e w1 ⟨hb, a, b, rfl, hA, hG⟩;have A1 := lh hA;have G1 := lh hG;have B1 := lh hb;have HTE := lh (hA.tree.trans hG.tree.symm);have hma : a.many ≤ 1500 := by have := Z2t (a := a); rw [hA.tree] at this; have := HMN.out; omega
   have hmb : b.many ≤ 1500 := by have := Z2t (a := b); rw [hG.tree] at this; have := HMN.out; omega
   have HMA := lh hma;have HMB := lh hmb;have HO1 := lh (Zgw w1 _ a n hA.at' hA.apart hma (by rw [hA.tree]; exact HWT.out));unfold ATree.ptr at HO1 ⊢;clear hb hA hG HB hma hmb;go_wp2_with fail
   refine HO1.out.mono ?_;rintro e w2 ⟨v2, rfl, ht2, hb2⟩;have A2 := lh (A1.out.belowG hb2);have G2 := lh (G1.out.belowG hb2);have B2 := lh (B1.out.trans (hb2.mono B1.out.size));have T2 := lh ht2;have HO2 := lh (Zge w2 _ b n G2.out.at' G2.out.apart HMB.out (by rw [G2.out.tree]; exact HWT.out));rw [← Zg7 HTE.out] at HO2;unfold ATree.ptr at HO2;obtain ⟨L, hLL⟩ : ∃ L, L = (Z4i a n).1 := ⟨_, rfl⟩
   obtain ⟨R, hRR⟩ : ∃ R, R = (Z4i a n).2 := ⟨_, rfl⟩
   rw [← hLL] at T2 HO2;rw [← hRR] at HO2 ⊢;clear ht2 hb2 HO1 hLL hRR;go_wp2_with fail
   refine HO2.out.mono ?_;rintro e w3 ⟨v3, rfl, ht3, hb3⟩;have A3 := lh (A2.out.belowG hb3);have G3 := lh (G2.out.belowG hb3);have B3 := lh (B2.out.trans (hb3.mono B2.out.size));have HS3 := lh (Za5 w3 _ _ v2 v3 L (T2.out.bel hb3) ht3);have hrr : (R == R) = true := by simp
   clear ht3 hb3 HO2 T2;go_wp2_with fail
   refine HS3.out.mono ?_;rintro e w4 ⟨rfl, hb4⟩;have A4 := lh (A3.out.belowG hb4);have G4 := lh (G3.out.belowG hb4);have B4 := lh (B3.out.trans (hb4.mono B3.out.size));have HC4 := lh (Zgo _ a (Nat.le_refl _) (by have := HMA.out; omega) w4 _ A4.out.at');unfold ATree.ptr at HC4;clear hb4 HS3;go_wp2_with fail
   refine HC4.out.mono ?_;rintro e w5 ⟨c, rfl, hC, hb5⟩;have G5 := lh (G4.out.belowG hb5);have B5 := lh (B4.out.trans (hb5.mono B4.out.size));have hmc : c.many ≤ 1500 := by have h1 := Z2t (a := c); rw [hC.tree, Z2t] at h1; have := HMA.out; omega
   have HS5 := lh (Zct _ c b (Nat.le_refl _) (by omega) (hC.tree.trans HTE.out) w5 _ _ hC.at' G5.out.at');unfold ATree.ptr at HS5;clear hb5 hC HC4 hmc;go_wp2_with fail
   refine HS5.out.mono ?_;rintro e w6 ⟨rfl, hb6⟩;have B6 := lh (B5.out.trans (hb6.mono B5.out.size));have HN6 := lh (Zh8 w6);clear hb6 HS5;go_wp2_with fail
   refine HN6.out.mono ?_;rintro e w7 ⟨rfl, hb7⟩;have B7 := lh (B6.out.trans (hb7.mono B6.out.size));clear hb7 HN6;go_wp2;go_ret;exact ⟨rfl, B7.out⟩
end Go.Proofs.YtgmnfgljkocnpaaGreatDoor
namespace Go.Proofs.YtgmnfgljkocnpaaGreatDoor
open Go Go.RowKit
set_option maxRecDepth 100000
set_option maxHeartbeats 20000000
theorem Z97 {H : Type} {enc : TypeId × Value → H} {P : Program} {w : World} {base : Nat} {sp : Nat → Bool} {held : Bool} {fuel : Nat} {t e : TypeId} {n : Nat} {cs : List Value} {l : List (List UInt8)} {p : List MemPlace}
 (ht : P.underlying t = some (.array n e)) (he : P.underlying e = some .string) (hce : P.cellsOf e = 1) (hct : P.cellsOf t = n)
 (h : DataW.trod enc P w base sp held fuel t cs = some (.agg (l.map fun b => .lit (.string b)), p)) : cs = l.map fun b => Value.string ⟨b.toArray⟩ := by
 cases fuel with
 | zero => simp [DataW.trod] at h
 | succ fuel =>
   simp only [DataW.trod, ht, hce, hct, Nat.mul_one] at h;split at h
   ·rename_i hl;obtain ⟨xs, hm, hx⟩ := Option.map_eq_some_iff.1 h;have hxs : xs.map (·.1) = l.map fun b => (DataW.lit (.string b) : DataW H) := by
     have := congrArg Prod.fst hx;simpa using this
    have hxl : xs.length = n := by simpa using Lib.mapM_length hm
    have hzl : l.length = n := by
     have := congrArg List.length hxs;simp at this;omega
    apply List.ext_getElem?;intro i;by_cases hi : i < n
    ·obtain ⟨b, hb, hf⟩ := Lib.mapM_at hm i i (by simp [hi]);obtain ⟨s, hc, rfl, _⟩ := DataW.trod_string he hf;have h1 : cs[i]? = some (.string s) := by
      have := congrArg (·[0]?) hc;simpa [List.getElem?_take, List.getElem?_drop] using this
     have h2 : (xs.map (·.1))[i]? = some (DataW.lit (.string s.data.toList) : DataW H) := by simp [hb]
     rw [hxs] at h2;simp only [List.getElem?_map, Option.map_eq_some_iff, DataW.lit.injEq, Lit.string.injEq] at h2;obtain ⟨z', hz', hzz⟩ := h2;simp only [h1, List.getElem?_map, hz', Option.map_some, hzz]
    ·rw [List.getElem?_eq_none (by omega), List.getElem?_eq_none (by simp; omega)]
   ·cases h
theorem Zf0 {H : Type} {enc : TypeId × Value → H} {P : Program} {w : World} {base : Nat} {sp : Nat → Bool} {held : Bool} {fuel : Nat} {e : TypeId} {v : Value} {b : List UInt8} {q : List MemPlace} (he : P.underlying e = some .string)
 (h : DataW.trod enc P w base sp held fuel e [v] = some (.lit (.string b), q)) : v = .string ⟨b.toArray⟩ := by
 obtain ⟨s, hc, hx, _⟩ := DataW.trod_string he h;simp only [List.cons.injEq, and_true] at hc;simp only [Prod.mk.injEq, DataW.lit.injEq, Lit.string.injEq] at hx;rw [hc, hx.1]
theorem Za2 {P : Program} {W : World} {name : String} {d : DataW Unit} {rest : List (String × DataW Unit)} {g : Nat} {t e : TypeId} {n : Nat} {l : List (List UInt8)}
 (hg : P.globalNamed name = some g) (hty : (P.globals[g]?).map (·.type) = some t) (ht : P.underlying t = some (.array n e)) (he : P.underlying e = some .string) (hce : P.cellsOf e = 1) (hct : P.cellsOf t = n)
 (hd : d = .agg (l.map fun b => .lit (.string b))) (h : laidMet P ((name, d) :: rest) W) (i : Nat) (b : List UInt8) (hi : l[i]? = some b) : W.cell? ⟨g, i, none⟩ = some (.string ⟨b.toArray⟩) := by
 obtain ⟨ps, ⟨g', t', cs, fuel, p, q, hg', ht', hvar, hd', _, _⟩, _⟩ := h;obtain rfl := Option.some.inj (hg.symm.trans hg');obtain rfl := Option.some.inj (hty.symm.trans ht');rw [hd] at hd';have hc := Z97 ht he hce hct hd';have := World.var?_cell hg hvar i;rw [this];have hx : cs = (l.map fun b => Value.string ⟨b.toArray⟩).toArray := by rw [← hc]
 rw [hx];simp [hi]
theorem Zbi {P : Program} {W : World} {name : String} {d : DataW Unit} {rest : List (String × DataW Unit)} {g : Nat} {t e : TypeId} {l : List (List UInt8)}
 (hg : P.globalNamed name = some g) (hty : (P.globals[g]?).map (·.type) = some t) (ht : P.underlying t = some (.slice e)) (he : P.underlying e = some .string) (hce : P.cellsOf e = 1)
 (hd : d = .slice (l.map fun b => .lit (.string b)) []) (hl : 0 < l.length) (h : laidMet P ((name, d) :: rest) W) :
 ∃ b off cap, W.cell? ⟨g, 0, none⟩ = some (.slice (some ⟨b, off, none⟩) l.length cap) ∧ l.length ≤ cap ∧ ∀ i x, l[i]? = some x → W.cell? ⟨b, off + i, none⟩ = some (.string ⟨x.toArray⟩) := by
 obtain ⟨ps, ⟨g', t', cs, fuel, p, q, hg', ht', hvar, hd', _, _⟩, _⟩ := h;obtain rfl := Option.some.inj (hg.symm.trans hg');obtain rfl := Option.some.inj (hty.symm.trans ht');rw [hd] at hd';obtain ⟨a, cap, hcs, hcap, hel⟩ := open_row ht hce hd';rw [List.length_map] at hcs hcap;obtain ⟨b, off, spot⟩ := a;have hspot : spot = none := by
  obtain ⟨x, hx⟩ : ∃ x, l[0]? = some x := ⟨l[0], List.getElem?_eq_getElem hl⟩
  obtain ⟨v, n, q, hc, _⟩ := hel 0 _ (by rw [List.getElem?_map, hx]; rfl);simpa [Addr.add] using World.cell?_spot hc
 subst hspot;refine ⟨b, off, cap, ?_, hcap, fun i x hx => ?_⟩
 ·have := World.var?_cell hg hvar 0;rw [Array.eq_one_of_toList hcs] at this;simpa using this
 ·obtain ⟨v, n, q, hc, hr⟩ := hel i _ (by rw [List.getElem?_map, hx]; rfl);rw [Zf0 he hr] at hc;rwa [show ((⟨b, off, none⟩ : Addr).add i) = ⟨b, off + i, none⟩ by unfold Addr.add; split <;> simp_all] at hc
theorem Zia {H : Type} {enc : TypeId × Value → H} {P : Program} {w : World} {base : Nat} {sp : Nat → Bool} {held : Bool} {fuel : Nat} {t e : TypeId} {n : Nat} {cs : List Value} {l : List (DataW H)} {p : List MemPlace}
 (ht : P.underlying t = some (.array n e)) (hce : P.cellsOf e = 1) (hct : P.cellsOf t = n)
 (h : DataW.trod enc P w base sp held fuel t cs = some (.agg l, p)) (i : Nat) (r : DataW H) (hi : l[i]? = some r) :
 ∃ fuel' q, DataW.trod enc P w base sp held fuel' e ((cs.drop i).take 1) = some (r, q) := by
 cases fuel with
 | zero => simp [DataW.trod] at h
 | succ fuel =>
   simp only [DataW.trod, ht, hce, hct, Nat.mul_one] at h;split at h
   ·rename_i hl;obtain ⟨xs, hm, hx⟩ := Option.map_eq_some_iff.1 h;have hxs : xs.map (·.1) = l := by
     have := congrArg Prod.fst hx;simpa using this
    have hxl : xs.length = n := by simpa using Lib.mapM_length hm
    have hin : i < n := by
     have h1 := (List.getElem?_eq_some_iff.1 hi).1;rw [← hxs, List.length_map] at h1;omega
    obtain ⟨b, hb, hf⟩ := Lib.mapM_at hm i i (by simp [hin]);have h2 : (xs.map (·.1))[i]? = some b.1 := by simp [hb]
    rw [hxs, hi] at h2;exact ⟨fuel, b.2, by rw [Option.some.inj h2]; exact hf⟩
   ·cases h
theorem Z96 {P : Program} {W : World} {n1 name : String} {d1 d : DataW Unit} {rest : List (String × DataW Unit)} {g : Nat} {t e f : TypeId} {n : Nat} {l : List (List (List UInt8))}
 (hg : P.globalNamed name = some g) (hty : (P.globals[g]?).map (·.type) = some t) (ht : P.underlying t = some (.array n e)) (he : P.underlying e = some (.slice f)) (hf : P.underlying f = some .string)
 (hce : P.cellsOf e = 1) (hcf : P.cellsOf f = 1) (hct : P.cellsOf t = n)
 (hd : d = .agg (l.map fun r => .slice (r.map fun b => .lit (.string b)) [])) (h : laidMet P ((n1, d1) :: (name, d) :: rest) W) (i : Nat) (r : List (List UInt8)) (hi : l[i]? = some r) (hr : 0 < r.length) :
 ∃ b off cap, W.cell? ⟨g, i, none⟩ = some (.slice (some ⟨b, off, none⟩) r.length cap) ∧ r.length ≤ cap ∧ ∀ j x, r[j]? = some x → W.cell? ⟨b, off + j, none⟩ = some (.string ⟨x.toArray⟩) := by
 obtain ⟨ps, ⟨_, _, _, _, _, _, _, _, _, _, h2, _⟩, _⟩ := h;obtain ⟨g', t', cs, fuel, p, q, hg', ht', hvar, hd', _, _⟩ := h2;obtain rfl := Option.some.inj (hg.symm.trans hg');obtain rfl := Option.some.inj (hty.symm.trans ht');rw [hd] at hd';obtain ⟨fuel', q', hrow⟩ := Zia ht hce hct hd' i (.slice (r.map fun b => .lit (.string b)) []) (by rw [List.getElem?_map, hi]; rfl);obtain ⟨a, cap, hcs, hcap, hel⟩ := open_row he hcf hrow;rw [List.length_map] at hcs hcap;have hcell : W.cell? ⟨g, i, none⟩ = some (.slice (some a) r.length cap) := by
  rw [World.var?_cell hg hvar i];have := congrArg (·[0]?) hcs;simpa [List.getElem?_take, List.getElem?_drop] using this
 obtain ⟨b, off, spot⟩ := a;have hspot : spot = none := by
  obtain ⟨x, hx⟩ : ∃ x, r[0]? = some x := ⟨r[0], List.getElem?_eq_getElem hr⟩
  obtain ⟨v, n, q, hc, _⟩ := hel 0 _ (by rw [List.getElem?_map, hx]; rfl);simpa [Addr.add] using World.cell?_spot hc
 subst hspot;refine ⟨b, off, cap, hcell, hcap, fun j x hx => ?_⟩;obtain ⟨v, n, q, hc, hr⟩ := hel j _ (by rw [List.getElem?_map, hx]; rfl);rw [Zf0 hf hr] at hc;rwa [show ((⟨b, off, none⟩ : Addr).add j) = ⟨b, off + j, none⟩ by unfold Addr.add; split <;> simp_all] at hc
end Go.Proofs.YtgmnfgljkocnpaaGreatDoor
