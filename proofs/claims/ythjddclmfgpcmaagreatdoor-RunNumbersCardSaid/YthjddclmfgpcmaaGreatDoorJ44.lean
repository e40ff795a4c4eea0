/- What a listed variable gives a walk: rows of texts. What a listed variable gives a walk: an array of rows of texts, second on the list. -/
import Derived.Test.YthjddclmfgpcmaaGreatDoorProg
import Derived.Lib.LaidTab
import Derived.LaidMore
import Derived.Stop.Joined
import Derived.WalkKit
namespace Go.Proofs.YthjddclmfgpcmaaGreatDoor
open Go Go.RowKit
set_option maxRecDepth 100000

/-- an array of texts that reads as these texts holds them, cell for cell -/
theorem cells_of_texts {H : Type} {enc : TypeId × Value → H} {P : Program} {w : World} {base : Nat} {sp : Nat → Bool} {held : Bool} {fuel : Nat} {t e : TypeId} {n : Nat} {cs : List Value} {l : List (List UInt8)} {p : List MemPlace}
 (ht : P.underlying t = some (.array n e)) (he : P.underlying e = some .string) (hce : P.cellsOf e = 1) (hct : P.cellsOf t = n)
 (h : DataW.trod enc P w base sp held fuel t cs = some (.agg (l.map fun b => .lit (.string b)), p)) : cs = l.map fun b => Value.string ⟨b.toArray⟩ := by
 cases fuel with
 | zero => simp [DataW.trod] at h
 | succ fuel =>
   simp only [DataW.trod, ht, hce, hct, Nat.mul_one] at h
   split at h
   ·rename_i hl
    obtain ⟨xs, hm, hx⟩ := Option.map_eq_some_iff.1 h
    have hxs : xs.map (·.1) = l.map fun b => (DataW.lit (.string b) : DataW H) := by
     have := congrArg Prod.fst hx
     simpa using this
    have hxl : xs.length = n := by simpa using Lib.mapM_length hm
    have hzl : l.length = n := by
     have := congrArg List.length hxs
     simp at this
     omega
    apply List.ext_getElem?
    intro i
    by_cases hi : i < n
    ·obtain ⟨b, hb, hf⟩ := Lib.mapM_at hm i i (by simp [hi])
     obtain ⟨s, hc, rfl, _⟩ := DataW.trod_string he hf
     have h1 : cs[i]? = some (.string s) := by
      have := congrArg (·[0]?) hc
      simpa [List.getElem?_take, List.getElem?_drop] using this
     have h2 : (xs.map (·.1))[i]? = some (DataW.lit (.string s.data.toList) : DataW H) := by simp [hb]
     rw [hxs] at h2
     simp only [List.getElem?_map, Option.map_eq_some_iff, DataW.lit.injEq, Lit.string.injEq] at h2
     obtain ⟨z', hz', hzz⟩ := h2
     simp only [h1, List.getElem?_map, hz', Option.map_some, hzz]
    ·rw [List.getElem?_eq_none (by omega), List.getElem?_eq_none (by simp; omega)]
   ·cases h
theorem text_of {H : Type} {enc : TypeId × Value → H} {P : Program} {w : World} {base : Nat} {sp : Nat → Bool} {held : Bool} {fuel : Nat} {e : TypeId} {v : Value} {b : List UInt8} {q : List MemPlace} (he : P.underlying e = some .string)
 (h : DataW.trod enc P w base sp held fuel e [v] = some (.lit (.string b), q)) : v = .string ⟨b.toArray⟩ := by
 obtain ⟨s, hc, hx, _⟩ := DataW.trod_string he h
 simp only [List.cons.injEq, and_true] at hc
 simp only [Prod.mk.injEq, DataW.lit.injEq, Lit.string.injEq] at hx
 rw [hc, hx.1]
/-- an array of texts that stands first on the list -/
theorem texts_of_head {P : Program} {W : World} {name : String} {d : DataW Unit} {rest : List (String × DataW Unit)} {g : Nat} {t e : TypeId} {n : Nat} {l : List (List UInt8)}
 (hg : P.globalNamed name = some g) (hty : (P.globals[g]?).map (·.type) = some t) (ht : P.underlying t = some (.array n e)) (he : P.underlying e = some .string) (hce : P.cellsOf e = 1) (hct : P.cellsOf t = n)
 (hd : d = .agg (l.map fun b => .lit (.string b))) (h : laidMet P ((name, d) :: rest) W) (i : Nat) (b : List UInt8) (hi : l[i]? = some b) : W.cell? ⟨g, i, none⟩ = some (.string ⟨b.toArray⟩) := by
 obtain ⟨ps, ⟨g', t', cs, fuel, p, q, hg', ht', hvar, hd', _, _⟩, _⟩ := h
 obtain rfl := Option.some.inj (hg.symm.trans hg')
 obtain rfl := Option.some.inj (hty.symm.trans ht')
 rw [hd] at hd'
 have hc := cells_of_texts ht he hce hct hd'
 have := World.var?_cell hg hvar i
 rw [this]
 have hx : cs = (l.map fun b => Value.string ⟨b.toArray⟩).toArray := by rw [← hc]
 rw [hx]
 simp [hi]
/-- a slice of texts that stands first on the list -/
theorem row_of_head {P : Program} {W : World} {name : String} {d : DataW Unit} {rest : List (String × DataW Unit)} {g : Nat} {t e : TypeId} {l : List (List UInt8)}
 (hg : P.globalNamed name = some g) (hty : (P.globals[g]?).map (·.type) = some t) (ht : P.underlying t = some (.slice e)) (he : P.underlying e = some .string) (hce : P.cellsOf e = 1)
 (hd : d = .slice (l.map fun b => .lit (.string b)) []) (hl : 0 < l.length) (h : laidMet P ((name, d) :: rest) W) :
 ∃ b off cap, W.cell? ⟨g, 0, none⟩ = some (.slice (some ⟨b, off, none⟩) l.length cap) ∧ l.length ≤ cap ∧ ∀ i x, l[i]? = some x → W.cell? ⟨b, off + i, none⟩ = some (.string ⟨x.toArray⟩) := by
 obtain ⟨ps, ⟨g', t', cs, fuel, p, q, hg', ht', hvar, hd', _, _⟩, _⟩ := h
 obtain rfl := Option.some.inj (hg.symm.trans hg')
 obtain rfl := Option.some.inj (hty.symm.trans ht')
 rw [hd] at hd'
 obtain ⟨a, cap, hcs, hcap, hel⟩ := open_row ht hce hd'
 rw [List.length_map] at hcs hcap
 obtain ⟨b, off, spot⟩ := a
 have hspot : spot = none := by
  obtain ⟨x, hx⟩ : ∃ x, l[0]? = some x := ⟨l[0], List.getElem?_eq_getElem hl⟩
  obtain ⟨v, n, q, hc, _⟩ := hel 0 _ (by rw [List.getElem?_map, hx]; rfl)
  simpa [Addr.add] using World.cell?_spot hc
 subst hspot
 refine ⟨b, off, cap, ?_, hcap, fun i x hx => ?_⟩
 ·have := World.var?_cell hg hvar 0
  rw [Array.eq_one_of_toList hcs] at this
  simpa using this
 ·obtain ⟨v, n, q, hc, hr⟩ := hel i _ (by rw [List.getElem?_map, hx]; rfl)
  rw [text_of he hr] at hc
  rwa [show ((⟨b, off, none⟩ : Addr).add i) = ⟨b, off + i, none⟩ by unfold Addr.add; split <;> simp_all] at hc
end Go.Proofs.YthjddclmfgpcmaaGreatDoor

namespace Go.Proofs.YthjddclmfgpcmaaGreatDoor
open Go Go.RowKit
set_option maxRecDepth 100000

theorem rows_at {H : Type} {enc : TypeId × Value → H} {P : Program} {w : World} {base : Nat} {sp : Nat → Bool} {held : Bool} {fuel : Nat} {t e : TypeId} {n : Nat} {cs : List Value} {l : List (DataW H)} {p : List MemPlace}
 (ht : P.underlying t = some (.array n e)) (hce : P.cellsOf e = 1) (hct : P.cellsOf t = n)
 (h : DataW.trod enc P w base sp held fuel t cs = some (.agg l, p)) (i : Nat) (r : DataW H) (hi : l[i]? = some r) :
 ∃ fuel' q, DataW.trod enc P w base sp held fuel' e ((cs.drop i).take 1) = some (r, q) := by
 cases fuel with
 | zero => simp [DataW.trod] at h
 | succ fuel =>
   simp only [DataW.trod, ht, hce, hct, Nat.mul_one] at h
   split at h
   ·rename_i hl
    obtain ⟨xs, hm, hx⟩ := Option.map_eq_some_iff.1 h
    have hxs : xs.map (·.1) = l := by
     have := congrArg Prod.fst hx
     simpa using this
    have hxl : xs.length = n := by simpa using Lib.mapM_length hm
    have hin : i < n := by
     have h1 := (List.getElem?_eq_some_iff.1 hi).1
     rw [← hxs, List.length_map] at h1
     omega
    obtain ⟨b, hb, hf⟩ := Lib.mapM_at hm i i (by simp [hin])
    have h2 : (xs.map (·.1))[i]? = some b.1 := by simp [hb]
    rw [hxs, hi] at h2
    exact ⟨fuel, b.2, by rw [Option.some.inj h2]; exact hf⟩
   ·cases h
theorem rows_of_second {P : Program} {W : World} {n1 name : String} {d1 d : DataW Unit} {rest : List (String × DataW Unit)} {g : Nat} {t e f : TypeId} {n : Nat} {l : List (List (List UInt8))}
 (hg : P.globalNamed name = some g) (hty : (P.globals[g]?).map (·.type) = some t) (ht : P.underlying t = some (.array n e)) (he : P.underlying e = some (.slice f)) (hf : P.underlying f = some .string)
 (hce : P.cellsOf e = 1) (hcf : P.cellsOf f = 1) (hct : P.cellsOf t = n)
 (hd : d = .agg (l.map fun r => .slice (r.map fun b => .lit (.string b)) [])) (h : laidMet P ((n1, d1) :: (name, d) :: rest) W) (i : Nat) (r : List (List UInt8)) (hi : l[i]? = some r) (hr : 0 < r.length) :
 ∃ b off cap, W.cell? ⟨g, i, none⟩ = some (.slice (some ⟨b, off, none⟩) r.length cap) ∧ r.length ≤ cap ∧ ∀ j x, r[j]? = some x → W.cell? ⟨b, off + j, none⟩ = some (.string ⟨x.toArray⟩) := by
 obtain ⟨ps, ⟨_, _, _, _, _, _, _, _, _, _, h2, _⟩, _⟩ := h
 obtain ⟨g', t', cs, fuel, p, q, hg', ht', hvar, hd', _, _⟩ := h2
 obtain rfl := Option.some.inj (hg.symm.trans hg')
 obtain rfl := Option.some.inj (hty.symm.trans ht')
 rw [hd] at hd'
 obtain ⟨fuel', q', hrow⟩ := rows_at ht hce hct hd' i (.slice (r.map fun b => .lit (.string b)) []) (by rw [List.getElem?_map, hi]; rfl)
 obtain ⟨a, cap, hcs, hcap, hel⟩ := open_row he hcf hrow
 rw [List.length_map] at hcs hcap
 have hcell : W.cell? ⟨g, i, none⟩ = some (.slice (some a) r.length cap) := by
  rw [World.var?_cell hg hvar i]
  have := congrArg (·[0]?) hcs
  simpa [List.getElem?_take, List.getElem?_drop] using this
 obtain ⟨b, off, spot⟩ := a
 have hspot : spot = none := by
  obtain ⟨x, hx⟩ : ∃ x, r[0]? = some x := ⟨r[0], List.getElem?_eq_getElem hr⟩
  obtain ⟨v, n, q, hc, _⟩ := hel 0 _ (by rw [List.getElem?_map, hx]; rfl)
  simpa [Addr.add] using World.cell?_spot hc
 subst hspot
 refine ⟨b, off, cap, hcell, hcap, fun j x hx => ?_⟩
 obtain ⟨v, n, q, hc, hr⟩ := hel j _ (by rw [List.getElem?_map, hx]; rfl)
 rw [text_of hf hr] at hc
 rwa [show ((⟨b, off, none⟩ : Addr).add j) = ⟨b, off + j, none⟩ by unfold Addr.add; split <;> simp_all] at hc
end Go.Proofs.YthjddclmfgpcmaaGreatDoor
