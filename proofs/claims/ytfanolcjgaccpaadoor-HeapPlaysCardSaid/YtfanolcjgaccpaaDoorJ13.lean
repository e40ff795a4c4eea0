/- Walks of the reference's heap that change it: Put. A heap's names are apart, and its values numbers: plainly. Walks of the reference's heap that change it: Cut. -/
import Derived.Test.YtfanolcjgaccpaaDoorJ12
import Derived.Test.YtfanolcjgaccpaaDoorJ07
import Derived.Test.YtfanolcjgaccpaaDoorJ10
namespace Go.Proofs.YtfanolcjgaccpaaDoor
open Go Go.RowKit
set_option maxRecDepth 100000
set_option linter.unusedVariables false

theorem Tryd.infoRProp : (Tryd.prog.info? 91).map (fun i => (i.zero, i.size, i.bytes)) = some (some (.agg #[.string ⟨#[]⟩, .int .i64 0, .bool false]), 3, 32) := by kernel_rfl

/-- a row's value, whatever it is -/
theorem ownsRow_any {w : World} {base : Nat} {e : TypeId} {m : Nat} {v : Value} {n : Nat} {xs : List Value} (h : w.ownsRow base e m v n xs) :
    ∃ a c, v = .slice a n c ∧ ∀ k, k < n → ∃ g, a = some ⟨g, 0, none⟩ ∧ n ≤ c ∧ c ≤ 9223372036854775807 ∧ g < w.heap.size := by
  rcases ownsRow_cases h with ⟨hv, hz⟩ | ⟨g, c, hv, h1, h2, h3⟩
  · exact ⟨none, 0, by rw [hv, hz], fun k hk => by omega⟩
  · exact ⟨_, c, hv, fun k hk => ⟨g, rfl, h1, by unfold maxLen at h2; omega, h3⟩⟩

section
variable {w : World} {rb : Nat} {V : RV} {H : LHeap}

set_option maxHeartbeats 3200000 in
theorem rput_any (h : RAt w rb V H) (n : Int) (name : ByteArray) (v : LVal) (fixed : Bool) (hlen : ∀ (m : Nat) (o : LObj), H.objects[m]? = some o → o.props.length < 1099511627776) :
    Calls Tryd.prog 9 #[.pointer (some ⟨rb, 0, none⟩), .int .i64 n, .string name, .int .i64 v.n, .bool fixed] w fun e w' => e = .returned (.int .i64 (H.put n name v fixed).2) ∧
      ∃ V', RAt w' rb V' (H.put n name v fixed).1 ∧ RFr V V' rb w w' := by
  obtain ⟨vk, vn, vs⟩ := v
  dsimp only
  have HC := Lib.hid (robject_any h n)
  rcases hob : H.object? n with _ | o
  · rw [hob] at HC
    have hd : H.put n name ⟨vk, vn, vs⟩ fixed = (H, 7) := by simp [LHeap.put, hob]
    rw [hd]
    have HH := Lib.hid h
    clear h hob hlen hd
    go_enter Tryd.func9, Tryd.ntmps9
    go_wp2_with fail
    refine HC.out.mono ?_
    rintro e w1 ⟨rfl, rfl⟩
    go_wp2
    go_ret
    exact ⟨rfl, V, HH.out, RFr.refl _ _ _⟩
  · rw [hob] at HC
    obtain ⟨m, rfl, hm⟩ := LHeap.object?_some hob
    have hln := hlen m o hm
    obtain ⟨g, c, d0, hvp, d1, d2, d3, d4⟩ := h.objAt hm
    have hown := h.prp m o hm
    obtain ⟨a1, c1, hv, ha⟩ := ownsRow_any hown
    have hfp := ownsRow_frozen h.rowP (g := g) (by rw [hvp]; rfl) m
    have hgpl : g < w.heap.size := h.live (.inr ⟨.prps, by show V.vp.ownBlock = _; rw [hvp]; rfl⟩)
    have hrb := h.rbLt
    have hngp : (V.row (.prp m)).ownBlock ≠ some g := fun e => absurd (h.apart (.prp m) .prps g e (by show V.vp.ownBlock = _; rw [hvp]; rfl)) (by simp)
    have hnrb := h.off (.prp m)
    have hcell := fun k p x j (hp : o.props[k]? = some p) (g1 : Nat) (e : a1 = some ⟨g1, 0, none⟩) => row_cell (f := LProp.rcells) (m := 3) (fun _ => rfl) hown (g := g1) (by rw [hv, e]; rfl) (i := k) (j := j) (x := x) hp
    have hfrz := fun (g1 : Nat) (e : a1 = some ⟨g1, 0, none⟩) j => ownsRow_frozen hown (g := g1) (by rw [hv, e]; rfl) j
    rw [hv] at d4
    obtain ⟨l, hl⟩ : ∃ l, l = o.props := ⟨_, rfl⟩
    rw [← hl] at hcell hln ha d4 hown hv
    obtain ⟨n, hn⟩ : ∃ n, n = l.length := ⟨_, rfl⟩
    rw [← hn] at hln ha d4 hown hv
    obtain ⟨rv, hrv⟩ : ∃ v, v = V.row (.prp m) := ⟨_, rfl⟩
    rw [← hrv] at hown hv hnrb hngp
    obtain ⟨q, hqq⟩ : ∃ v, v = H.objects.length := ⟨_, rfl⟩
    rw [← hqq] at d0 d1 d3 hvp
    have HH := Lib.hid h
    have HOB := Lib.hid hob
    have HM := Lib.hid hm
    have HL := Lib.hid hl
    have HN := Lib.hid hn
    have HA := Lib.hid ha
    have HRV := Lib.hid hrv
    have HQ := Lib.hid hqq
    have HVP := Lib.hid hvp
    have HV := Lib.hid hv
    have HO := Lib.hid hown
    have HCE := Lib.hid hcell
    have HFZ := Lib.hid hfrz
    have HNG := Lib.hid hngp
    have HNR := Lib.hid hnrb
    obtain ⟨i0, hi, hz0, hz1, hz2⟩ := info_parts Tryd.infoRProp
    clear h hob hm hl hn ha hrv hqq hvp hv hown hcell hfrz hlen hngp hnrb
    go_enter Tryd.func9, Tryd.ntmps9
    go_wp2_with fail
    refine HC.out.mono ?_
    rintro e w1 ⟨rfl, rfl⟩
    go_wp2
    go_loop [11, 24] (fun _ i => ∃ k : Nat, i = .int .i64 k ∧ k ≤ n ∧ Hid (∀ j a, j < k → l[j]? = some a → LProp.is name a = false)) (fun _ i => n - (intOf i).toNat)
    case atStart => exact ⟨0, rfl, by omega, Lib.hid fun j a hj => by omega⟩
    case round =>
      obtain ⟨k, rfl, hk, HP⟩ := hrel
      by_cases hlt : k < n
      · have hkl : k < l.length := by have := HN.out; omega
        have hget : l[k]? = some l[k] := List.getElem?_eq_getElem hkl
        generalize l[k] = b at hget
        obtain ⟨bn, ⟨bk, bm, bs⟩, brd⟩ := b
        obtain ⟨g1, ha1, e1, e2, e3⟩ := HA.out k hlt
        have cc0 : w.cell? ⟨g1, k * 3, none⟩ = some (.string bn) := HCE.out k _ _ 0 hget g1 ha1 rfl
        have cc1 : w.cell? ⟨g1, k * 3 + 1, none⟩ = some (.int .i64 bm) := HCE.out k _ _ 1 hget g1 ha1 rfl
        have ff1 : w.frozen? ⟨g1, k * 3 + 1, none⟩ = false := HFZ.out g1 ha1 _
        subst ha1
        have HG := Lib.hid hget
        clear hget hkl
        by_cases hq : sameS bn name = true
        · have hq' : (bn.toList == name.toList) = true := (toList_beq _ _).trans hq
          go_wp2
          go_ret
          have hn := HN.out
          subst hn
          have hl := HL.out
          subst hl
          have e1 : o.idx name = some k := findIdx?_some_of HP.out HG.out hq
          have hd : H.put m name ⟨vk, vn, vs⟩ fixed = ({ H with objects := H.objects.set m { o with props := o.props.set k ⟨bn, ⟨vk, vn, vs⟩, brd⟩ } }, 0) := by
            simp only [LHeap.put, HOB.out, e1, Int.toNat_natCast]
            rw [modify_set _ HG.out]
          rw [hd]
          refine ⟨rfl, ?_⟩
          have hv := HV.out
          rw [HRV.out] at hv
          exact HH.out.storeProp ⟨vk, vn, vs⟩ HM.out HG.out hv
        · have hq' : (bn.toList == name.toList) = false := (toList_beq _ _).trans (by simpa using hq)
          go_wp2
          go_round
          case rel =>
            refine ⟨k + 1, by go_num, by omega, Lib.hid fun j a hj ha => ?_⟩
            by_cases hjk : j = k
            · subst hjk
              have := HG.out.symm.trans ha
              simp only [Option.some.injEq] at this
              subst this
              simpa [LProp.is] using hq
            · exact HP.out j a (by omega) ha
          case measure => simp [intOf]; omega
      · have hkn : k = n := by omega
        subst hkn
        go_wp2_with fail
        refine wp_region_plan [(true, 0), (true, 1), (true, 2), (true, 3), (true, 4), (true, 5), (true, 6), (true, 7), (true, 8), (true, 9), (true, 10), (true, 11), (true, 12), (true, 13), (true, 14), (true, 15), (false, 16), (false, 17)] [18, 19] (fun W => W.cell? ⟨rb, 1, none⟩ = some (.slice (some ⟨g, 0, none⟩) q c) ∧ W.cell? ⟨g, m, none⟩ = some (.slice a1 k c1)) (by kernel_rfl) (by kernel_rfl) (fun _ _ d _ _ h => by cases d <;> exact h) ⟨d0, d4⟩ (fun hS0 => ?_)
        simp only [planOps, List.filterMap_cons, List.filterMap_nil, List.getElem?_toArray, List.getElem?_cons_zero, List.getElem?_cons_succ, Option.map_some]
        iterate 16
          first
            | (refine wpPlan_take ?_ (by rfl) (fun w' hS' => ?_) ?_; rotate_left; (obtain ⟨s0, s1⟩ := hS'; go_simp; first | done | with_reducible rfl); simp only [Act.put, List.setIfInBounds_toArray, List.set_cons_zero, List.set_cons_succ])
            | (refine wpPlan_skip (by rfl) ?_; simp only [Act.put, List.setIfInBounds_toArray, List.set_cons_zero, List.set_cons_succ])
        refine wpPlan_go (fun K hK => ?_)
        go_simp
        refine hK _ _ ⟨(cell_old hrb).trans d0, (cell_old hgpl).trans d4⟩ ?_
        clear hK K
        refine wpPlan_go (fun K hK => ?_)
        refine step_append_lies _ (by rfl) (.tmp 63) (.tmp 68) 89 (by rfl) 0 91 i0 _ 3 32 Tryd.underlying89 hi hz0 hz1 hz2 rfl (by decide) rv k (l.flatMap LProp.rcells) (by rw [HV.out]; rfl) ((HO.out.alloc _).drew) ⟨w.heap.size, 0, none⟩ 1 1 (LProp.rcells ⟨name, ⟨vk, vn, vs⟩, fixed⟩) (by rfl) rfl (World.news_of_block (cs := (LProp.rcells ⟨name, ⟨vk, vn, vs⟩, fixed⟩).toArray) (t := 91) (fr := (0, 0)) (heap_alloc_new w _)) (by simp [LProp.rcells, Value.oneCell']) (by decide) (by unfold maxLen; omega) (by omega) (by omega) (w.heap.size + 1) (by simp) ?_
        intro gg cap w2 hown2 hgrow2 hat2 hlt2
        have far2 : ∀ b o, b < w.heap.size → rv.ownBlock ≠ some b → w2.cell? ⟨b, o, none⟩ = w.cell? ⟨b, o, none⟩ := fun b o hb1 hb2 => (hgrow2.cell_far ⟨b, o, none⟩ (by simp; omega) (fun e => hb2 e.symm)).trans (cell_old hb1)
        have fz2 : w2.frozen? ⟨g, m, none⟩ = false := (hgrow2.frozen_far ⟨g, m, none⟩ (by simp; omega) (fun e => HNG.out e.symm)).trans ((frozen_old hgpl).trans hfp)
        have t0 := (far2 _ 1 hrb HNR.out).trans d0
        have t4 := (far2 _ m hgpl HNG.out).trans d4
        refine hK _ _ ⟨t0, t4⟩ ?_
        clear hK K
        simp only [Act.put, List.setIfInBounds_toArray, List.set_cons_zero, List.set_cons_succ]
        have HG := Lib.hid hgrow2
        have HW := Lib.hid hown2
        have HT := Lib.hid hat2
        clear hgrow2 hown2 hat2 hlt2 far2
        refine wpPlan_end ?_
        go_wp2
        go_ret
        have hn := HN.out
        subst hn
        have hl := HL.out
        subst hl
        have e1 : o.idx name = none := findIdx?_none_of HP.out
        have hd : H.put m name ⟨vk, vn, vs⟩ fixed = ({ H with objects := H.objects.set m { o with props := o.props ++ [⟨name, ⟨vk, vn, vs⟩, fixed⟩] } }, 0) := by simp only [LHeap.put, HOB.out, e1, Int.toNat_natCast]
        rw [hd]
        refine ⟨rfl, ?_⟩
        have hrv := HRV.out
        subst hrv
        have hq := HQ.out
        subst hq
        exact HH.out.pushProp (b := ⟨name, ⟨vk, vn, vs⟩, fixed⟩) HM.out HVP.out (((Below.refl _ _).alloc (Nat.le_refl _) _).drew) HG.out HW.out (HT.out.imp id (fun e => by omega))
end
end Go.Proofs.YtfanolcjgaccpaaDoor

namespace Go.Proofs.YtfanolcjgaccpaaDoor
open Go Go.RowKit
set_option maxRecDepth 100000
set_option linter.unusedVariables false

def NumV (v : LVal) : Prop := v.kind = 3 ∧ v.s = ⟨#[]⟩
def ApartN {α : Type} (f : α → ByteArray) (l : List α) : Prop := (l.map f).Pairwise (· ≠ ·)
structure GoodP (n : Nat) (l : List LProp) : Prop where
  len : l.length ≤ n
  num : ∀ p ∈ l, NumV p.v ∧ p.name.size ≤ 20
  uniq : ApartN LProp.name l
structure GoodB (n : Nat) (l : List LBind) : Prop where
  len : l.length ≤ n
  num : ∀ p ∈ l, NumV p.v
  uniq : ApartN LBind.name l
structure LHeap.Good (H : LHeap) (n : Nat) : Prop where
  wf : H.WF
  no : H.objects.length ≤ n
  ns : H.scopes.length ≤ n
  po : ∀ (i : Nat) o, H.objects[i]? = some o → GoodP n o.props
  ps : ∀ (i : Nat) s, H.scopes[i]? = some s → GoodB n s.names

section
variable {α : Type} {f : α → ByteArray} {l : List α} {name : ByteArray} {k : Nat}
theorem ApartN.at (h : ApartN f l) {i j : Nat} {a b : α} (hi : l[i]? = some a) (hj : l[j]? = some b) (he : f a = f b) : i = j := by
  have hil := getElem?_lt hi
  have hjl := getElem?_lt hj
  have hp := List.pairwise_iff_getElem.1 h
  have e1 : f a = (l.map f)[i]'(by simpa using hil) := by
    rw [List.getElem_map]; congr 1
    rw [List.getElem?_eq_getElem hil] at hi; exact (Option.some.inj hi).symm
  have e2 : f b = (l.map f)[j]'(by simpa using hjl) := by
    rw [List.getElem_map]; congr 1
    rw [List.getElem?_eq_getElem hjl] at hj; exact (Option.some.inj hj).symm
  rcases Nat.lt_trichotomy i j with h' | h' | h'
  · exact absurd (e1.symm.trans (he.trans e2)) (hp i j (by simpa using hil) (by simpa using hjl) h')
  · exact h'
  · exact absurd (e2.symm.trans (he.symm.trans e1)) (hp j i (by simpa using hjl) (by simpa using hil) h')
theorem ApartN.find (h : ApartN f l) {a : α} (hk : l[k]? = some a) (ha : sameS (f a) name = true) : l.findIdx? (fun x => sameS (f x) name) = some k :=
  findIdx?_some_of (fun j b hj hb => by
    cases e : sameS (f b) name with
    | false => rfl
    | true =>
      have := h.at hb hk ((sameS_iff.1 e).trans (sameS_iff.1 ha).symm)
      omega) hk ha
theorem filter_none (h : l.findIdx? (fun x => sameS (f x) name) = none) : l.filter (fun x => !sameS (f x) name) = l := by
  rw [List.filter_eq_self]
  intro a ha
  have := List.findIdx?_eq_none_iff.1 h a ha
  simp [this]
theorem filter_erase (hu : ApartN f l) (hk : l.findIdx? (fun x => sameS (f x) name) = some k) : l.filter (fun x => !sameS (f x) name) = l.eraseIdx k := by
  induction l generalizing k with
  | nil => simp at hk
  | cons a l ih =>
    have hu' : ApartN f l := (List.pairwise_cons.1 hu).2
    rw [List.findIdx?_cons] at hk
    by_cases ha : sameS (f a) name = true
    · rw [if_pos ha] at hk
      cases hk
      rw [List.filter_cons_of_neg (by simp [ha]), List.eraseIdx_cons_zero, List.filter_eq_self]
      intro b hb
      cases e : sameS (f b) name with
      | false => rfl
      | true => exact absurd ((sameS_iff.1 ha).trans (sameS_iff.1 e).symm) ((List.pairwise_cons.1 hu).1 _ (List.mem_map_of_mem hb))
    · rw [if_neg ha] at hk
      cases hj : l.findIdx? (fun x => sameS (f x) name) with
      | none => rw [hj] at hk; cases hk
      | some j =>
        rw [hj] at hk
        cases hk
        rw [List.filter_cons_of_pos (by simpa using ha), List.eraseIdx_cons_succ, ih hu' hj]
theorem ApartN.sub {l' : List α} (h : ApartN f l) (hs : List.Sublist l' l) : ApartN f l' := List.Pairwise.sublist (hs.map f) h
theorem ApartN.push (h : ApartN f l) {a : α} (ha : l.findIdx? (fun x => sameS (f x) (f a)) = none) : ApartN f (l ++ [a]) := by
  unfold ApartN
  rw [List.map_append, List.pairwise_append]
  refine ⟨h, by simp, fun x hx y hy => ?_⟩
  simp only [List.map_cons, List.map_nil, List.mem_singleton] at hy
  obtain ⟨b, hb, rfl⟩ := List.mem_map.1 hx
  subst hy
  have := List.findIdx?_eq_none_iff.1 ha b hb
  intro e
  rw [sameS_iff.2 e] at this
  cases this
theorem ApartN.set (h : ApartN f l) {a b : α} (hk : l[k]? = some a) (hb : f b = f a) : ApartN f (l.set k b) := by
  unfold ApartN
  rw [List.map_set, hb]
  have : (l.map f).set k (f a) = l.map f := by
    apply List.ext_getElem?
    intro i
    rw [List.getElem?_set]
    by_cases e : k = i
    · subst e
      have := getElem?_lt hk
      rw [if_pos rfl, if_pos (by simpa using this), List.getElem?_map, hk]; rfl
    · rw [if_neg e]
  rw [this]; exact h
end

theorem GoodP.mono {n m : Nat} {l : List LProp} (h : GoodP n l) (hm : n ≤ m) : GoodP m l := ⟨Nat.le_trans h.len hm, h.num, h.uniq⟩
theorem GoodB.mono {n m : Nat} {l : List LBind} (h : GoodB n l) (hm : n ≤ m) : GoodB m l := ⟨Nat.le_trans h.len hm, h.num, h.uniq⟩
section
variable {H : LHeap} {n : Nat}
theorem LHeap.Good.mono {m : Nat} (h : H.Good n) (hm : n ≤ m) : H.Good m :=
  ⟨h.wf, Nat.le_trans h.no hm, Nat.le_trans h.ns hm, fun i o ho => (h.po i o ho).mono hm, fun i s hs => (h.ps i s hs).mono hm⟩
theorem good_empty : (⟨[], []⟩ : LHeap).Good 0 := ⟨fun i s h => by simp at h, Nat.le_refl _, Nat.le_refl _, fun i s h => by simp at h, fun i s h => by simp at h⟩
theorem getElem?_push {α : Type} {l : List α} {a b : α} {i : Nat} (h : (l ++ [a])[i]? = some b) : l[i]? = some b ∨ (i = l.length ∧ b = a) := by
  by_cases hi : i < l.length
  · rw [List.getElem?_append_left hi] at h; exact .inl h
  · have := getElem?_lt h
    simp at this
    have e : i = l.length := by omega
    subst e
    simp only [List.getElem?_append_right (Nat.le_refl _), Nat.sub_self, List.getElem?_cons_zero, Option.some.injEq] at h
    exact .inr ⟨rfl, h.symm⟩
theorem getElem?_set' {α : Type} {l : List α} {a b : α} {k i : Nat} (h : (l.set k a)[i]? = some b) : (i ≠ k ∧ l[i]? = some b) ∨ (i = k ∧ b = a) := by
  rw [List.getElem?_set] at h
  by_cases e : k = i
  · subst e
    rw [if_pos rfl] at h
    by_cases hl : k < l.length
    · rw [if_pos hl] at h; exact .inr ⟨rfl, (Option.some.inj h).symm⟩
    · rw [if_neg hl] at h; cases h
  · rw [if_neg e] at h; exact .inl ⟨Ne.symm e, h⟩

theorem LHeap.Good.object (h : H.Good n) (code : Int) : ({ H with objects := H.objects ++ [⟨[], code⟩] } : LHeap).Good (n + 1) where
  wf := h.wf
  no := by have := h.no; simp; omega
  ns := by have := h.ns; show H.scopes.length ≤ _; omega
  po i o ho := by
    rcases getElem?_push ho with a | ⟨_, rfl⟩
    · exact (h.po i o a).mono (Nat.le_succ _)
    · exact ⟨Nat.zero_le _, fun _ hp => by simp at hp, by simp [ApartN]⟩
  ps i s hs := (h.ps i s hs).mono (Nat.le_succ _)
theorem LHeap.Good.scope (h : H.Good n) {outer : Int} (object : Int) (h1 : -1 ≤ outer) (h2 : outer < H.scopes.length) : ({ H with scopes := H.scopes ++ [⟨outer, object, []⟩] } : LHeap).Good (n + 1) where
  wf i s hs := by
    rcases getElem?_push hs with a | ⟨rfl, rfl⟩
    · exact h.wf i s a
    · exact ⟨h1, h2⟩
  no := by have := h.no; show H.objects.length ≤ _; omega
  ns := by have := h.ns; simp; omega
  po i o ho := (h.po i o ho).mono (Nat.le_succ _)
  ps i s hs := by
    rcases getElem?_push hs with a | ⟨_, rfl⟩
    · exact (h.ps i s a).mono (Nat.le_succ _)
    · exact ⟨Nat.zero_le _, fun _ hp => by simp at hp, by simp [ApartN]⟩
theorem LHeap.Good.setProps (h : H.Good n) {m : Nat} {o o' : LObj} (ho : H.objects[m]? = some o) (hp : GoodP (n + 1) o'.props) : ({ H with objects := H.objects.set m o' } : LHeap).Good (n + 1) where
  wf := h.wf
  no := by have := h.no; simp; omega
  ns := by have := h.ns; show H.scopes.length ≤ _; omega
  po i q hq := by
    rcases getElem?_set' hq with ⟨_, a⟩ | ⟨_, rfl⟩
    · exact (h.po i q a).mono (Nat.le_succ _)
    · exact hp
  ps i s hs := (h.ps i s hs).mono (Nat.le_succ _)
theorem LHeap.Good.setNames (h : H.Good n) {m : Nat} {s : LScope} {l : List LBind} (hs : H.scopes[m]? = some s) (hp : GoodB (n + 1) l) : ({ H with scopes := H.scopes.set m { s with names := l } } : LHeap).Good (n + 1) where
  wf i q hq := by
    rcases getElem?_set' hq with ⟨_, a⟩ | ⟨rfl, rfl⟩
    · exact h.wf i q a
    · exact h.wf i s hs
  no := by have := h.no; show H.objects.length ≤ _; omega
  ns := by have := h.ns; simp; omega
  po i o ho := (h.po i o ho).mono (Nat.le_succ _)
  ps i q hq := by
    rcases getElem?_set' hq with ⟨_, a⟩ | ⟨_, rfl⟩
    · exact (h.ps i q a).mono (Nat.le_succ _)
    · exact hp
theorem LHeap.Good.next (h : H.Good n) : H.Good (n + 1) := h.mono (Nat.le_succ _)

theorem LHeap.Good.put (h : H.Good n) (i : Int) {name : ByteArray} {v : LVal} (fixed : Bool) (hv : NumV v) (hn : name.size ≤ 20) : (H.put i name v fixed).1.Good (n + 1) := by
  rcases hob : H.object? i with _ | o
  · simp only [LHeap.put, hob]; exact h.next
  · obtain ⟨m, rfl, hm⟩ := LHeap.object?_some hob
    have g := h.po m o hm
    rcases hk : o.idx name with _ | k
    · simp only [LHeap.put, hob, hk, Int.toNat_natCast]
      refine h.setProps hm ⟨by have := g.len; simp; omega, fun p hp => ?_, g.uniq.push hk⟩
      rcases List.mem_append.1 hp with a | a
      · exact g.num p a
      · simp only [List.mem_singleton] at a; subst a; exact ⟨hv, hn⟩
    · obtain ⟨p, hp, _⟩ := LObj.idx_some hk
      simp only [LHeap.put, hob, hk, Int.toNat_natCast]
      rw [modify_set _ hp]
      refine h.setProps hm ⟨by have := g.len; simp; omega, fun q hq => ?_, g.uniq.set hp rfl⟩
      obtain ⟨j, hj, rfl⟩ := List.getElem_of_mem hq
      rcases getElem?_set' (List.getElem?_eq_getElem hj) with ⟨_, a⟩ | ⟨_, a⟩
      · exact g.num _ (List.mem_of_getElem? a)
      · rw [a]; exact ⟨hv, (g.num _ (List.mem_of_getElem? hp)).2⟩
theorem LHeap.Good.cut (h : H.Good n) (i : Int) (name : ByteArray) : (H.cut i name).1.Good (n + 1) := by
  rcases hob : H.object? i with _ | o
  · simp only [LHeap.cut, hob]; exact h.next
  · obtain ⟨m, rfl, hm⟩ := LHeap.object?_some hob
    have g := h.po m o hm
    rcases hk : o.idx name with _ | k
    · simp only [LHeap.cut, hob, hk]; exact h.next
    · obtain ⟨p, hp, _⟩ := LObj.idx_some hk
      simp only [LHeap.cut, hob, hk, hp, Int.toNat_natCast]
      split
      · exact h.next
      · exact h.setProps hm ⟨by have := g.len; have := List.length_eraseIdx_le o.props k; simp only; omega, fun q hq => g.num q (List.mem_of_mem_eraseIdx hq), g.uniq.sub (List.eraseIdx_sublist _ _)⟩
theorem LHeap.Good.declare (h : H.Good n) (i : Int) (name : ByteArray) (kind : Int) {v : LVal} (hv : NumV v) : (H.declare i name kind v).1.Good (n + 1) := by
  rcases hob : H.scope? i with _ | s
  · simp only [LHeap.declare, hob]; exact h.next
  · obtain ⟨m, rfl, hm⟩ := LHeap.scope?_some hob
    have g := h.ps m s hm
    simp only [LHeap.declare, hob, Int.toNat_natCast]
    by_cases h0 : 0 ≤ s.object
    · rw [if_pos h0]; exact h.next
    · rw [if_neg h0]
      by_cases hh : H.has (m : Int) name = true
      · rw [if_pos hh]; exact h.next
      · rw [if_neg hh]
        rw [has_eq hob, if_pos (by omega)] at hh
        have hk : s.idx name = none := by simpa using hh
        refine h.setNames hm ⟨by have := g.len; simp; omega, fun p hp => ?_, g.uniq.push hk⟩
        rcases List.mem_append.1 hp with a | a
        · exact g.num p a
        · simp only [List.mem_singleton] at a; subst a; exact hv
theorem set_num {l : List LBind} {k : Nat} {b b' : LBind} (g : GoodB n l) (hb : l[k]? = some b) (hn : b'.name = b.name) (hv : NumV b'.v) : GoodB (n + 1) (l.set k b') := by
  refine ⟨by have := g.len; simp; omega, fun q hq => ?_, g.uniq.set hb hn⟩
  obtain ⟨j, hj, rfl⟩ := List.getElem_of_mem hq
  rcases getElem?_set' (List.getElem?_eq_getElem hj) with ⟨_, a⟩ | ⟨_, a⟩
  · exact g.num _ (List.mem_of_getElem? a)
  · rw [a]; exact hv
theorem LHeap.Good.start (h : H.Good n) (i : Int) (name : ByteArray) {v : LVal} (hv : NumV v) : (H.start i name v).1.Good (n + 1) := by
  rcases hob : H.scope? i with _ | s
  · simp only [LHeap.start, hob]; exact h.next
  · obtain ⟨m, rfl, hm⟩ := LHeap.scope?_some hob
    simp only [LHeap.start, hob, Int.toNat_natCast]
    by_cases h0 : 0 ≤ s.object
    · rw [if_pos h0]; exact h.next
    · rw [if_neg h0]
      rcases hk : s.idx name with _ | k
      · exact h.next
      · obtain ⟨b, hb, _⟩ := LScope.idx_some hk
        simp only [hb]
        exact h.setNames hm (set_num (h.ps m s hm) hb rfl hv)
theorem LHeap.Good.write (h : H.Good n) (i : Int) {name : ByteArray} {v : LVal} (hv : NumV v) (hn : name.size ≤ 20) : (H.write i name v).1.Good (n + 1) := by
  rcases hob : H.scope? i with _ | s
  · simp only [LHeap.write, hob]; exact h.next
  · obtain ⟨m, rfl, hm⟩ := LHeap.scope?_some hob
    simp only [LHeap.write, hob, Int.toNat_natCast]
    by_cases h0 : s.object < 0
    · rw [if_pos h0]
      rcases hk : s.idx name with _ | k
      · exact h.next
      · obtain ⟨b, hb, _⟩ := LScope.idx_some hk
        simp only [hb]
        split
        · exact h.next
        · split
          · exact h.next
          · split
            · exact h.next
            · exact h.setNames hm (set_num (h.ps m s hm) hb rfl hv)
    · rw [if_neg h0]
      split
      · exact h.put _ _ hv hn
      · exact h.next
theorem LHeap.Good.drop (h : H.Good n) (i : Int) (name : ByteArray) : (H.drop i name).1.Good (n + 1) := by
  rcases hob : H.scope? i with _ | s
  · simp only [LHeap.drop, hob]; exact h.next
  · obtain ⟨m, rfl, hm⟩ := LHeap.scope?_some hob
    have g := h.ps m s hm
    simp only [LHeap.drop, hob, Int.toNat_natCast]
    by_cases h0 : s.object < 0
    · rw [if_pos h0]
      rcases hk : s.idx name with _ | k
      · exact h.next
      · obtain ⟨b, hb, _⟩ := LScope.idx_some hk
        simp only [hb]
        split
        · exact h.setNames hm ⟨by have := g.len; have := List.length_filter_le (fun b => !LBind.is name b) s.names; unfold unnamed; omega, fun q hq => g.num q ((List.mem_filter.1 hq).1), g.uniq.sub (List.filter_sublist)⟩
        · exact h.next
    · rw [if_neg h0]
      split
      · exact h.cut _ _
      · exact h.next

/-! ### numbers alone -/
theorem LHeap.Good.get_num (h : H.Good n) {i : Int} {name : ByteArray} {v : LVal} (hv : H.get i name = some v) : NumV v := by
  unfold LHeap.get at hv
  rcases hob : H.object? i with _ | o
  · rw [hob] at hv; cases hv
  · rw [hob] at hv
    obtain ⟨m, rfl, hm⟩ := LHeap.object?_some hob
    rcases hk : o.idx name with _ | k
    · simp [hk] at hv
    · obtain ⟨p, hp, _⟩ := LObj.idx_some hk
      simp [hk, hp] at hv
      subst hv
      exact ((h.po m o hm).num _ (List.mem_of_getElem? hp)).1
theorem LHeap.Good.read_ok (h : H.Good n) (i : Int) (name : ByteArray) : ((H.read i name).2 = 0 → (H.read i name).1.kind = 3) ∧ ((H.read i name).2 ≠ 0 → (H.read i name).1 = LVal.zero) := by
  unfold LHeap.read
  rcases hob : H.scope? i with _ | s
  · exact ⟨fun h => by simp at h, fun _ => rfl⟩
  · obtain ⟨m, rfl, hm⟩ := LHeap.scope?_some hob
    dsimp only
    by_cases h0 : s.object < 0
    · rw [if_pos h0]
      rcases hb : ((s.idx name).bind fun k => s.names[k]?) with _ | b
      · exact ⟨fun h => by simp at h, fun _ => rfl⟩
      · dsimp only
        have : NumV b.v := by
          rcases hk : s.idx name with _ | k
          · rw [hk] at hb; cases hb
          · rw [hk] at hb
            exact (h.ps m s hm).num _ (List.mem_of_getElem? hb)
        split
        · exact ⟨fun _ => this.1, fun h => absurd rfl h⟩
        · exact ⟨fun h => by simp at h, fun _ => rfl⟩
    · rw [if_neg h0]
      rcases hg : H.get s.object name with _ | v
      · exact ⟨fun h => by simp at h, fun _ => rfl⟩
      · exact ⟨fun _ => (h.get_num hg).1, fun h => absurd rfl h⟩

/-! ### what the reference does with names that are apart -/
theorem set_self' {α : Type} {l : List α} {m : Nat} {a : α} (h : l[m]? = some a) : l.set m a = l := by
  apply List.ext_getElem?
  intro i
  rw [List.getElem?_set]
  by_cases e : m = i
  · subst e; rw [if_pos rfl, if_pos (getElem?_lt h), h]
  · rw [if_neg e]
theorem cut_false {m k : Nat} {o : LObj} {p : LProp} {name : ByteArray} (hu : ApartN LProp.name o.props) (hm : H.objects[m]? = some o) (hp : o.props[k]? = some p) (hn : LProp.is name p = true) (hf : p.fixed = true) : H.cut (m : Int) name = (H, false) := by
  have hob : H.object? (m : Int) = some o := by
    have h0 : ¬ (m : Int) < 0 := by omega
    simp only [LHeap.object?, if_neg h0, Int.toNat_natCast, hm]
  have hk : o.idx name = some k := hu.find hp hn
  simp only [LHeap.cut, hob, hk, hp, hf, if_true]
theorem cut_true {m : Nat} {o : LObj} {name : ByteArray} (hu : ApartN LProp.name o.props) (hm : H.objects[m]? = some o) (hf : ∀ (k : Nat) p, o.props[k]? = some p → LProp.is name p = true → p.fixed = false) :
    H.cut (m : Int) name = ({ H with objects := H.objects.set m { o with props := o.props.filter fun p => !LProp.is name p } }, true) := by
  have hob : H.object? (m : Int) = some o := by
    have h0 : ¬ (m : Int) < 0 := by omega
    simp only [LHeap.object?, if_neg h0, Int.toNat_natCast, hm]
  rcases hk : o.idx name with _ | k
  · simp only [LHeap.cut, hob, hk]
    rw [show (o.props.filter fun p => !LProp.is name p) = o.props from filter_none hk]
    rw [set_self' hm]
  · obtain ⟨p, hp, hn⟩ := LObj.idx_some hk
    simp only [LHeap.cut, hob, hk, hp, hf k p hp hn, Int.toNat_natCast, Bool.false_eq_true, if_false]
    rw [show (o.props.filter fun p => !LProp.is name p) = o.props.eraseIdx k from filter_erase hu hk]
theorem unnamed_erase {l : List LBind} {k : Nat} {name : ByteArray} (hu : ApartN LBind.name l) (hk : l.findIdx? (LBind.is name) = some k) : unnamed name l = l.take k ++ l.drop (k + 1) := by
  have : unnamed name l = l.eraseIdx k := filter_erase hu hk
  rw [this, List.eraseIdx_eq_take_drop_succ]
end
end Go.Proofs.YtfanolcjgaccpaaDoor

namespace Go.Proofs.YtfanolcjgaccpaaDoor
open Go Go.RowKit
set_option maxRecDepth 100000
set_option linter.unusedVariables false

theorem news_in (w : World) (o : Obj) (cs : List Value) (t : TypeId) : ∀ j u, cs[j]? = some u → ((w.alloc o).alloc (.cells cs.toArray t)).cell? ((⟨w.heap.size + 1, 0, none⟩ : Addr).add j) = some u := by
  have := World.news_of_block (cs := cs.toArray) (t := t) (fr := (0, 0)) (heap_alloc_new (w.alloc o) (.cells cs.toArray t))
  rwa [show (w.alloc o).heap.size = w.heap.size + 1 by simp] at this

section
variable {w : World} {rb : Nat} {V : RV} {H : LHeap}

def keepP (name : ByteArray) (l : List LProp) : List LProp := l.filter fun p => !LProp.is name p
theorem keepP_take {name : ByteArray} {l : List LProp} {k : Nat} {p : LProp} (h : l[k]? = some p) : keepP name (l.take (k + 1)) = keepP name (l.take k) ++ (if LProp.is name p then [] else [p]) := by
  unfold keepP
  rw [List.take_add_one, h, Option.toList_some, List.filter_append]
  congr 1
  by_cases hb : LProp.is name p = true <;> simp [hb]
theorem keepP_len (name : ByteArray) (l : List LProp) (k : Nat) : (keepP name (l.take k)).length ≤ k := by
  unfold keepP
  have h1 := List.length_filter_le (fun p => !LProp.is name p) (l.take k)
  have h2 := List.length_take_le k l
  omega

set_option maxHeartbeats 3200000 in
theorem rcut_any (h : RAt w rb V H) (n : Int) (name : ByteArray) (hu : ∀ (m : Nat) (o : LObj), H.objects[m]? = some o → ApartN LProp.name o.props ∧ o.props.length < 1099511627776) :
    Calls Tryd.prog 11 #[.pointer (some ⟨rb, 0, none⟩), .int .i64 n, .string name] w fun e w' => e = .returned (.bool (H.cut n name).2) ∧
      ∃ V', RAt w' rb V' (H.cut n name).1 ∧ RFr V V' rb w w' := by
  have HC := Lib.hid (robject_any h n)
  rcases hob : H.object? n with _ | o
  · rw [hob] at HC
    have hd : H.cut n name = (H, true) := by simp [LHeap.cut, hob]
    rw [hd]
    have HH := Lib.hid h
    clear h hob hu hd
    go_enter Tryd.func11, Tryd.ntmps11
    go_wp2_with fail
    refine HC.out.mono ?_
    rintro e w1 ⟨rfl, rfl⟩
    go_wp2
    go_ret
    exact ⟨rfl, V, HH.out, RFr.refl _ _ _⟩
  · rw [hob] at HC
    obtain ⟨m, rfl, hm⟩ := LHeap.object?_some hob
    obtain ⟨hap, hln⟩ := hu m o hm
    obtain ⟨g, c, d0, hvp, d1, d2, d3, d4⟩ := h.objAt hm
    have hown := h.prp m o hm
    obtain ⟨a1, c1, hv, ha⟩ := ownsRow_any hown
    have hfp := ownsRow_frozen h.rowP (g := g) (by rw [hvp]; rfl) m
    have hgpl : g < w.heap.size := h.live (.inr ⟨.prps, by show V.vp.ownBlock = _; rw [hvp]; rfl⟩)
    have hrb := h.rbLt
    have hcell := fun k p x j (hp : o.props[k]? = some p) (g1 : Nat) (e : a1 = some ⟨g1, 0, none⟩) => row_cell (f := LProp.rcells) (m := 3) (fun _ => rfl) hown (g := g1) (by rw [hv, e]; rfl) (i := k) (j := j) (x := x) hp
    rw [hv] at d4
    obtain ⟨l, hl⟩ : ∃ l, l = o.props := ⟨_, rfl⟩
    rw [← hl] at hcell hln ha d4 hap
    obtain ⟨n, hn⟩ : ∃ n, n = l.length := ⟨_, rfl⟩
    rw [← hn] at hln ha d4
    obtain ⟨q, hqq⟩ : ∃ v, v = H.objects.length := ⟨_, rfl⟩
    rw [← hqq] at d0 d1 d3 hvp
    have HH := Lib.hid h
    have HM := Lib.hid hm
    have HL := Lib.hid hl
    have HN := Lib.hid hn
    have HA := Lib.hid ha
    have HQ := Lib.hid hqq
    have HVP := Lib.hid hvp
    have HCE := Lib.hid hcell
    have HAP := Lib.hid hap
    obtain ⟨i0, hi, hz0, hz1, hz2⟩ := info_parts Tryd.infoRProp
    clear h hob hm hl hn ha hqq hvp hv hown hcell hu hap
    go_enter Tryd.func11, Tryd.ntmps11
    go_wp2_with fail
    refine HC.out.mono ?_
    rintro e w1 ⟨rfl, rfl⟩
    go_wp2
    go_loopw [7, 9, 22] (fun v _ i wr => ∃ k : Nat, i = .int .i64 k ∧ k ≤ n ∧ Hid (wr.ownsRow w.heap.size 91 3 v (keepP name (l.take k)).length ((keepP name (l.take k)).flatMap LProp.rcells)) ∧ Hid (Below w.heap.size w wr) ∧ Hid (∀ j p, j < k → l[j]? = some p → LProp.is name p = true → p.fixed = false)) (fun _ _ i _ => n - (intOf i).toNat)
    case atStart => exact ⟨0, rfl, by omega, Lib.hid (World.ownsRow_nil _ _ _ _), Lib.hid (Below.refl _ _), Lib.hid fun j p hj => by omega⟩
    case round =>
      obtain ⟨k, rfl, hk, HO, HB, HP⟩ := hrel
      have hB := HB.out
      have hs := hB.size
      by_cases hlt : k < n
      · have hkl : k < l.length := by have := HN.out; omega
        have hget : l[k]? = some l[k] := List.getElem?_eq_getElem hkl
        generalize l[k] = b at hget
        obtain ⟨bn, ⟨bk, bm, bs⟩, brd⟩ := b
        obtain ⟨g1, ha1, e1, e2, e3⟩ := HA.out k hlt
        have cc0 : wr.cell? ⟨g1, k * 3, none⟩ = some (.string bn) := (hB.cell (p := ⟨g1, k * 3, none⟩) e3).trans (HCE.out k _ _ 0 hget g1 ha1 rfl)
        have cc1 : wr.cell? ⟨g1, k * 3 + 1, none⟩ = some (.int .i64 bm) := (hB.cell (p := ⟨g1, k * 3 + 1, none⟩) e3).trans (HCE.out k _ _ 1 hget g1 ha1 rfl)
        have cc2 : wr.cell? ⟨g1, k * 3 + 2, none⟩ = some (.bool brd) := (hB.cell (p := ⟨g1, k * 3 + 2, none⟩) e3).trans (HCE.out k _ _ 2 hget g1 ha1 rfl)
        subst ha1
        have HG := Lib.hid hget
        have hkk := keepP_len name l k
        have hks := keepP_take (name := name) hget
        clear hget hkl hB
        by_cases hq : sameS bn name = true
        · have hq' : (bn.toList == name.toList) = true := (toList_beq _ _).trans hq
          have hq2 : (bn.toList != name.toList) = false := by simp [bne, hq']
          have hks2 : keepP name (l.take (k + 1)) = keepP name (l.take k) := by
            rw [hks, if_pos (show LProp.is name ⟨bn, ⟨bk, bm, bs⟩, brd⟩ = true from hq), List.append_nil]
          have HKS := Lib.hid hks2
          clear hks hks2
          obtain ⟨X, hX⟩ : ∃ X, X = keepP name (l.take k) := ⟨_, rfl⟩
          obtain ⟨nx, hnx⟩ : ∃ n, n = X.length := ⟨_, rfl⟩
          rw [← hX] at HO hkk
          rw [← hnx] at HO hkk
          have HX := Lib.hid hX
          have HNX := Lib.hid hnx
          clear hX hnx
          cases brd
          · go_wp2
            go_roundw
            case rel =>
              refine ⟨k + 1, by go_num, by omega, Lib.hid ?_, Lib.hid (HB.out.alloc hs _), Lib.hid fun j p hj hp hn => ?_⟩
              · rw [HKS.out, ← HX.out, ← HNX.out]
                exact HO.out.alloc _
              · by_cases hjk : j = k
                · subst hjk
                  have := HG.out.symm.trans hp
                  simp only [Option.some.injEq] at this
                  subst this
                  rfl
                · exact HP.out j p (by omega) hp hn
            case measure => simp [intOf]; omega
          · go_wp2
            go_ret
            have hl := HL.out
            subst hl
            rw [cut_false HAP.out HM.out HG.out (show LProp.is name _ = true from hq) rfl]
            exact ⟨rfl, V, HH.out.below (HB.out.alloc hs _), RFr.of_below (HB.out.alloc hs _)⟩
        · have hq' : (bn.toList == name.toList) = false := (toList_beq _ _).trans (by simpa using hq)
          have hq2 : (bn.toList != name.toList) = true := by simp [bne, hq']
          have hks2 : keepP name (l.take (k + 1)) = keepP name (l.take k) ++ [⟨bn, ⟨bk, bm, bs⟩, brd⟩] := by
            rw [hks, if_neg (show ¬ LProp.is name ⟨bn, ⟨bk, bm, bs⟩, brd⟩ = true from hq)]
          have HKS := Lib.hid hks2
          clear hks hks2
          obtain ⟨X, hX⟩ : ∃ X, X = keepP name (l.take k) := ⟨_, rfl⟩
          obtain ⟨nx, hnx⟩ : ∃ n, n = X.length := ⟨_, rfl⟩
          rw [← hX] at HO hkk
          rw [← hnx] at HO hkk
          have HX := Lib.hid hX
          have HNX := Lib.hid hnx
          clear hX hnx
          go_wp2_with (at_builtin; go_must (refine wpList_append_lies _ rfl (.tmp 38) (.tmp 40) 89 rfl w.heap.size 91 i0 _ 3 32 Tryd.underlying89 hi hz0 hz1 hz2 rfl (by decide) _ nx (X.flatMap LProp.rcells) rfl ((HO.out.alloc _).alloc _) ⟨wr.heap.size + 1, 0, none⟩ 1 1 [.string bn, .int .i64 bm, .bool brd] rfl rfl (news_in _ _ [.string bn, .int .i64 bm, .bool brd] _) (by intro u hu; simp at hu; rcases hu with rfl | rfl | rfl <;> rfl) (by omega) (by unfold maxLen; omega) (by omega) (by simp; omega) (wr.heap.size + 2) (by simp) ?_); intro g cap w2 hown2 hgrow2 hat2 hgl2; have HG2 := Lib.hid hgrow2; have HW := Lib.hid hown2; clear hgrow2 hown2 hat2 hgl2)
          go_roundw
          case rel =>
            refine ⟨k + 1, by go_num, by omega, Lib.hid ?_, Lib.hid ?_, Lib.hid fun j p hj hp hn => ?_⟩
            · rw [HKS.out, ← HX.out, List.length_append, List.flatMap_append, ← HNX.out]
              exact HW.out
            · exact ((HB.out.alloc hs _).alloc (by simp; omega) _).grown HG2.out (by simp; omega) fun j hj => (World.ownsRow.lt HO.out j hj).1
            · by_cases hjk : j = k
              · subst hjk
                have := HG.out.symm.trans hp
                simp only [Option.some.injEq] at this
                subst this
                exact absurd hn hq
              · exact HP.out j p (by omega) hp hn
          case measure => simp [intOf]; omega
      · have hkn : k = n := by omega
        subst hkn
        have t0 := (hB.cell (p := ⟨rb, 1, none⟩) hrb).trans d0
        have t4 := (hB.frozen (p := ⟨g, m, none⟩) hgpl).trans hfp
        have t5 := (hB.cell (p := ⟨g, m, none⟩) hgpl).trans d4
        clear hB
        obtain ⟨X, hX⟩ : ∃ X, X = keepP name (l.take k) := ⟨_, rfl⟩
        obtain ⟨nx, hnx⟩ : ∃ n, n = X.length := ⟨_, rfl⟩
        rw [← hX, ← hnx] at HO
        have HX := Lib.hid hX
        have HNX := Lib.hid hnx
        clear hX hnx
        obtain ⟨a9, c9, rfl⟩ := ownsRow_slice HO.out
        go_wp2
        go_ret
        have hl := HL.out
        have hn := HN.out
        have hq := HQ.out
        subst hn
        subst hl
        subst hq
        have HO1 := HO.out
        have hX := HX.out
        rw [List.take_length] at hX
        have hnx := HNX.out
        subst hnx
        subst hX
        rw [cut_true HAP.out HM.out (fun j p hp hn => HP.out j p (getElem?_lt hp) hp hn)]
        refine ⟨rfl, ?_⟩
        exact HH.out.newProps HM.out HVP.out HB.out HO1
end
end Go.Proofs.YtfanolcjgaccpaaDoor
