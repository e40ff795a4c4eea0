/- The document's reading is package tree's. -/
import Derived.Test.YtilchadbjflpgaaGreatDoorJ01
import Derived.Test.YtilchadbjflpgaaGreatDoorJ12
namespace Go.Proofs.YtilchadbjflpgaaGreatDoor
open Go Go.RowKit
set_option maxRecDepth 100000
set_option linter.unusedVariables false
theorem Stays.mk {t : Tree} {ts : List Tok} {e : Int × Nat} : Stays (some (t, ⟨ts, some e⟩)) e := ⟨t, ts, rfl⟩
theorem semi_agree {t : Tree} {ts : List Tok} (hg : Goods ts) : Agree (endT t ts) (some (t, mustR s_semi ⟨ts, none⟩)) :=
 Agree.want (m := fun σ => some (t, σ)) hg (fun hg => Agree.ok hg) fun _ _ => Stays.mk
theorem semi_err {t : Tree} {ts : List Tok} {e : Int × Nat} : Stays (some (t, mustR s_semi ⟨ts, some e⟩)) e := Stays.mk
theorem isT_text {s : ByteArray} {ts : List Tok} (h : isT s ts = true) : (hdT ts).text = s := by
 simp only [isT, Bool.and_eq_true, sameS_iff] at h
 exact h.2
theorem isT_no {s s' : ByteArray} {ts : List Tok} (h : isT s ts = true) (hn : s ≠ s') : isT s' ts = false := by
 have := isT_text h
 simp only [isT, this]
 have : sameS s s' = false := by simp [sameS, hn]
 simp [this]
theorem comma_agree {c1 c2 : Prop} [Decidable c1] [Decidable c2] {b1 b2 : Bool} {ts : List Tok} {k : List Tok → PR} {m : RS → RR} (hg : Goods ts) (h1 : c1 ↔ b1 = true) (h2 : c2 ↔ b2 = true)
 (hk : ∀ ts, ¬ c2 → Goods ts → Agree (k ts) (m ⟨ts, none⟩)) (he : ∀ ts e, Stays (m ⟨ts, some e⟩) e) :
 Agree ((if c1 then wantT s_comma ts else fun k => k ts) fun ts => if c2 then failT 4 ts else k ts) (m (fullR b2 (commaR b1 ⟨ts, none⟩))) := by
 have key : ∀ ts, Goods ts → Agree (if c2 then failT 4 ts else k ts) (m (fullR b2 ⟨ts, none⟩)) := by
  intro ts hg
  unfold fullR
  by_cases hc : c2
  ·rw [if_pos hc, h2.1 hc]; exact he _ _
  ·rw [if_neg hc]
   have : b2 = false := by cases b2; rfl; exact absurd (h2.2 rfl) hc
   rw [this]; exact hk ts hc hg
 by_cases hc : c1
 ·rw [if_pos hc, commaR, h1.1 hc]
  exact Agree.want (m := fun σ => m (fullR b2 σ)) hg (fun hg => key _ hg) fun ts e => by
   cases b2 <;> exact he _ _
 ·rw [if_neg hc]
  have : b1 = false := by cases b1; rfl; exact absurd (h1.2 rfl) hc
  rw [this]
  exact key ts hg
theorem level_fits {level : Nat} {ts : List Tok} (hg : Goods ts) : levelT level ts = if decide ((hdT ts).kind = 5) && fitsR level (hdT ts).text then signK (hdT ts).text else 0 := by
 have hG := hg.hd.1
 have h2 : ∀ {s : ByteArray}, signK s ≠ 0 → isT s ts = (decide ((hdT ts).kind = 5) && sameS (hdT ts).text s) := by
  intro s hs
  unfold isT
  by_cases ht : (hdT ts).text = s
  ·by_cases h : (hdT ts).kind = 2
   ·exact absurd (by rw [← ht]; exact hG h) hs
   ·simp [h]
  ·have : sameS (hdT ts).text s = false := by simp [sameS, ht]
   simp [this]
 have one : ∀ {s : ByteArray}, signK s ≠ 0 → (if isT s ts = true then signK s else 0) = if (decide ((hdT ts).kind = 5) && sameS (hdT ts).text s) = true then signK (hdT ts).text else 0 := by
  intro s hs
  rw [h2 hs]
  by_cases h : (decide ((hdT ts).kind = 5) && sameS (hdT ts).text s) = true
  ·rw [if_pos h, if_pos h]
   have := (Bool.and_eq_true _ _ ▸ h : _ ∧ _).2
   rw [sameS_iff.1 this]
  ·rw [if_neg h, if_neg h]
 match level with
 | 0 => exact one (s := s_or) (by decide)
 | 1 => exact one (s := s_and) (by decide)
 | 2 => exact one (s := s_same) (by decide)
 | 3 => exact one (s := s_less) (by decide)
 | 4 =>
   have e1 := one (s := s_add) (by decide)
   have e2 := one (s := s_sub) (by decide)
   show (if isT s_add ts = true then signK s_add else if isT s_sub ts = true then signK s_sub else 0) = if (decide ((hdT ts).kind = 5) && (sameS (hdT ts).text s_add || sameS (hdT ts).text s_sub)) = true then signK (hdT ts).text else 0
   by_cases h : (decide ((hdT ts).kind = 5) && sameS (hdT ts).text s_add) = true
   ·rw [if_pos (by rw [h2 (by decide)]; exact h), if_pos (by simp only [Bool.and_eq_true, Bool.or_eq_true] at h ⊢; exact ⟨h.1, .inl h.2⟩)]
    rw [sameS_iff.1 (by simp only [Bool.and_eq_true] at h; exact h.2 : sameS (hdT ts).text s_add = true)]
   ·rw [if_neg (by rw [h2 (by decide)]; exact h), e2]
    have : (decide ((hdT ts).kind = 5) && (sameS (hdT ts).text s_add || sameS (hdT ts).text s_sub)) = (decide ((hdT ts).kind = 5) && sameS (hdT ts).text s_sub) := by
     cases h5 : decide ((hdT ts).kind = 5)
     ·rfl
     ·rw [h5] at h; simp only [Bool.true_and, Bool.not_eq_true] at h; simp [h]
    rw [this]
 | 5 => exact one (s := s_mul) (by decide)
 | n + 6 => simp [levelT, fitsR]
theorem signK_fits {level : Nat} {s : ByteArray} (h : fitsR level s = true) : signK s ≠ 0 := by
 match level with
 | 0 => rw [sameS_iff.1 h]; decide
 | 1 => rw [sameS_iff.1 h]; decide
 | 2 => rw [sameS_iff.1 h]; decide
 | 3 => rw [sameS_iff.1 h]; decide
 | 4 =>
   simp only [fitsR, Bool.or_eq_true] at h
   rcases h with h | h <;> (rw [sameS_iff.1 h]; decide)
 | 5 => rw [sameS_iff.1 h]; decide
 | n + 6 => simp [fitsR] at h
theorem const_fits {ts : List Tok} (hg : Goods ts) : constT ts = if (hdT ts).kind = 2 then constK (hdT ts).text else 0 := by
 have hG := hg.hd.2
 unfold constT constK isT
 by_cases h2 : (hdT ts).kind = 2
 ·simp [h2]
 ·rw [if_neg h2]
  by_cases h5 : (hdT ts).kind = 5
  ·have := hG h5
   unfold constK at this
   simp only [h5, decide_true, Bool.true_or, Bool.true_and]
   exact this
  ·simp [h2, h5]
def declR (g : Nat) (k : Int) (d : Nat) (σ : RS) : RR :=
 if nextR s_eq (mustEq k (identR σ).2) then
  bindR (refF g .value (d + 1) (advR (mustEq k (identR σ).2))) fun x σ' => some (.mk k (identR σ).1 0 [x], mustR s_semi σ')
 else some (.mk k (identR σ).1 0 [], mustR s_semi (mustEq k (identR σ).2))
def finR (g d : Nat) (l : List Tree) (σ : RS) : RR :=
 if nextR s_finally σ then bindR (refF g (.braces false) d (advR σ)) fun c σ => tryF (l ++ [.mk 14 ByteArray.empty 0 [c]]) σ
 else tryF l σ
def catchR (g d : Nat) (b : Tree) (σ : RS) : RR :=
 if nextR s_catch σ then
  bindR (refF g (.braces false) d (mustR s_rpar (identR (mustR s_lpar (advR σ))).2)) fun c σ' => finR g d [b, .mk 13 (identR (mustR s_lpar (advR σ))).1 0 [c]] σ'
 else finR g d [b] σ
def tryR (g d : Nat) (σ : RS) : RR := bindR (refF g (.braces false) d σ) fun b σ => catchR g d b σ
structure AG (f : Nat) (d : Nat) (ts : List Tok) (g : Nat) : Prop where
 prog : ∀ acc, d = 0 → Agree (parseF f (.stmts 1 acc) d ts) (bindR (refF g (.prog acc) 0 ⟨ts, none⟩) fun l σ => some (.mk 1 (if strictL l.kids then s_strict else ByteArray.empty) 0 l.kids, σ))
 stmts : ∀ acc, Agree (parseF f (.stmts 6 acc) d ts) (bindR (refF g (.bracesL acc) d ⟨ts, none⟩) fun l σ => some (.mk 6 (if strictL l.kids then s_strict else ByteArray.empty) 0 l.kids, σ))
 block : ∀ b, Agree (parseF f (.block b) d ts) (refF g (.braces b) d ⟨ts, none⟩)
 func : ∀ k s, Agree (parseF f (.func k s) d ts) (refF g (.func k s) d ⟨ts, none⟩)
 params : ∀ acc, Agree (bindT (parseF f (.params acc) d ts) fun p ts => wantT s_rpar ts fun ts => okT p ts) (bindR (refF g (.params acc) d ⟨ts, none⟩) fun l σ => some (.mk 40 ByteArray.empty 0 l.kids, σ))
 around : Agree (parseF f .around d ts) (refF g .head d ⟨ts, none⟩)
 stmt : d ≤ 30 → Agree (parseF f .stmt d ts) (refF g .stmt d ⟨ts, none⟩)
 decl : ∀ k, Agree (bindT (parseF f (.decl k (decide (k = 4))) d ts) endT) (declR g k d ⟨ts, none⟩)
 try_ : Agree (parseF f .try_ d ts) (tryR g d ⟨ts, none⟩)
 value : Agree (parseF f .value d ts) (refF g .value (d + 1) ⟨ts, none⟩)
 assign : d ≤ 30 → Agree (parseF f .assign d ts) (refF g .value d ⟨ts, none⟩)
 bin : ∀ lv, Agree (parseF f (.bin lv) d ts) (refF g (.pairs lv) d ⟨ts, none⟩)
 binLoop : ∀ lv x, Agree (parseF f (.binLoop lv x) d ts) (refF g (.pairsL lv x) d ⟨ts, none⟩)
 unary : Agree (parseF f .unary d ts) (refF g .single d ⟨ts, none⟩)
 postfix_ : Agree (parseF f .postfix_ d ts) (bindR (refF g .first d ⟨ts, none⟩) fun x σ => refF g (.singleL x) d σ)
 postLoop : ∀ x, Agree (parseF f (.postLoop x) d ts) (refF g (.singleL x) d ⟨ts, none⟩)
 args : ∀ x out, out.length ≤ 8 → Agree (parseF f (.args (x :: out)) d ts) (bindR (refF g (.args out) d ⟨ts, none⟩) fun l σ => some (.mk 35 ByteArray.empty 0 (x :: l.kids), σ))
 primary : Agree (parseF f .primary d ts) (refF g .first d ⟨ts, none⟩)
 object : ∀ acc, Agree (parseF f (.object acc) d ts) (bindR (refF g (.props acc) d ⟨ts, none⟩) fun l σ => some (.mk 38 ByteArray.empty 0 l.kids, σ))
theorem stmt_within {f d : Nat} {ts : List Tok} {g : Nat} (h : d + 1 ≤ 30 → Agree (parseF f .stmt (d + 1) ts) (refF (g + 1) .stmt (d + 1) ⟨ts, none⟩)) : Agree (withinT d ts (parseF f .stmt (d + 1) ts)) (refF (g + 1) .stmt (d + 1) ⟨ts, none⟩) := by
 unfold withinT
 by_cases hd : 30 < d + 1
 ·rw [if_pos hd, refF, if_pos hd]; exact Agree.fail
 ·rw [if_neg hd]; exact h (by omega)
theorem stmt2_within {f d : Nat} {ts : List Tok} {g : Nat} (h : d + 1 ≤ 30 → Agree (parseF f .stmt (d + 1) ts) (refF (g + 1) .stmt (d + 1) ⟨ts, none⟩)) : Agree (withinT d ts (parseF f .stmt (d + 1) ts)) (refF (g + 2) .stmt2 d ⟨ts, none⟩) := by
 rw [refF, if_pos (show (none : Option (Int × Nat)).isNone = true from rfl)]; exact stmt_within h
theorem bindT_bindT {p : PR} {k m : Tree → List Tok → PR} : bindT (bindT p k) m = bindT p fun t ts => bindT (k t ts) m := by
 rcases p with _ | e | ⟨t, ts⟩ <;> rfl
theorem bindR_bindR (q : RR) (m n : Tree → RS → RR) : bindR (bindR q m) n = bindR q fun t σ => bindR (m t σ) n := by
 rcases q with _ | ⟨t, σ⟩ <;> rfl
theorem tryF_err (l : List Tree) (ts : List Tok) (e : Int × Nat) : Stays (tryF l ⟨ts, some e⟩) e := by
 unfold tryF
 by_cases h : l.length = 1
 ·rw [if_pos h]; exact Stays.mk
 ·rw [if_neg h]; exact Stays.mk
theorem finR_err (g d : Nat) (l : List Tree) (ts : List Tok) (e : Int × Nat) : Stays (finR g d l ⟨ts, some e⟩) e := by
 unfold finR; rw [if_neg (by simp [next_err])]; exact tryF_err ..
theorem catchR_err (g d : Nat) (b : Tree) (ts : List Tok) (e : Int × Nat) : Stays (catchR g d b ⟨ts, some e⟩) e := by
 unfold catchR; rw [if_neg (by simp [next_err])]; exact finR_err ..
theorem isT_iff {s : ByteArray} {ts : List Tok} : (isT s ts = true) ↔ nextR s ⟨ts, none⟩ = true := by rw [next_ok]
theorem Agree.isT {s : ByteArray} {ts : List Tok} {p1 p2 : PR} {q1 q2 : RR} (h1 : isT s ts = true → Agree p1 q1) (h2 : isT s ts = false → Agree p2 q2) : Agree (if isT s ts = true then p1 else p2) (if nextR s ⟨ts, none⟩ = true then q1 else q2) :=
 Agree.ite isT_iff h1 fun h => h2 (by simpa using h)
theorem bindT_name {ts : List Tok} {k : ByteArray → List Tok → PR} {m : Tree → List Tok → PR} : bindT (nameT ts k) m = nameT ts fun s ts => bindT (k s ts) m := by
 unfold nameT
 by_cases h : (hdT ts).kind = 1
 ·rw [if_pos h, if_pos h]
 ·rw [if_neg h, if_neg h]; rfl
theorem bindT_want {s : ByteArray} {ts : List Tok} {k : List Tok → PR} {m : Tree → List Tok → PR} : bindT (wantT s ts k) m = wantT s ts fun ts => bindT (k ts) m := by
 unfold wantT
 by_cases h : isT s ts = true
 ·rw [if_pos h, if_pos h]
 ·rw [if_neg h, if_neg h]; rfl
theorem comma_bind {c1 c2 : Prop} [Decidable c1] [Decidable c2] {ts : List Tok} {k : List Tok → PR} {m : Tree → List Tok → PR} :
 bindT ((if c1 then wantT s_comma ts else fun k => k ts) fun ts => if c2 then failT 4 ts else k ts) m = (if c1 then wantT s_comma ts else fun k => k ts) fun ts => if c2 then failT 4 ts else bindT (k ts) m := by
 have key : ∀ ts, bindT (if c2 then failT 4 ts else k ts) m = if c2 then failT 4 ts else bindT (k ts) m := by
  intro ts
  by_cases h : c2
  ·rw [if_pos h, if_pos h]; rfl
  ·rw [if_neg h, if_neg h]
 by_cases h : c1
 ·simp only [if_pos h]
  rw [bindT_want]
  simp only [key]
 ·simp only [if_neg h]; exact key ts
set_option maxHeartbeats 1000000 in
theorem ag_prog {f d : Nat} {ts : List Tok} {g : Nat} (hg : Goods ts) (I : ∀ {d : Nat} {ts : List Tok}, Goods ts → AG f d ts (g + 3)) (I4 : ∀ {d : Nat} {ts : List Tok}, Goods ts → AG f d ts (g + 4)) : ∀ acc, d = 0 → Agree (parseF (f + 1) (.stmts 1 acc) d ts) (bindR (refF (g + 4) (.prog acc) 0 ⟨ts, none⟩) fun l σ => some (.mk 1 (if strictL l.kids then s_strict else ByteArray.empty) 0 l.kids, σ)) := by
 have HD := hg.tail
 rintro acc rfl
 rw [parseF, refF]
 by_cases h6 : (hdT ts).kind = 6
 ·simp only [h6, if_true, decide_true, Option.isNone_none, Bool.not_true, Bool.and_false, Bool.false_eq_true, if_false, bindR]
  exact Agree.ok hg
 ·simp only [h6, if_true, decide_false, Option.isNone_none, Bool.not_false, Bool.and_true, Bool.false_eq_true, if_false]
  rw [bindR_bindR]
  exact Agree.bind (stmt_within fun h => (I (d := 0 + 1) hg).stmt h) (fun t ts hg => (I hg).prog (acc ++ [t]) rfl) fun t ts e => by rw [prog_err]; exact Stays.mk
set_option maxHeartbeats 1000000 in
theorem ag_stmts {f d : Nat} {ts : List Tok} {g : Nat} (hg : Goods ts) (I : ∀ {d : Nat} {ts : List Tok}, Goods ts → AG f d ts (g + 3)) (I4 : ∀ {d : Nat} {ts : List Tok}, Goods ts → AG f d ts (g + 4)) : ∀ acc, Agree (parseF (f + 1) (.stmts 6 acc) d ts) (bindR (refF (g + 4) (.bracesL acc) d ⟨ts, none⟩) fun l σ => some (.mk 6 (if strictL l.kids then s_strict else ByteArray.empty) 0 l.kids, σ)) := by
 have HD := hg.tail
 intro acc
 rw [parseF, refF]
 cases hb : isT s_rbrace ts
 ·rw [if_neg (by simp)]
  simp only [Option.isNone_none, next_ok, hb, Bool.not_false, Bool.and_true, if_true]
  rw [bindR_bindR]
  exact Agree.bind (stmt_within fun h => (I (d := d + 1) hg).stmt h) (fun t ts hg => (I hg).stmts (acc ++ [t])) fun t ts e => by rw [bracesL_err]; exact Stays.mk
 ·rw [if_pos (by simp)]
  simp only [Option.isNone_none, next_ok, hb, Bool.not_true, Bool.and_false, Bool.false_eq_true, if_false, bindR, Tree.kids]
  exact Agree.ok hg
set_option maxHeartbeats 1000000 in
theorem ag_block {f d : Nat} {ts : List Tok} {g : Nat} (hg : Goods ts) (I : ∀ {d : Nat} {ts : List Tok}, Goods ts → AG f d ts (g + 3)) (I4 : ∀ {d : Nat} {ts : List Tok}, Goods ts → AG f d ts (g + 4)) : ∀ b, Agree (parseF (f + 1) (.block b) d ts) (refF (g + 4) (.braces b) d ⟨ts, none⟩) := by
 have HD := hg.tail
 intro b
 rw [parseF, refF]
 refine Agree.want (m := fun σ => bindR (refF (g + 3) (.bracesL []) d σ) fun l σ => some (.mk 6 (if b && (mustR s_rbrace σ).f.isNone && strictL l.kids then s_strict else ByteArray.empty) 0 l.kids, mustR s_rbrace σ)) hg (fun hg => ?_) fun ts e => by rw [bracesL_err]; exact Stays.mk
 have h := (I (d := d) hg).stmts []
 revert h
 generalize parseF f (.stmts 6 []) d ts.tail = p
 generalize refF (g + 3) (.bracesL []) d ⟨ts.tail, none⟩ = q
 intro h
 rcases p with _ | e | ⟨t, us⟩
 ·trivial
 ·obtain ⟨t', ts', h⟩ := h
  rcases q with _ | ⟨l, σ⟩
  ·simp [bindR] at h
  ·simp only [bindR, Option.some.injEq, Prod.mk.injEq] at h
   obtain ⟨_, rfl⟩ := h
   exact Stays.mk
 ·obtain ⟨h, hg⟩ := h
  rcases q with _ | ⟨l, σ⟩
  ·simp [bindR] at h
  ·simp only [bindR, Option.some.injEq, Prod.mk.injEq] at h
   obtain ⟨rfl, rfl⟩ := h
   show Agree (wantT s_rbrace us fun ts => okT (if b = true then _ else _) ts) (some (.mk 6 (if (b && (mustR s_rbrace ⟨us, none⟩).f.isNone && strictL l.kids) = true then s_strict else ByteArray.empty) 0 l.kids, mustR s_rbrace ⟨us, none⟩))
   refine Agree.want (m := fun σ => some (.mk 6 (if (b && σ.f.isNone && strictL l.kids) = true then s_strict else ByteArray.empty) 0 l.kids, σ)) hg (fun hg => ?_) fun ts e => Stays.mk
   cases b
   ·exact Agree.ok hg
   ·simp only [Option.isNone_none, Bool.true_and, if_true]
    exact Agree.ok hg
set_option maxHeartbeats 1000000 in
theorem ag_func {f d : Nat} {ts : List Tok} {g : Nat} (hg : Goods ts) (I : ∀ {d : Nat} {ts : List Tok}, Goods ts → AG f d ts (g + 3)) (I4 : ∀ {d : Nat} {ts : List Tok}, Goods ts → AG f d ts (g + 4)) : ∀ k s, Agree (parseF (f + 1) (.func k s) d ts) (refF (g + 4) (.func k s) d ⟨ts, none⟩) := by
 have HD := hg.tail
 intro k s
 rw [parseF, refF]
 refine Agree.want (m := fun σ => bindR (refF (g + 3) (.params []) d σ) fun l σ => bindR (refF (g + 3) (.braces true) d σ) fun b σ => some (.mk k s 0 [.mk 40 ByteArray.empty 0 l.kids, b], σ)) hg (fun hg => ?_) fun ts e => by rw [params_err]; simp only [bindR]; rw [braces_err]; exact Stays.mk
 have h := (I (d := d) hg).params []
 revert h
 generalize parseF f (.params []) d ts.tail = p
 generalize refF (g + 3) (.params []) d ⟨ts.tail, none⟩ = q
 intro h
 have e0 : (fun (p : Tree) (ts : List Tok) => wantT s_rpar ts fun ts => bindT (parseF f (.block true) d ts) fun b ts => okT (.mk k s 0 [p, b]) ts) = fun p ts => bindT (wantT s_rpar ts fun ts => okT p ts) fun p ts => bindT (parseF f (.block true) d ts) fun b ts => okT (.mk k s 0 [p, b]) ts := by
  funext p ts
  unfold wantT
  by_cases hh : isT s_rpar ts = true
  ·rw [if_pos hh, if_pos hh]; rfl
  ·rw [if_neg hh, if_neg hh]; rfl
 have e1 : bindT p (fun (p : Tree) (ts : List Tok) => wantT s_rpar ts fun ts => bindT (parseF f (.block true) d ts) fun b ts => okT (.mk k s 0 [p, b]) ts) = bindT (bindT p fun p ts => wantT s_rpar ts fun ts => okT p ts) fun p ts => bindT (parseF f (.block true) d ts) fun b ts => okT (.mk k s 0 [p, b]) ts := by
  rw [e0]
  rcases p with _ | e | ⟨t, us⟩ <;> rfl
 have e2 : bindR q (fun l σ => bindR (refF (g + 3) (.braces true) d σ) fun b σ => some (.mk k s 0 [.mk 40 ByteArray.empty 0 l.kids, b], σ)) = bindR (bindR q fun l σ => some (.mk 40 ByteArray.empty 0 l.kids, σ)) fun p σ => bindR (refF (g + 3) (.braces true) d σ) fun b σ => some (.mk k s 0 [p, b], σ) := by
  rw [bindR_bindR]; rfl
 rw [e1, e2]
 exact h.bind (fun t ts hg => Agree.bind ((I hg).block true) (fun b ts hg => Agree.ok hg) fun b ts e => Stays.mk) fun t ts e => by rw [braces_err]; exact Stays.mk
set_option maxHeartbeats 1000000 in
theorem ag_params {f d : Nat} {ts : List Tok} {g : Nat} (hg : Goods ts) (I : ∀ {d : Nat} {ts : List Tok}, Goods ts → AG f d ts (g + 3)) (I4 : ∀ {d : Nat} {ts : List Tok}, Goods ts → AG f d ts (g + 4)) : ∀ acc, Agree (bindT (parseF (f + 1) (.params acc) d ts) fun p ts => wantT s_rpar ts fun ts => okT p ts) (bindR (refF (g + 4) (.params acc) d ⟨ts, none⟩) fun l σ => some (.mk 40 ByteArray.empty 0 l.kids, σ)) := by
 have HD := hg.tail
 intro acc
 rw [parseF, refF]
 cases hb : isT s_rpar ts
 ·simp only [Option.isNone_none, next_ok, hb, Bool.not_false, Bool.and_true, if_true, Bool.false_eq_true, if_false]
  rw [comma_bind]
  refine comma_agree (m := fun σ => bindR (if σ.f.isNone = true then refF (g + 3) (.params (acc ++ [.mk 23 (identR σ).1 0 []])) d (identR σ).2 else refF (g + 3) (.params acc) d σ) fun l σ => some (.mk 40 ByteArray.empty 0 l.kids, σ)) (c1 := 0 < acc.length) (c2 := acc.length = 8) hg decide_eq_true_iff.symm decide_eq_true_iff.symm (fun us _ hg => ?_) fun us e => ?_
  ·rw [if_pos (show (none : Option (Int × Nat)).isNone = true from rfl), bindT_name]
   exact Agree.name (k := fun s ts => bindT (parseF f (.params (acc ++ [.mk 23 s 0 []])) d ts) fun p ts => wantT s_rpar ts fun ts => okT p ts) (m := fun s σ => bindR (refF (g + 3) (.params (acc ++ [.mk 23 s 0 []])) d σ) fun l σ => some (.mk 40 ByteArray.empty 0 l.kids, σ)) hg (fun s hg => (I hg).params (acc ++ [.mk 23 s 0 []])) fun s ts e => by rw [params_err]; exact Stays.mk
  ·rw [if_neg (show ¬ (some e : Option (Int × Nat)).isNone = true by simp), params_err]; exact Stays.mk
 ·simp only [Option.isNone_none, next_ok, hb, Bool.not_true, Bool.and_false, if_true, Bool.false_eq_true, if_false]
  exact Agree.want (m := fun σ => some (.mk 40 ByteArray.empty 0 acc, σ)) hg (fun hg => Agree.ok hg) fun _ _ => Stays.mk
set_option maxHeartbeats 1000000 in
theorem ag_around {f d : Nat} {ts : List Tok} {g : Nat} (hg : Goods ts) (I : ∀ {d : Nat} {ts : List Tok}, Goods ts → AG f d ts (g + 3)) (I4 : ∀ {d : Nat} {ts : List Tok}, Goods ts → AG f d ts (g + 4)) : Agree (parseF (f + 1) .around d ts) (refF (g + 4) .head d ⟨ts, none⟩) := by
 have HD := hg.tail
 rw [parseF, refF]
 refine Agree.want (m := fun σ => bindR (refF (g + 3) .value (d + 1) σ) fun x σ => some (x, mustR s_rpar σ)) hg (fun hg => ?_) fun ts e => by rw [value_err]; exact Stays.mk
 exact (I hg).value.bind (fun t ts hg => Agree.want (m := fun σ => some (t, σ)) hg (fun hg => Agree.ok hg) fun _ _ => Stays.mk) fun t ts e => Stays.mk
set_option maxHeartbeats 1000000 in
theorem ag_decl {f d : Nat} {ts : List Tok} {g : Nat} (hg : Goods ts) (I : ∀ {d : Nat} {ts : List Tok}, Goods ts → AG f d ts (g + 3)) (I4 : ∀ {d : Nat} {ts : List Tok}, Goods ts → AG f d ts (g + 4)) : ∀ k, Agree (bindT (parseF (f + 1) (.decl k (decide (k = 4))) d ts) endT) (declR (g + 4) k d ⟨ts, none⟩) := by
 have HD := hg.tail
 intro k
 rw [parseF, declR]
 rw [bindT_name]
 refine Agree.name (m := fun s σ => if nextR s_eq (mustEq k σ) = true then bindR (refF (g + 4) .value (d + 1) (advR (mustEq k σ))) fun x σ' => some (.mk k s 0 [x], mustR s_semi σ') else some (.mk k s 0 [], mustR s_semi (mustEq k σ))) hg (fun s hg => ?_) fun s ts e => ?_
 ·generalize ts.tail = us at hg
  cases he : isT s_eq us
  ·by_cases hk : k = 4
   ·subst hk
    have e1 : mustEq 4 ⟨us, none⟩ = ⟨us, some (3, (hdT us).at')⟩ := by simp [mustEq, next_ok, he, failR]
    rw [if_pos (by simp), e1, if_neg (by simp [next_err])]
    exact Stays.mk
   ·have e1 : mustEq k ⟨us, none⟩ = ⟨us, none⟩ := by simp [mustEq, hk]
    rw [if_neg (by simp [hk]), if_neg (by simp), e1, if_neg (by rw [next_ok, he]; simp)]
    exact semi_agree hg
  ·have e1 : mustEq k ⟨us, none⟩ = ⟨us, none⟩ := by simp [mustEq, next_ok, he]
   rw [if_neg (by simp), if_pos rfl, e1, if_pos (by rw [next_ok, he])]
   have := (I4 hg.tail).value (d := d)
   rw [bindT_bindT]
   exact this.bind (fun x us hg => semi_agree hg) fun t ts e => semi_err
 ·have e1 : mustEq k ⟨ts, some e⟩ = ⟨ts, some e⟩ := by simp [mustEq]
  rw [e1, if_neg (by simp [next_err])]; exact Stays.mk
set_option maxHeartbeats 1000000 in
theorem ag_try_ {f d : Nat} {ts : List Tok} {g : Nat} (hg : Goods ts) (I : ∀ {d : Nat} {ts : List Tok}, Goods ts → AG f d ts (g + 3)) (I4 : ∀ {d : Nat} {ts : List Tok}, Goods ts → AG f d ts (g + 4)) : Agree (parseF (f + 1) .try_ d ts) (tryR (g + 4) d ⟨ts, none⟩) := by
 have HD := hg.tail
 rw [parseF, tryR]
 refine ((I4 hg).block false).bind (fun b us hg => ?_) fun b ts e => catchR_err ..
 have fin : ∀ (l : List Tree) us, 1 ≤ l.length → Goods us → Agree (if isT s_finally us = true then bindT (parseF f (.block false) d us.tail) fun c ts => okT (.mk 12 ByteArray.empty 0 (l ++ [.mk 14 ByteArray.empty 0 [c]])) ts else if l.length = 1 then failT 3 us else okT (.mk 12 ByteArray.empty 0 l) us) (finR (g + 4) d l ⟨us, none⟩) := by
  intro l us hl hg
  unfold finR
  refine Agree.isT (fun h => ?_) fun h => ?_
  ·exact ((I4 hg.tail).block false).bind (fun c us hg => by unfold tryF; rw [if_neg (by rw [List.length_append, List.length_singleton]; omega)]; exact Agree.ok hg) fun b ts e => tryF_err ..
  ·unfold tryF
   by_cases hl : l.length = 1
   ·rw [if_pos hl, if_pos hl]; exact Agree.fail
   ·rw [if_neg hl, if_neg hl]; exact Agree.ok hg
 unfold catchR
 refine Agree.isT (fun h => ?_) fun h => fin _ _ (by simp) hg
 refine Agree.want (m := fun σ => bindR (refF (g + 4) (.braces false) d (mustR s_rpar (identR σ).2)) fun c σ' => finR (g + 4) d [b, .mk 13 (identR σ).1 0 [c]] σ') hg.tail (fun hg => ?_) fun us e => by rw [ident_err, must_err, braces_err]; exact finR_err ..
 refine Agree.name (m := fun s σ => bindR (refF (g + 4) (.braces false) d (mustR s_rpar σ)) fun c σ' => finR (g + 4) d [b, .mk 13 s 0 [c]] σ') hg (fun s hg => ?_) fun s us e => by rw [must_err, braces_err]; exact finR_err ..
 refine Agree.want (m := fun σ => bindR (refF (g + 4) (.braces false) d σ) fun c σ' => finR (g + 4) d [b, .mk 13 s 0 [c]] σ') hg (fun hg => ?_) fun us e => by rw [braces_err]; exact finR_err ..
 exact ((I4 hg).block false).bind (fun c us hg => fin _ _ (by simp) hg) fun b ts e => finR_err ..
set_option maxHeartbeats 1000000 in
theorem ag_value {f d : Nat} {ts : List Tok} {g : Nat} (hg : Goods ts) (I : ∀ {d : Nat} {ts : List Tok}, Goods ts → AG f d ts (g + 3)) (I4 : ∀ {d : Nat} {ts : List Tok}, Goods ts → AG f d ts (g + 4)) : Agree (parseF (f + 1) .value d ts) (refF (g + 4) .value (d + 1) ⟨ts, none⟩) := by
 have HD := hg.tail
 rw [parseF]
 unfold withinT
 by_cases hd : 30 < d + 1
 ·rw [if_pos hd, refF, if_pos (show (none : Option (Int × Nat)).isNone = true from rfl), if_pos hd]; exact Agree.fail
 ·rw [if_neg hd]; exact (I4 hg).assign (by omega)
set_option maxHeartbeats 1000000 in
theorem ag_assign {f d : Nat} {ts : List Tok} {g : Nat} (hg : Goods ts) (I : ∀ {d : Nat} {ts : List Tok}, Goods ts → AG f d ts (g + 3)) (I4 : ∀ {d : Nat} {ts : List Tok}, Goods ts → AG f d ts (g + 4)) : d ≤ 30 → Agree (parseF (f + 1) .assign d ts) (refF (g + 4) .value d ⟨ts, none⟩) := by
 have HD := hg.tail
 intro hd
 rw [parseF, refF, if_pos (show (none : Option (Int × Nat)).isNone = true from rfl), if_neg (by omega)]
 refine ((I hg).bin 0).bind (fun t us hg => ?_) fun t ts e => by rw [if_neg (by simp [next_err])]; exact Stays.mk
 refine Agree.isT (fun h => ?_) fun h => Agree.ok hg
 by_cases hk : t.kind = 23 ∨ t.kind = 36
 ·rw [if_pos hk, if_pos hk]
  exact (I hg.tail).value.bind (fun y us hg => Agree.ok hg) fun t ts e => Stays.mk
 ·rw [if_neg hk, if_neg hk]
  exact Stays.mk
set_option maxHeartbeats 1000000 in
theorem ag_bin {f d : Nat} {ts : List Tok} {g : Nat} (hg : Goods ts) (I : ∀ {d : Nat} {ts : List Tok}, Goods ts → AG f d ts (g + 3)) (I4 : ∀ {d : Nat} {ts : List Tok}, Goods ts → AG f d ts (g + 4)) : ∀ lv, Agree (parseF (f + 1) (.bin lv) d ts) (refF (g + 4) (.pairs lv) d ⟨ts, none⟩) := by
 have HD := hg.tail
 intro lv
 rw [parseF, refF]
 by_cases h : 6 ≤ lv
 ·rw [if_pos h, if_pos h]; exact (I hg).unary
 ·rw [if_neg h, if_neg h]
  exact ((I hg).bin (lv + 1)).bind (fun x us hg => (I hg).binLoop lv x) fun t ts e => by rw [pairsL_err]; exact Stays.mk
set_option maxHeartbeats 1000000 in
theorem ag_binLoop {f d : Nat} {ts : List Tok} {g : Nat} (hg : Goods ts) (I : ∀ {d : Nat} {ts : List Tok}, Goods ts → AG f d ts (g + 3)) (I4 : ∀ {d : Nat} {ts : List Tok}, Goods ts → AG f d ts (g + 4)) : ∀ lv x, Agree (parseF (f + 1) (.binLoop lv x) d ts) (refF (g + 4) (.pairsL lv x) d ⟨ts, none⟩) := by
 have HD := hg.tail
 intro lv x
 rw [parseF, refF, level_fits hg]
 simp only
 cases hb : decide ((hdT ts).kind = 5) && fitsR lv (hdT ts).text
 ·rw [if_neg Bool.false_ne_true, if_pos rfl, if_neg (by rw [show ((none : Option (Int × Nat)).isNone && decide ((hdT ts).kind = 5) && fitsR lv (hdT ts).text) = (decide ((hdT ts).kind = 5) && fitsR lv (hdT ts).text) by simp, hb]; simp)]
  exact Agree.ok hg
 ·rw [if_pos rfl, if_neg (signK_fits (level := lv) (by simp only [Bool.and_eq_true] at hb; exact hb.2)), if_pos (by rw [show ((none : Option (Int × Nat)).isNone && decide ((hdT ts).kind = 5) && fitsR lv (hdT ts).text) = (decide ((hdT ts).kind = 5) && fitsR lv (hdT ts).text) by simp, hb])]
  exact ((I hg.tail).bin (lv + 1)).bind (fun y us hg => (I hg).binLoop lv _) fun t ts e => by rw [pairsL_err]; exact Stays.mk
set_option maxHeartbeats 1000000 in
theorem ag_unary {f d : Nat} {ts : List Tok} {g : Nat} (hg : Goods ts) (I : ∀ {d : Nat} {ts : List Tok}, Goods ts → AG f d ts (g + 3)) (I4 : ∀ {d : Nat} {ts : List Tok}, Goods ts → AG f d ts (g + 4)) : Agree (parseF (f + 1) .unary d ts) (refF (g + 4) .single d ⟨ts, none⟩) := by
 have HD := hg.tail
 have hu : unaryR ⟨ts, none⟩ = unaryT ts := by unfold unaryR unaryT; rw [next_ok, next_ok, next_ok]
 rw [parseF, refF, hu]
 by_cases h : unaryT ts = 0
 ·rw [if_pos h, if_neg (fun h' => h' h)]
  exact (I hg).postfix_
 ·rw [if_neg h, if_pos h]
  unfold withinT
  by_cases hd : 30 < d + 1
  ·rw [if_pos hd, if_pos hd]; exact Agree.fail
  ·rw [if_neg hd, if_neg hd]
   exact ((I HD).unary (d := d + 1)).bind (fun x us hg => Agree.ok hg) fun t ts e => Stays.mk
set_option maxHeartbeats 1000000 in
theorem ag_postfix_ {f d : Nat} {ts : List Tok} {g : Nat} (hg : Goods ts) (I : ∀ {d : Nat} {ts : List Tok}, Goods ts → AG f d ts (g + 3)) (I4 : ∀ {d : Nat} {ts : List Tok}, Goods ts → AG f d ts (g + 4)) : Agree (parseF (f + 1) .postfix_ d ts) (bindR (refF (g + 4) .first d ⟨ts, none⟩) fun x σ => refF (g + 4) (.singleL x) d σ) := by
 have HD := hg.tail
 rw [parseF]
 exact (I4 hg).primary.bind (fun x us hg => (I4 hg).postLoop x) fun t ts e => by rw [singleL_err]; exact Stays.mk
set_option maxHeartbeats 1000000 in
theorem ag_postLoop {f d : Nat} {ts : List Tok} {g : Nat} (hg : Goods ts) (I : ∀ {d : Nat} {ts : List Tok}, Goods ts → AG f d ts (g + 3)) (I4 : ∀ {d : Nat} {ts : List Tok}, Goods ts → AG f d ts (g + 4)) : ∀ x, Agree (parseF (f + 1) (.postLoop x) d ts) (refF (g + 4) (.singleL x) d ⟨ts, none⟩) := by
 have HD := hg.tail
 intro x
 rw [parseF, refF]
 refine Agree.isT (fun h => ?_) fun h => Agree.isT (fun h => ?_) fun h => Agree.ok hg
 ·exact Agree.name (m := fun s σ => refF (g + 3) (.singleL (.mk 36 s 0 [x])) d σ) hg.tail (fun s hg => (I hg).postLoop _) fun s ts e => by rw [singleL_err]; exact Stays.mk
 ·have := ((I (d := d) hg.tail).args x [] (by simp)).bind (m := fun n σ => refF (g + 3) (.singleL n) d σ) (fun n us hg => (I hg).postLoop n) fun t ts e => by rw [singleL_err]; exact Stays.mk
  rw [bindR_bindR] at this
  exact this
set_option maxHeartbeats 1000000 in
theorem ag_args {f d : Nat} {ts : List Tok} {g : Nat} (hg : Goods ts) (I : ∀ {d : Nat} {ts : List Tok}, Goods ts → AG f d ts (g + 3)) (I4 : ∀ {d : Nat} {ts : List Tok}, Goods ts → AG f d ts (g + 4)) : ∀ x out, out.length ≤ 8 → Agree (parseF (f + 1) (.args (x :: out)) d ts) (bindR (refF (g + 4) (.args out) d ⟨ts, none⟩) fun l σ => some (.mk 35 ByteArray.empty 0 (x :: l.kids), σ)) := by
 have HD := hg.tail
 intro x out h8
 rw [parseF, refF]
 cases hb : isT s_rpar ts
 ·simp only [Option.isNone_none, next_ok, hb, Bool.not_false, Bool.and_true, if_true, Bool.false_eq_true, if_false]
  refine comma_agree (c1 := 1 < (x :: out).length) (c2 := 8 < (x :: out).length) (b2 := decide (out.length = 8)) (k := fun ts => bindT (parseF f .value d ts) fun v ts => parseF f (.args (x :: (out ++ [v]))) d ts) (m := fun σ => bindR (if σ.f.isNone = true then bindR (refF (g + 3) .value (d + 1) σ) fun v σ => refF (g + 3) (.args (out ++ [v])) d σ else refF (g + 3) (.args out) d σ) fun l σ => some (.mk 35 ByteArray.empty 0 (x :: l.kids), σ)) hg (by simp) (by rw [decide_eq_true_eq, List.length_cons]; omega) (fun us hn hg => ?_) fun us e => ?_
  ·rw [if_pos (show (none : Option (Int × Nat)).isNone = true from rfl), bindR_bindR]
   exact ((I hg).value (d := d)).bind (fun v us hg => (I hg).args x (out ++ [v]) (by rw [List.length_append, List.length_singleton]; rw [List.length_cons] at hn; omega)) fun v us e => by rw [args_err]; exact Stays.mk
  ·rw [if_neg (show ¬ (some e : Option (Int × Nat)).isNone = true by simp), args_err]; exact Stays.mk
 ·simp only [Option.isNone_none, next_ok, hb, Bool.not_true, Bool.and_false, if_true, Bool.false_eq_true, if_false]
  unfold mustR
  simp only [Option.isNone_none, hb, if_true]
  exact Agree.ok HD
set_option maxHeartbeats 1000000 in
theorem ag_primary {f d : Nat} {ts : List Tok} {g : Nat} (hg : Goods ts) (I : ∀ {d : Nat} {ts : List Tok}, Goods ts → AG f d ts (g + 3)) (I4 : ∀ {d : Nat} {ts : List Tok}, Goods ts → AG f d ts (g + 4)) : Agree (parseF (f + 1) .primary d ts) (refF (g + 4) .first d ⟨ts, none⟩) := by
 have HD := hg.tail
 rw [parseF, refF, if_pos (show (none : Option (Int × Nat)).isNone = true from rfl), const_fits hg]
 simp only
 by_cases h1 : (hdT ts).kind = 1
 ·rw [if_pos h1, if_pos h1]; exact Agree.ok HD
 rw [if_neg h1, if_neg h1]
 by_cases h3 : (hdT ts).kind = 3
 ·rw [if_pos h3, if_pos h3]; exact Agree.ok HD
 rw [if_neg h3, if_neg h3]
 by_cases h4 : (hdT ts).kind = 4
 ·rw [if_pos h4, if_pos h4]; exact Agree.ok HD
 rw [if_neg h4, if_neg h4]
 by_cases hc : (hdT ts).kind = 2 ∧ constK (hdT ts).text ≠ 0
 ·have nt : ∀ s, constK s = 0 → nextR s ⟨ts, none⟩ = false := fun s hs => by
   rw [next_ok]
   cases hb : isT s ts
   ·rfl
   ·exact absurd (by rw [isT_text hb]; exact hs) hc.2
  rw [if_pos hc.1, if_pos hc.2, nt _ (by decide), nt _ (by decide), nt _ (by decide)]
  simp only [Bool.false_eq_true, if_false]
  rw [if_pos hc]
  exact Agree.ok HD
 ·have e0 : (if (hdT ts).kind = 2 then constK (hdT ts).text else 0) = 0 := by
   by_cases h2 : (hdT ts).kind = 2
   ·rw [if_pos h2]
    exact Decidable.byContradiction fun h => hc ⟨h2, h⟩
   ·rw [if_neg h2]
  rw [e0, if_neg (fun h => h rfl), if_neg hc]
  refine Agree.isT (fun h => (I hg).around) fun _ => ?_
  refine Agree.isT (fun h => ?_) fun _ => ?_
  ·show Agree (if (hdT ts.tail).kind = 1 then _ else _) (if (hdT ts.tail).kind = 1 then refF (g + 3) (.func 37 (identR ⟨ts.tail, none⟩).1) d (identR ⟨ts.tail, none⟩).2 else refF (g + 3) (.func 37 ByteArray.empty) d ⟨ts.tail, none⟩)
   by_cases hk : (hdT ts.tail).kind = 1
   ·have ei : identR ⟨ts.tail, none⟩ = ((hdT ts.tail).text, ⟨ts.tail.tail, none⟩) := by simp [identR, hk, advR]
    rw [if_pos hk, if_pos hk, ei]
    exact (I HD.tail).func 37 _
   ·rw [if_neg hk, if_neg hk]
    exact (I HD).func 37 _
  refine Agree.isT (fun h => (I HD).object []) fun _ => Agree.fail
set_option maxHeartbeats 1000000 in
theorem ag_object {f d : Nat} {ts : List Tok} {g : Nat} (hg : Goods ts) (I : ∀ {d : Nat} {ts : List Tok}, Goods ts → AG f d ts (g + 3)) (I4 : ∀ {d : Nat} {ts : List Tok}, Goods ts → AG f d ts (g + 4)) : ∀ acc, Agree (parseF (f + 1) (.object acc) d ts) (bindR (refF (g + 4) (.props acc) d ⟨ts, none⟩) fun l σ => some (.mk 38 ByteArray.empty 0 l.kids, σ)) := by
 have HD := hg.tail
 intro acc
 rw [parseF, refF]
 cases hb : isT s_rbrace ts
 ·simp only [Option.isNone_none, next_ok, hb, Bool.not_false, Bool.and_true, if_true, Bool.false_eq_true, if_false]
  refine comma_agree (c1 := 0 < acc.length) (c2 := acc.length = 8) (k := fun ts => nameT ts fun s ts => wantT s_colon ts fun ts => bindT (parseF f .value d ts) fun v ts => parseF f (.object (acc ++ [.mk 39 s 0 [v]])) d ts)
   (m := fun σ => bindR (if σ.f.isNone = true then bindR (refF (g + 3) .value (d + 1) (mustR s_colon (identR σ).2)) fun v σ' => refF (g + 3) (.props (acc ++ [.mk 39 (identR σ).1 0 [v]])) d σ' else refF (g + 3) (.props acc) d σ) fun l σ => some (.mk 38 ByteArray.empty 0 l.kids, σ)) hg decide_eq_true_iff.symm decide_eq_true_iff.symm (fun us _ hg => ?_) fun us e => ?_
  ·rw [if_pos (show (none : Option (Int × Nat)).isNone = true from rfl)]
   refine Agree.name (m := fun s σ => bindR (bindR (refF (g + 3) .value (d + 1) (mustR s_colon σ)) fun v σ' => refF (g + 3) (.props (acc ++ [.mk 39 s 0 [v]])) d σ') fun l σ => some (.mk 38 ByteArray.empty 0 l.kids, σ)) hg (fun s hg => ?_) fun s us e => by rw [must_err, value_err]; simp only [bindR]; rw [props_err]; exact Stays.mk
   refine Agree.want (m := fun σ => bindR (bindR (refF (g + 3) .value (d + 1) σ) fun v σ' => refF (g + 3) (.props (acc ++ [.mk 39 s 0 [v]])) d σ') fun l σ => some (.mk 38 ByteArray.empty 0 l.kids, σ)) hg (fun hg => ?_) fun us e => by rw [value_err]; simp only [bindR]; rw [props_err]; exact Stays.mk
   rw [bindR_bindR]
   exact ((I hg).value (d := d)).bind (fun v us hg => (I hg).object _) fun v us e => by rw [props_err]; exact Stays.mk
  ·rw [if_neg (show ¬ (some e : Option (Int × Nat)).isNone = true by simp), props_err]; exact Stays.mk
 ·simp only [Option.isNone_none, next_ok, hb, Bool.not_true, Bool.and_false, if_true, Bool.false_eq_true, if_false]
  unfold mustR
  simp only [Option.isNone_none, hb, if_true]
  exact Agree.ok HD
theorem only_key {s : ByteArray} {ts : List Tok} (h : isT s ts = true) : (∀ s', s ≠ s' → ¬ isT s' ts = true) ∧ (∀ s', s ≠ s' → ¬ nextR s' ⟨ts, none⟩ = true) :=
 ⟨fun s' hn => by rw [isT_no h hn]; simp, fun s' hn => by rw [next_ok, isT_no h hn]; simp⟩
theorem decl_key {s : ByteArray} {ts : List Tok} (h : isT s ts = true) : declK ⟨ts, none⟩ = if s = s_var then 2 else if s = s_let then 3 else if s = s_const then 4 else 0 := by
 have e : ∀ s', isT s' ts = decide (s = s') := fun s' => by
  by_cases hs : s = s'
  ·rw [← hs, h]; simp
  ·rw [isT_no h hs]; simp [hs]
 unfold declK
 rw [next_ok, next_ok, next_ok, e, e, e]
 simp only [decide_eq_true_eq]
theorem st_lbrace {f d : Nat} {ts : List Tok} {g : Nat} (hg : Goods ts) (hd : d ≤ 30) (I : ∀ {d : Nat} {ts : List Tok}, Goods ts → AG f d ts (g + 3)) (I2 : ∀ {d : Nat} {ts : List Tok}, Goods ts → AG f d ts (g + 2)) (h : isT s_lbrace ts = true) : Agree (parseF (f + 1) .stmt d ts) (refF (g + 4) .stmt d ⟨ts, none⟩) := by
 have HD := hg.tail
 obtain ⟨n, m⟩ := only_key h
 have y : nextR s_lbrace ⟨ts, none⟩ = true := by rw [next_ok]; exact h
 rw [parseF, refF]
 simp only []
 rw [if_pos h]
 rw [if_neg (show ¬ 30 < d by omega), if_pos y]
 exact (I hg).block false
theorem st_semi {f d : Nat} {ts : List Tok} {g : Nat} (hg : Goods ts) (hd : d ≤ 30) (I : ∀ {d : Nat} {ts : List Tok}, Goods ts → AG f d ts (g + 3)) (I2 : ∀ {d : Nat} {ts : List Tok}, Goods ts → AG f d ts (g + 2)) (h : isT s_semi ts = true) : Agree (parseF (f + 1) .stmt d ts) (refF (g + 4) .stmt d ⟨ts, none⟩) := by
 have HD := hg.tail
 obtain ⟨n, m⟩ := only_key h
 have y : nextR s_semi ⟨ts, none⟩ = true := by rw [next_ok]; exact h
 rw [parseF, refF]
 simp only []
 rw [if_neg (n s_lbrace (by decide)), if_pos h]
 rw [if_neg (show ¬ 30 < d by omega), if_neg (m s_lbrace (by decide)), if_pos y]
 exact Agree.ok HD
theorem st_var {f d : Nat} {ts : List Tok} {g : Nat} (hg : Goods ts) (hd : d ≤ 30) (I : ∀ {d : Nat} {ts : List Tok}, Goods ts → AG f d ts (g + 3)) (I2 : ∀ {d : Nat} {ts : List Tok}, Goods ts → AG f d ts (g + 2)) (h : isT s_var ts = true) : Agree (parseF (f + 1) .stmt d ts) (refF (g + 4) .stmt d ⟨ts, none⟩) := by
 have HD := hg.tail
 obtain ⟨n, m⟩ := only_key h
 have y : nextR s_var ⟨ts, none⟩ = true := by rw [next_ok]; exact h
 have dk := decl_key h
 rw [show (if s_var = s_var then (2 : Int) else if s_var = s_let then 3 else if s_var = s_const then 4 else 0) = 2 from by decide] at dk
 rw [parseF, refF]
 simp only []
 rw [if_neg (n s_lbrace (by decide)), if_neg (n s_semi (by decide)), if_pos h]
 rw [if_neg (show ¬ 30 < d by omega), if_neg (m s_lbrace (by decide)), if_neg (m s_semi (by decide)), if_neg (m s_function (by decide)), if_neg (m s_if (by decide)), if_neg (show ¬ (nextR s_while ⟨ts, none⟩ || nextR s_with ⟨ts, none⟩) = true by rw [Bool.or_eq_true, not_or]; exact ⟨(m s_while (by decide)), (m s_with (by decide))⟩), if_neg (m s_try (by decide)), dk, if_pos (by decide)]
 exact (I HD).decl 2
theorem st_let {f d : Nat} {ts : List Tok} {g : Nat} (hg : Goods ts) (hd : d ≤ 30) (I : ∀ {d : Nat} {ts : List Tok}, Goods ts → AG f d ts (g + 3)) (I2 : ∀ {d : Nat} {ts : List Tok}, Goods ts → AG f d ts (g + 2)) (h : isT s_let ts = true) : Agree (parseF (f + 1) .stmt d ts) (refF (g + 4) .stmt d ⟨ts, none⟩) := by
 have HD := hg.tail
 obtain ⟨n, m⟩ := only_key h
 have y : nextR s_let ⟨ts, none⟩ = true := by rw [next_ok]; exact h
 have dk := decl_key h
 rw [show (if s_let = s_var then (2 : Int) else if s_let = s_let then 3 else if s_let = s_const then 4 else 0) = 3 from by decide] at dk
 rw [parseF, refF]
 simp only []
 rw [if_neg (n s_lbrace (by decide)), if_neg (n s_semi (by decide)), if_neg (n s_var (by decide)), if_pos h]
 rw [if_neg (show ¬ 30 < d by omega), if_neg (m s_lbrace (by decide)), if_neg (m s_semi (by decide)), if_neg (m s_function (by decide)), if_neg (m s_if (by decide)), if_neg (show ¬ (nextR s_while ⟨ts, none⟩ || nextR s_with ⟨ts, none⟩) = true by rw [Bool.or_eq_true, not_or]; exact ⟨(m s_while (by decide)), (m s_with (by decide))⟩), if_neg (m s_try (by decide)), dk, if_pos (by decide)]
 exact (I HD).decl 3
theorem st_const {f d : Nat} {ts : List Tok} {g : Nat} (hg : Goods ts) (hd : d ≤ 30) (I : ∀ {d : Nat} {ts : List Tok}, Goods ts → AG f d ts (g + 3)) (I2 : ∀ {d : Nat} {ts : List Tok}, Goods ts → AG f d ts (g + 2)) (h : isT s_const ts = true) : Agree (parseF (f + 1) .stmt d ts) (refF (g + 4) .stmt d ⟨ts, none⟩) := by
 have HD := hg.tail
 obtain ⟨n, m⟩ := only_key h
 have y : nextR s_const ⟨ts, none⟩ = true := by rw [next_ok]; exact h
 have dk := decl_key h
 rw [show (if s_const = s_var then (2 : Int) else if s_const = s_let then 3 else if s_const = s_const then 4 else 0) = 4 from by decide] at dk
 rw [parseF, refF]
 simp only []
 rw [if_neg (n s_lbrace (by decide)), if_neg (n s_semi (by decide)), if_neg (n s_var (by decide)), if_neg (n s_let (by decide)), if_pos h]
 rw [if_neg (show ¬ 30 < d by omega), if_neg (m s_lbrace (by decide)), if_neg (m s_semi (by decide)), if_neg (m s_function (by decide)), if_neg (m s_if (by decide)), if_neg (show ¬ (nextR s_while ⟨ts, none⟩ || nextR s_with ⟨ts, none⟩) = true by rw [Bool.or_eq_true, not_or]; exact ⟨(m s_while (by decide)), (m s_with (by decide))⟩), if_neg (m s_try (by decide)), dk, if_pos (by decide)]
 exact (I HD).decl 4
theorem st_function {f d : Nat} {ts : List Tok} {g : Nat} (hg : Goods ts) (hd : d ≤ 30) (I : ∀ {d : Nat} {ts : List Tok}, Goods ts → AG f d ts (g + 3)) (I2 : ∀ {d : Nat} {ts : List Tok}, Goods ts → AG f d ts (g + 2)) (h : isT s_function ts = true) : Agree (parseF (f + 1) .stmt d ts) (refF (g + 4) .stmt d ⟨ts, none⟩) := by
 have HD := hg.tail
 obtain ⟨n, m⟩ := only_key h
 have y : nextR s_function ⟨ts, none⟩ = true := by rw [next_ok]; exact h
 have dk := decl_key h
 rw [show (if s_function = s_var then (2 : Int) else if s_function = s_let then 3 else if s_function = s_const then 4 else 0) = 0 from by decide] at dk
 rw [parseF, refF]
 simp only []
 rw [if_neg (n s_lbrace (by decide)), if_neg (n s_semi (by decide)), if_neg (n s_var (by decide)), if_neg (n s_let (by decide)), if_neg (n s_const (by decide)), if_pos h]
 rw [if_neg (show ¬ 30 < d by omega), if_neg (m s_lbrace (by decide)), if_neg (m s_semi (by decide)), if_pos y]
 exact Agree.name (m := fun s σ => refF (g + 3) (.func 5 s) d σ) HD (fun s hg => (I hg).func 5 s) fun s ts e => func_err ..
theorem st_if {f d : Nat} {ts : List Tok} {g : Nat} (hg : Goods ts) (hd : d ≤ 30) (I : ∀ {d : Nat} {ts : List Tok}, Goods ts → AG f d ts (g + 3)) (I2 : ∀ {d : Nat} {ts : List Tok}, Goods ts → AG f d ts (g + 2)) (h : isT s_if ts = true) : Agree (parseF (f + 1) .stmt d ts) (refF (g + 4) .stmt d ⟨ts, none⟩) := by
 have HD := hg.tail
 obtain ⟨n, m⟩ := only_key h
 have y : nextR s_if ⟨ts, none⟩ = true := by rw [next_ok]; exact h
 have dk := decl_key h
 rw [show (if s_if = s_var then (2 : Int) else if s_if = s_let then 3 else if s_if = s_const then 4 else 0) = 0 from by decide] at dk
 rw [parseF, refF]
 simp only []
 rw [if_neg (n s_lbrace (by decide)), if_neg (n s_semi (by decide)), if_neg (n s_var (by decide)), if_neg (n s_let (by decide)), if_neg (n s_const (by decide)), if_neg (n s_function (by decide)), if_pos h]
 rw [if_neg (show ¬ 30 < d by omega), if_neg (m s_lbrace (by decide)), if_neg (m s_semi (by decide)), if_neg (m s_function (by decide)), if_pos y]
 refine ((I HD).around (d := d)).bind (fun x us hg => ?_) fun t ts e => by rw [stmt2_err]; simp only [bindR]; rw [if_neg (by simp [next_err])]; exact Stays.mk
 refine (stmt2_within fun h => (I2 hg).stmt h).bind (fun y us hg => ?_) fun t ts e => by rw [if_neg (by simp [next_err])]; exact Stays.mk
 refine Agree.isT (fun h => ?_) fun _ => Agree.ok hg
 exact (stmt2_within fun h => (I2 hg.tail).stmt h).bind (fun z us hg => Agree.ok hg) fun t ts e => Stays.mk
theorem st_while {f d : Nat} {ts : List Tok} {g : Nat} (hg : Goods ts) (hd : d ≤ 30) (I : ∀ {d : Nat} {ts : List Tok}, Goods ts → AG f d ts (g + 3)) (I2 : ∀ {d : Nat} {ts : List Tok}, Goods ts → AG f d ts (g + 2)) (h : isT s_while ts = true) : Agree (parseF (f + 1) .stmt d ts) (refF (g + 4) .stmt d ⟨ts, none⟩) := by
 have HD := hg.tail
 obtain ⟨n, m⟩ := only_key h
 have y : nextR s_while ⟨ts, none⟩ = true := by rw [next_ok]; exact h
 have dk := decl_key h
 rw [show (if s_while = s_var then (2 : Int) else if s_while = s_let then 3 else if s_while = s_const then 4 else 0) = 0 from by decide] at dk
 rw [parseF, refF]
 simp only []
 rw [if_neg (n s_lbrace (by decide)), if_neg (n s_semi (by decide)), if_neg (n s_var (by decide)), if_neg (n s_let (by decide)), if_neg (n s_const (by decide)), if_neg (n s_function (by decide)), if_neg (n s_if (by decide)), if_pos h]
 rw [if_neg (show ¬ 30 < d by omega), if_neg (m s_lbrace (by decide)), if_neg (m s_semi (by decide)), if_neg (m s_function (by decide)), if_neg (m s_if (by decide)), if_pos (by rw [Bool.or_eq_true]; exact .inl y)]
 refine ((I HD).around (d := d)).bind (fun x us hg => ?_) fun t ts e => by rw [stmt2_err]; exact Stays.mk
 rw [if_neg (m s_with (by decide))]
 exact (stmt2_within fun h => (I2 hg).stmt h).bind (fun y us hg => Agree.ok hg) fun t ts e => Stays.mk
theorem st_with {f d : Nat} {ts : List Tok} {g : Nat} (hg : Goods ts) (hd : d ≤ 30) (I : ∀ {d : Nat} {ts : List Tok}, Goods ts → AG f d ts (g + 3)) (I2 : ∀ {d : Nat} {ts : List Tok}, Goods ts → AG f d ts (g + 2)) (h : isT s_with ts = true) : Agree (parseF (f + 1) .stmt d ts) (refF (g + 4) .stmt d ⟨ts, none⟩) := by
 have HD := hg.tail
 obtain ⟨n, m⟩ := only_key h
 have y : nextR s_with ⟨ts, none⟩ = true := by rw [next_ok]; exact h
 have dk := decl_key h
 rw [show (if s_with = s_var then (2 : Int) else if s_with = s_let then 3 else if s_with = s_const then 4 else 0) = 0 from by decide] at dk
 rw [parseF, refF]
 simp only []
 rw [if_neg (n s_lbrace (by decide)), if_neg (n s_semi (by decide)), if_neg (n s_var (by decide)), if_neg (n s_let (by decide)), if_neg (n s_const (by decide)), if_neg (n s_function (by decide)), if_neg (n s_if (by decide)), if_neg (n s_while (by decide)), if_pos h]
 rw [if_neg (show ¬ 30 < d by omega), if_neg (m s_lbrace (by decide)), if_neg (m s_semi (by decide)), if_neg (m s_function (by decide)), if_neg (m s_if (by decide)), if_pos (by rw [Bool.or_eq_true]; exact .inr y)]
 refine ((I HD).around (d := d)).bind (fun x us hg => ?_) fun t ts e => by rw [stmt2_err]; exact Stays.mk
 rw [if_pos y]
 exact (stmt2_within fun h => (I2 hg).stmt h).bind (fun y us hg => Agree.ok hg) fun t ts e => Stays.mk
theorem st_return {f d : Nat} {ts : List Tok} {g : Nat} (hg : Goods ts) (hd : d ≤ 30) (I : ∀ {d : Nat} {ts : List Tok}, Goods ts → AG f d ts (g + 3)) (I2 : ∀ {d : Nat} {ts : List Tok}, Goods ts → AG f d ts (g + 2)) (h : isT s_return ts = true) : Agree (parseF (f + 1) .stmt d ts) (refF (g + 4) .stmt d ⟨ts, none⟩) := by
 have HD := hg.tail
 obtain ⟨n, m⟩ := only_key h
 have y : nextR s_return ⟨ts, none⟩ = true := by rw [next_ok]; exact h
 have dk := decl_key h
 rw [show (if s_return = s_var then (2 : Int) else if s_return = s_let then 3 else if s_return = s_const then 4 else 0) = 0 from by decide] at dk
 rw [parseF, refF]
 simp only []
 rw [if_neg (n s_lbrace (by decide)), if_neg (n s_semi (by decide)), if_neg (n s_var (by decide)), if_neg (n s_let (by decide)), if_neg (n s_const (by decide)), if_neg (n s_function (by decide)), if_neg (n s_if (by decide)), if_neg (n s_while (by decide)), if_neg (n s_with (by decide)), if_pos h]
 rw [if_neg (show ¬ 30 < d by omega), if_neg (m s_lbrace (by decide)), if_neg (m s_semi (by decide)), if_neg (m s_function (by decide)), if_neg (m s_if (by decide)), if_neg (show ¬ (nextR s_while ⟨ts, none⟩ || nextR s_with ⟨ts, none⟩) = true by rw [Bool.or_eq_true, not_or]; exact ⟨(m s_while (by decide)), (m s_with (by decide))⟩), if_neg (m s_try (by decide)), if_neg (show ¬ declK ⟨ts, none⟩ ≠ 0 from fun e => e dk), if_pos y]
 refine Agree.isT (fun h => semi_agree HD) fun _ => ?_
 exact ((I HD).value (d := d)).bind (fun x us hg => semi_agree hg) fun t ts e => semi_err
theorem st_throw {f d : Nat} {ts : List Tok} {g : Nat} (hg : Goods ts) (hd : d ≤ 30) (I : ∀ {d : Nat} {ts : List Tok}, Goods ts → AG f d ts (g + 3)) (I2 : ∀ {d : Nat} {ts : List Tok}, Goods ts → AG f d ts (g + 2)) (h : isT s_throw ts = true) : Agree (parseF (f + 1) .stmt d ts) (refF (g + 4) .stmt d ⟨ts, none⟩) := by
 have HD := hg.tail
 obtain ⟨n, m⟩ := only_key h
 have y : nextR s_throw ⟨ts, none⟩ = true := by rw [next_ok]; exact h
 have dk := decl_key h
 rw [show (if s_throw = s_var then (2 : Int) else if s_throw = s_let then 3 else if s_throw = s_const then 4 else 0) = 0 from by decide] at dk
 rw [parseF, refF]
 simp only []
 rw [if_neg (n s_lbrace (by decide)), if_neg (n s_semi (by decide)), if_neg (n s_var (by decide)), if_neg (n s_let (by decide)), if_neg (n s_const (by decide)), if_neg (n s_function (by decide)), if_neg (n s_if (by decide)), if_neg (n s_while (by decide)), if_neg (n s_with (by decide)), if_neg (n s_return (by decide)), if_pos h]
 rw [if_neg (show ¬ 30 < d by omega), if_neg (m s_lbrace (by decide)), if_neg (m s_semi (by decide)), if_neg (m s_function (by decide)), if_neg (m s_if (by decide)), if_neg (show ¬ (nextR s_while ⟨ts, none⟩ || nextR s_with ⟨ts, none⟩) = true by rw [Bool.or_eq_true, not_or]; exact ⟨(m s_while (by decide)), (m s_with (by decide))⟩), if_neg (m s_try (by decide)), if_neg (show ¬ declK ⟨ts, none⟩ ≠ 0 from fun e => e dk), if_neg (m s_return (by decide)), if_pos y]
 exact ((I HD).value (d := d)).bind (fun x us hg => semi_agree hg) fun t ts e => semi_err
theorem st_try {f d : Nat} {ts : List Tok} {g : Nat} (hg : Goods ts) (hd : d ≤ 30) (I : ∀ {d : Nat} {ts : List Tok}, Goods ts → AG f d ts (g + 3)) (I2 : ∀ {d : Nat} {ts : List Tok}, Goods ts → AG f d ts (g + 2)) (h : isT s_try ts = true) : Agree (parseF (f + 1) .stmt d ts) (refF (g + 4) .stmt d ⟨ts, none⟩) := by
 have HD := hg.tail
 obtain ⟨n, m⟩ := only_key h
 have y : nextR s_try ⟨ts, none⟩ = true := by rw [next_ok]; exact h
 have dk := decl_key h
 rw [show (if s_try = s_var then (2 : Int) else if s_try = s_let then 3 else if s_try = s_const then 4 else 0) = 0 from by decide] at dk
 rw [parseF, refF]
 simp only []
 rw [if_neg (n s_lbrace (by decide)), if_neg (n s_semi (by decide)), if_neg (n s_var (by decide)), if_neg (n s_let (by decide)), if_neg (n s_const (by decide)), if_neg (n s_function (by decide)), if_neg (n s_if (by decide)), if_neg (n s_while (by decide)), if_neg (n s_with (by decide)), if_neg (n s_return (by decide)), if_neg (n s_throw (by decide)), if_pos h]
 rw [if_neg (show ¬ 30 < d by omega), if_neg (m s_lbrace (by decide)), if_neg (m s_semi (by decide)), if_neg (m s_function (by decide)), if_neg (m s_if (by decide)), if_neg (show ¬ (nextR s_while ⟨ts, none⟩ || nextR s_with ⟨ts, none⟩) = true by rw [Bool.or_eq_true, not_or]; exact ⟨(m s_while (by decide)), (m s_with (by decide))⟩), if_pos y]
 exact (I HD).try_
set_option maxHeartbeats 1000000 in
theorem ag_stmt {f d : Nat} {ts : List Tok} {g : Nat} (hg : Goods ts) (hd : d ≤ 30) (I : ∀ {d : Nat} {ts : List Tok}, Goods ts → AG f d ts (g + 3)) (I2 : ∀ {d : Nat} {ts : List Tok}, Goods ts → AG f d ts (g + 2)) : Agree (parseF (f + 1) .stmt d ts) (refF (g + 4) .stmt d ⟨ts, none⟩) := by
 by_cases h_lbrace : isT s_lbrace ts = true
 ·exact st_lbrace hg hd I I2 h_lbrace
 by_cases h_semi : isT s_semi ts = true
 ·exact st_semi hg hd I I2 h_semi
 by_cases h_var : isT s_var ts = true
 ·exact st_var hg hd I I2 h_var
 by_cases h_let : isT s_let ts = true
 ·exact st_let hg hd I I2 h_let
 by_cases h_const : isT s_const ts = true
 ·exact st_const hg hd I I2 h_const
 by_cases h_function : isT s_function ts = true
 ·exact st_function hg hd I I2 h_function
 by_cases h_if : isT s_if ts = true
 ·exact st_if hg hd I I2 h_if
 by_cases h_while : isT s_while ts = true
 ·exact st_while hg hd I I2 h_while
 by_cases h_with : isT s_with ts = true
 ·exact st_with hg hd I I2 h_with
 by_cases h_return : isT s_return ts = true
 ·exact st_return hg hd I I2 h_return
 by_cases h_throw : isT s_throw ts = true
 ·exact st_throw hg hd I I2 h_throw
 by_cases h_try : isT s_try ts = true
 ·exact st_try hg hd I I2 h_try
 have m : ∀ s, ¬ isT s ts = true → ¬ nextR s ⟨ts, none⟩ = true := fun s h => by rw [next_ok]; exact h
 have dk : declK ⟨ts, none⟩ = 0 := by unfold declK; rw [next_ok, next_ok, next_ok, if_neg h_var, if_neg h_let, if_neg h_const]
 rw [parseF, refF]
 rw [if_neg h_lbrace, if_neg h_semi, if_neg h_var, if_neg h_let, if_neg h_const, if_neg h_function, if_neg h_if, if_neg h_while, if_neg h_with, if_neg h_return, if_neg h_throw, if_neg h_try]
 rw [if_neg (show ¬ 30 < d by omega), if_neg (m _ h_lbrace), if_neg (m _ h_semi), if_neg (m _ h_function), if_neg (m _ h_if), if_neg (show ¬ (nextR s_while ⟨ts, none⟩ || nextR s_with ⟨ts, none⟩) = true by rw [Bool.or_eq_true, not_or]; exact ⟨m _ h_while, m _ h_with⟩), if_neg (m _ h_try), if_neg (show ¬ declK ⟨ts, none⟩ ≠ 0 from fun e => e dk), if_neg (m _ h_return), if_neg (m _ h_throw)]
 exact ((I hg).value (d := d)).bind (fun x us hg => semi_agree hg) fun t ts e => semi_err
theorem agree : ∀ (f d : Nat) (ts : List Tok), Goods ts → ∀ g, 2 * f + 8 ≤ g → AG f d ts g := by
 intro f
 induction f with
 | zero => intro d ts hg g hf; constructor <;> intros <;> trivial
 | succ f ih =>
   intro d ts hg g hf
   obtain ⟨g, rfl⟩ : ∃ g', g = g' + 4 := ⟨g - 4, by omega⟩
   have I : ∀ {d ts}, Goods ts → AG f d ts (g + 3) := fun h => ih _ _ h _ (by omega)
   have I2 : ∀ {d ts}, Goods ts → AG f d ts (g + 2) := fun h => ih _ _ h _ (by omega)
   have I4 : ∀ {d ts}, Goods ts → AG f d ts (g + 4) := fun h => ih _ _ h _ (by omega)
   constructor
   case prog => exact ag_prog hg I I4
   case stmts => exact ag_stmts hg I I4
   case block => exact ag_block hg I I4
   case func => exact ag_func hg I I4
   case params => exact ag_params hg I I4
   case around => exact ag_around hg I I4
   case stmt => exact fun hd => ag_stmt hg hd I I2
   case decl => exact ag_decl hg I I4
   case try_ => exact ag_try_ hg I I4
   case value => exact ag_value hg I I4
   case assign => exact ag_assign hg I I4
   case bin => exact ag_bin hg I I4
   case binLoop => exact ag_binLoop hg I I4
   case unary => exact ag_unary hg I I4
   case postfix_ => exact ag_postfix_ hg I I4
   case postLoop => exact ag_postLoop hg I I4
   case args => exact ag_args hg I I4
   case primary => exact ag_primary hg I I4
   case object => exact ag_object hg I I4
end Go.Proofs.YtilchadbjflpgaaGreatDoor
