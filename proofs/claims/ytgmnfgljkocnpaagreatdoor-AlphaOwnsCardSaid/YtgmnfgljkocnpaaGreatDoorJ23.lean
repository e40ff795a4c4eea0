/- The document's reading is package tree's. -/
import Derived.Test.YtgmnfgljkocnpaaGreatDoorJ01
import Derived.Test.YtgmnfgljkocnpaaGreatDoorJ13
namespace Go.Proofs.YtgmnfgljkocnpaaGreatDoor
open Go Go.RowKit
set_option maxRecDepth 100000
set_option maxHeartbeats 20000000
set_option linter.unusedVariables false
theorem Z18.mk {t : Tree} {ts : List Tok} {e : Int × Nat} : Z18 (some (t, ⟨ts, some e⟩)) e := ⟨t, ts, rfl⟩
theorem Z4b {t : Tree} {ts : List Tok} (hg : Zt ts) : Agree (endT t ts) (some (t, Z08 Zh ⟨ts, none⟩)) :=
 Agree.want (m := fun σ => some (t, σ)) hg (fun hg => Agree.ok hg) fun _ _ => Z18.mk
theorem Z81 {t : Tree} {ts : List Tok} {e : Int × Nat} : Z18 (some (t, Z08 Zh ⟨ts, some e⟩)) e := Z18.mk
theorem Zcq {s : ByteArray} {ts : List Tok} (h : isT s ts = true) : (hdT ts).text = s := by
 simp only [isT, Bool.and_eq_true, Z34] at h;exact h.2
theorem Zen {s s' : ByteArray} {ts : List Tok} (h : isT s ts = true) (hn : s ≠ s') : isT s' ts = false := by
 have := Zcq h;simp only [isT, this];have : Z0o s s' = false := by simp [Z0o, hn]
 simp [this]
theorem Z6m {c1 c2 : Prop} [Decidable c1] [Decidable c2] {b1 b2 : Bool} {ts : List Tok} {k : List Tok → PR} {m : RS → RR} (hg : Zt ts) (h1 : c1 ↔ b1 = true) (h2 : c2 ↔ b2 = true)
 (hk : ∀ ts, ¬ c2 → Zt ts → Agree (k ts) (m ⟨ts, none⟩)) (he : ∀ ts e, Z18 (m ⟨ts, some e⟩) e) :
 Agree ((if c1 then Z0u Z0p ts else fun k => k ts) fun ts => if c2 then Z2m 4 ts else k ts) (m (Z4w b2 (Z3f b1 ⟨ts, none⟩))) := by
 have key : ∀ ts, Zt ts → Agree (if c2 then Z2m 4 ts else k ts) (m (Z4w b2 ⟨ts, none⟩)) := by
  intro ts hg;unfold Z4w;by_cases hc : c2;·rw [if_pos hc, h2.1 hc]; exact he _ _
  ·rw [if_neg hc];have : b2 = false := by cases b2; rfl; exact absurd (h2.2 rfl) hc
   rw [this]; exact hk ts hc hg
 by_cases hc : c1
 ·rw [if_pos hc, Z3f, h1.1 hc];exact Agree.want (m := fun σ => m (Z4w b2 σ)) hg (fun hg => key _ hg) fun ts e => by
   cases b2 <;> exact he _ _
 ·rw [if_neg hc];have : b1 = false := by cases b1; rfl; exact absurd (h1.2 rfl) hc
  rw [this];exact key ts hg
theorem Zdy {level : Nat} {ts : List Tok} (hg : Zt ts) : Z21 level ts = if decide ((hdT ts).kind = 5) && Z3c level (hdT ts).text then Z1l (hdT ts).text else 0 := by
 have hG := hg.hd.1;have h2 : ∀ {s : ByteArray}, Z1l s ≠ 0 → isT s ts = (decide ((hdT ts).kind = 5) && Z0o (hdT ts).text s) := by
  intro s hs;unfold isT;by_cases ht : (hdT ts).text = s
  ·by_cases h : (hdT ts).kind = 2;·exact absurd (by rw [← ht]; exact hG h) hs
   ·simp [h]
  ·have : Z0o (hdT ts).text s = false := by simp [Z0o, ht]
   simp [this]
 have one : ∀ {s : ByteArray}, Z1l s ≠ 0 → (if isT s ts = true then Z1l s else 0) = if (decide ((hdT ts).kind = 5) && Z0o (hdT ts).text s) = true then Z1l (hdT ts).text else 0 := by
  intro s hs;rw [h2 hs];by_cases h : (decide ((hdT ts).kind = 5) && Z0o (hdT ts).text s) = true
  ·rw [if_pos h, if_pos h];have := (Bool.and_eq_true _ _ ▸ h : _ ∧ _).2;rw [Z34.1 this]
  ·rw [if_neg h, if_neg h]
 match level with
 | 0 => exact one (s := s_or) (by decide)
 | 1 => exact one (s := Z66) (by decide)
 | 2 => exact one (s := Z41) (by decide)
 | 3 => exact one (s := Z43) (by decide)
 | 4 =>
   have e1 := one (s := Z4o) (by decide);have e2 := one (s := Z56) (by decide);show (if isT Z4o ts = true then Z1l Z4o else if isT Z56 ts = true then Z1l Z56 else 0) = if (decide ((hdT ts).kind = 5) && (Z0o (hdT ts).text Z4o || Z0o (hdT ts).text Z56)) = true then Z1l (hdT ts).text else 0;by_cases h : (decide ((hdT ts).kind = 5) && Z0o (hdT ts).text Z4o) = true
   ·rw [if_pos (by rw [h2 (by decide)]; exact h), if_pos (by simp only [Bool.and_eq_true, Bool.or_eq_true] at h ⊢; exact ⟨h.1, .inl h.2⟩)];rw [Z34.1 (by simp only [Bool.and_eq_true] at h; exact h.2 : Z0o (hdT ts).text Z4o = true)]
   ·rw [if_neg (by rw [h2 (by decide)]; exact h), e2];have : (decide ((hdT ts).kind = 5) && (Z0o (hdT ts).text Z4o || Z0o (hdT ts).text Z56)) = (decide ((hdT ts).kind = 5) && Z0o (hdT ts).text Z56) := by
     cases h5 : decide ((hdT ts).kind = 5);·rfl
     ·rw [h5] at h; simp only [Bool.true_and, Bool.not_eq_true] at h; simp [h]
    rw [this]
 | 5 => exact one (s := Z67) (by decide)
 | n + 6 => simp [Z21, Z3c]
theorem Zdx {level : Nat} {s : ByteArray} (h : Z3c level s = true) : Z1l s ≠ 0 := by
 match level with
 | 0 => rw [Z34.1 h]; decide
 | 1 => rw [Z34.1 h]; decide
 | 2 => rw [Z34.1 h]; decide
 | 3 => rw [Z34.1 h]; decide
 | 4 =>
   simp only [Z3c, Bool.or_eq_true] at h;rcases h with h | h <;> (rw [Z34.1 h]; decide)
 | 5 => rw [Z34.1 h]; decide
 | n + 6 => simp [Z3c] at h
theorem Zee {ts : List Tok} (hg : Zt ts) : Z3g ts = if (hdT ts).kind = 2 then Z2i (hdT ts).text else 0 := by
 have hG := hg.hd.2;unfold Z3g Z2i isT;by_cases h2 : (hdT ts).kind = 2;·simp [h2]
 ·rw [if_neg h2];by_cases h5 : (hdT ts).kind = 5
  ·have := hG h5;unfold Z2i at this;simp only [h5, decide_true, Bool.true_or, Bool.true_and];exact this
  ·simp [h2, h5]
def Zid (g : Nat) (k : Int) (d : Nat) (σ : RS) : RR :=
 if Zg s_eq (Z1p k (Zj σ).2) then
  Z03 (refF g .value (d + 1) (advR (Z1p k (Zj σ).2))) fun x σ' => some (.mk k (Zj σ).1 0 [x], Z08 Zh σ')
 else some (.mk k (Zj σ).1 0 [], Z08 Zh (Z1p k (Zj σ).2))
def finR (g d : Nat) (l : List Tree) (σ : RS) : RR :=
 if Zg Zz σ then Z03 (refF g (.braces false) d (advR σ)) fun c σ => tryF (l ++ [.mk 14 ByteArray.empty 0 [c]]) σ
 else tryF l σ
def Zcu (g d : Nat) (b : Tree) (σ : RS) : RR :=
 if Zg Z23 σ then
  Z03 (refF g (.braces false) d (Z08 Z06 (Zj (Z08 Z05 (advR σ))).2)) fun c σ' => finR g d [b, .mk 13 (Zj (Z08 Z05 (advR σ))).1 0 [c]] σ'
 else finR g d [b] σ
def tryR (g d : Nat) (σ : RS) : RR := Z03 (refF g (.braces false) d σ) fun b σ => Zcu g d b σ
structure AG (f : Nat) (d : Nat) (ts : List Tok) (g : Nat) : Prop where
 prog : ∀ acc, d = 0 → Agree (Z4 f (.stmts 1 acc) d ts) (Z03 (refF g (.prog acc) 0 ⟨ts, none⟩) fun l σ => some (.mk 1 (if Z1q l.kids then Z2b else ByteArray.empty) 0 l.kids, σ))
 stmts : ∀ acc, Agree (Z4 f (.stmts 6 acc) d ts) (Z03 (refF g (.bracesL acc) d ⟨ts, none⟩) fun l σ => some (.mk 6 (if Z1q l.kids then Z2b else ByteArray.empty) 0 l.kids, σ))
 block : ∀ b, Agree (Z4 f (.block b) d ts) (refF g (.braces b) d ⟨ts, none⟩)
 func : ∀ k s, Agree (Z4 f (.func k s) d ts) (refF g (.func k s) d ⟨ts, none⟩)
 params : ∀ acc, Agree (Zx (Z4 f (.params acc) d ts) fun p ts => Z0u Z06 ts fun ts => okT p ts) (Z03 (refF g (.params acc) d ⟨ts, none⟩) fun l σ => some (.mk 40 ByteArray.empty 0 l.kids, σ))
 around : Agree (Z4 f .around d ts) (refF g .head d ⟨ts, none⟩)
 stmt : d ≤ 30 → Agree (Z4 f .stmt d ts) (refF g .stmt d ⟨ts, none⟩)
 decl : ∀ k, Agree (Zx (Z4 f (.decl k (decide (k = 4))) d ts) endT) (Zid g k d ⟨ts, none⟩)
 try_ : Agree (Z4 f .try_ d ts) (tryR g d ⟨ts, none⟩)
 value : Agree (Z4 f .value d ts) (refF g .value (d + 1) ⟨ts, none⟩)
 assign : d ≤ 30 → Agree (Z4 f .assign d ts) (refF g .value d ⟨ts, none⟩)
 bin : ∀ lv, Agree (Z4 f (.bin lv) d ts) (refF g (.pairs lv) d ⟨ts, none⟩)
 binLoop : ∀ lv x, Agree (Z4 f (.binLoop lv x) d ts) (refF g (.pairsL lv x) d ⟨ts, none⟩)
 unary : Agree (Z4 f .unary d ts) (refF g .single d ⟨ts, none⟩)
 postfix_ : Agree (Z4 f .postfix_ d ts) (Z03 (refF g .first d ⟨ts, none⟩) fun x σ => refF g (.singleL x) d σ)
 postLoop : ∀ x, Agree (Z4 f (.postLoop x) d ts) (refF g (.singleL x) d ⟨ts, none⟩)
 args : ∀ x out, out.length ≤ 8 → Agree (Z4 f (.args (x :: out)) d ts) (Z03 (refF g (.args out) d ⟨ts, none⟩) fun l σ => some (.mk 35 ByteArray.empty 0 (x :: l.kids), σ))
 primary : Agree (Z4 f .primary d ts) (refF g .first d ⟨ts, none⟩)
 object : ∀ acc, Agree (Z4 f (.object acc) d ts) (Z03 (refF g (.props acc) d ⟨ts, none⟩) fun l σ => some (.mk 38 ByteArray.empty 0 l.kids, σ))
theorem Z6f {f d : Nat} {ts : List Tok} {g : Nat} (h : d + 1 ≤ 30 → Agree (Z4 f .stmt (d + 1) ts) (refF (g + 1) .stmt (d + 1) ⟨ts, none⟩)) : Agree (Z0q d ts (Z4 f .stmt (d + 1) ts)) (refF (g + 1) .stmt (d + 1) ⟨ts, none⟩) := by
 unfold Z0q;by_cases hd : 30 < d + 1;·rw [if_pos hd, refF, if_pos hd]; exact Agree.fail
 ·rw [if_neg hd]; exact h (by omega)
theorem Z4s {f d : Nat} {ts : List Tok} {g : Nat} (h : d + 1 ≤ 30 → Agree (Z4 f .stmt (d + 1) ts) (refF (g + 1) .stmt (d + 1) ⟨ts, none⟩)) : Agree (Z0q d ts (Z4 f .stmt (d + 1) ts)) (refF (g + 2) .stmt2 d ⟨ts, none⟩) := by
 rw [refF, if_pos (show (none : Option (Int × Nat)).isNone = true from rfl)]; exact Z6f h
theorem Zbs {p : PR} {k m : Tree → List Tok → PR} : Zx (Zx p k) m = Zx p fun t ts => Zx (k t ts) m := by
 rcases p with _ | e | ⟨t, ts⟩ <;> rfl
theorem Z3m (q : RR) (m n : Tree → RS → RR) : Z03 (Z03 q m) n = Z03 q fun t σ => Z03 (m t σ) n := by
 rcases q with _ | ⟨t, σ⟩ <;> rfl
theorem Zd1 (l : List Tree) (ts : List Tok) (e : Int × Nat) : Z18 (tryF l ⟨ts, some e⟩) e := by
 unfold tryF;by_cases h : l.length = 1;·rw [if_pos h]; exact Z18.mk
 ·rw [if_neg h]; exact Z18.mk
theorem Z71 (g d : Nat) (l : List Tree) (ts : List Tok) (e : Int × Nat) : Z18 (finR g d l ⟨ts, some e⟩) e := by
 unfold finR; rw [if_neg (by simp [Z4r])]; exact Zd1 ..
theorem Zd8 (g d : Nat) (b : Tree) (ts : List Tok) (e : Int × Nat) : Z18 (Zcu g d b ⟨ts, some e⟩) e := by
 unfold Zcu; rw [if_neg (by simp [Z4r])]; exact Z71 ..
theorem Zis {s : ByteArray} {ts : List Tok} : (isT s ts = true) ↔ Zg s ⟨ts, none⟩ = true := by rw [Z0i]
theorem Agree.isT {s : ByteArray} {ts : List Tok} {p1 p2 : PR} {q1 q2 : RR} (h1 : isT s ts = true → Agree p1 q1) (h2 : isT s ts = false → Agree p2 q2) : Agree (if isT s ts = true then p1 else p2) (if Zg s ⟨ts, none⟩ = true then q1 else q2) :=
 Agree.ite Zis h1 fun h => h2 (by simpa using h)
theorem Z9d {ts : List Tok} {k : ByteArray → List Tok → PR} {m : Tree → List Tok → PR} : Zx (Z3b ts k) m = Z3b ts fun s ts => Zx (k s ts) m := by
 unfold Z3b;by_cases h : (hdT ts).kind = 1;·rw [if_pos h, if_pos h]
 ·rw [if_neg h, if_neg h]; rfl
theorem Zeb {s : ByteArray} {ts : List Tok} {k : List Tok → PR} {m : Tree → List Tok → PR} : Zx (Z0u s ts k) m = Z0u s ts fun ts => Zx (k ts) m := by
 unfold Z0u;by_cases h : isT s ts = true;·rw [if_pos h, if_pos h]
 ·rw [if_neg h, if_neg h]; rfl
theorem Zeh {c1 c2 : Prop} [Decidable c1] [Decidable c2] {ts : List Tok} {k : List Tok → PR} {m : Tree → List Tok → PR} :
 Zx ((if c1 then Z0u Z0p ts else fun k => k ts) fun ts => if c2 then Z2m 4 ts else k ts) m = (if c1 then Z0u Z0p ts else fun k => k ts) fun ts => if c2 then Z2m 4 ts else Zx (k ts) m := by
 have key : ∀ ts, Zx (if c2 then Z2m 4 ts else k ts) m = if c2 then Z2m 4 ts else Zx (k ts) m := by
  intro ts;by_cases h : c2;·rw [if_pos h, if_pos h]; rfl
  ·rw [if_neg h, if_neg h]
 by_cases h : c1
 ·simp only [if_pos h];rw [Zeb];simp only [key]
 ·simp only [if_neg h]; exact key ts
theorem Zi5 {f d : Nat} {ts : List Tok} {g : Nat} (hg : Zt ts) (I : ∀ {d : Nat} {ts : List Tok}, Zt ts → AG f d ts (g + 3)) (I4 : ∀ {d : Nat} {ts : List Tok}, Zt ts → AG f d ts (g + 4)) : ∀ acc, d = 0 → Agree (Z4 (f + 1) (.stmts 1 acc) d ts) (Z03 (refF (g + 4) (.prog acc) 0 ⟨ts, none⟩) fun l σ => some (.mk 1 (if Z1q l.kids then Z2b else ByteArray.empty) 0 l.kids, σ)) := by
 have HD := hg.tail;rintro acc rfl;rw [Z4, refF];by_cases h6 : (hdT ts).kind = 6
 ·simp only [h6, if_true, decide_true, Option.isNone_none, Bool.not_true, Bool.and_false, Bool.false_eq_true, if_false, Z03];exact Agree.ok hg
 ·simp only [h6, if_true, decide_false, Option.isNone_none, Bool.not_false, Bool.and_true, Bool.false_eq_true, if_false];rw [Z3m];exact Agree.bind (Z6f fun h => (I (d := 0 + 1) hg).stmt h) (fun t ts hg => (I hg).prog (acc ++ [t]) rfl) fun t ts e => by rw [Zh1]; exact Z18.mk
theorem Zhi {f d : Nat} {ts : List Tok} {g : Nat} (hg : Zt ts) (I : ∀ {d : Nat} {ts : List Tok}, Zt ts → AG f d ts (g + 3)) (I4 : ∀ {d : Nat} {ts : List Tok}, Zt ts → AG f d ts (g + 4)) : ∀ acc, Agree (Z4 (f + 1) (.stmts 6 acc) d ts) (Z03 (refF (g + 4) (.bracesL acc) d ⟨ts, none⟩) fun l σ => some (.mk 6 (if Z1q l.kids then Z2b else ByteArray.empty) 0 l.kids, σ)) := by
 have HD := hg.tail;intro acc;rw [Z4, refF];cases hb : isT Zm ts
 ·rw [if_neg (by simp)];simp only [Option.isNone_none, Z0i, hb, Bool.not_false, Bool.and_true, if_true];rw [Z3m];exact Agree.bind (Z6f fun h => (I (d := d + 1) hg).stmt h) (fun t ts hg => (I hg).stmts (acc ++ [t])) fun t ts e => by rw [Z6c]; exact Z18.mk
 ·rw [if_pos (by simp)];simp only [Option.isNone_none, Z0i, hb, Bool.not_true, Bool.and_false, Bool.false_eq_true, if_false, Z03, Tree.kids];exact Agree.ok hg
theorem Zgu {f d : Nat} {ts : List Tok} {g : Nat} (hg : Zt ts) (I : ∀ {d : Nat} {ts : List Tok}, Zt ts → AG f d ts (g + 3)) (I4 : ∀ {d : Nat} {ts : List Tok}, Zt ts → AG f d ts (g + 4)) : ∀ b, Agree (Z4 (f + 1) (.block b) d ts) (refF (g + 4) (.braces b) d ⟨ts, none⟩) := by
 have HD := hg.tail;intro b;rw [Z4, refF];refine Agree.want (m := fun σ => Z03 (refF (g + 3) (.bracesL []) d σ) fun l σ => some (.mk 6 (if b && (Z08 Zm σ).f.isNone && Z1q l.kids then Z2b else ByteArray.empty) 0 l.kids, Z08 Zm σ)) hg (fun hg => ?_) fun ts e => by rw [Z6c]; exact Z18.mk
 have h := (I (d := d) hg).stmts [];revert h;generalize Z4 f (.stmts 6 []) d ts.tail = p;generalize refF (g + 3) (.bracesL []) d ⟨ts.tail, none⟩ = q;intro h;rcases p with _ | e | ⟨t, us⟩;·trivial
 ·obtain ⟨t', ts', h⟩ := h;rcases q with _ | ⟨l, σ⟩;·simp [Z03] at h
  ·simp only [Z03, Option.some.injEq, Prod.mk.injEq] at h;obtain ⟨_, rfl⟩ := h;exact Z18.mk
 ·obtain ⟨h, hg⟩ := h;rcases q with _ | ⟨l, σ⟩;·simp [Z03] at h
  ·simp only [Z03, Option.some.injEq, Prod.mk.injEq] at h;obtain ⟨rfl, rfl⟩ := h;show Agree (Z0u Zm us fun ts => okT (if b = true then _ else _) ts) (some (.mk 6 (if (b && (Z08 Zm ⟨us, none⟩).f.isNone && Z1q l.kids) = true then Z2b else ByteArray.empty) 0 l.kids, Z08 Zm ⟨us, none⟩));refine Agree.want (m := fun σ => some (.mk 6 (if (b && σ.f.isNone && Z1q l.kids) = true then Z2b else ByteArray.empty) 0 l.kids, σ)) hg (fun hg => ?_) fun ts e => Z18.mk;cases b;·exact Agree.ok hg
   ·simp only [Option.isNone_none, Bool.true_and, if_true];exact Agree.ok hg
theorem Zj8 {f d : Nat} {ts : List Tok} {g : Nat} (hg : Zt ts) (I : ∀ {d : Nat} {ts : List Tok}, Zt ts → AG f d ts (g + 3)) (I4 : ∀ {d : Nat} {ts : List Tok}, Zt ts → AG f d ts (g + 4)) : ∀ k s, Agree (Z4 (f + 1) (.func k s) d ts) (refF (g + 4) (.func k s) d ⟨ts, none⟩) := by
 have HD := hg.tail;intro k s;rw [Z4, refF];refine Agree.want (m := fun σ => Z03 (refF (g + 3) (.params []) d σ) fun l σ => Z03 (refF (g + 3) (.braces true) d σ) fun b σ => some (.mk k s 0 [.mk 40 ByteArray.empty 0 l.kids, b], σ)) hg (fun hg => ?_) fun ts e => by rw [Z5z]; simp only [Z03]; rw [Z49]; exact Z18.mk
 have h := (I (d := d) hg).params [];revert h;generalize Z4 f (.params []) d ts.tail = p;generalize refF (g + 3) (.params []) d ⟨ts.tail, none⟩ = q;intro h;have e0 : (fun (p : Tree) (ts : List Tok) => Z0u Z06 ts fun ts => Zx (Z4 f (.block true) d ts) fun b ts => okT (.mk k s 0 [p, b]) ts) = fun p ts => Zx (Z0u Z06 ts fun ts => okT p ts) fun p ts => Zx (Z4 f (.block true) d ts) fun b ts => okT (.mk k s 0 [p, b]) ts := by
  funext p ts
  unfold Z0u;by_cases hh : isT Z06 ts = true;·rw [if_pos hh, if_pos hh]; rfl
  ·rw [if_neg hh, if_neg hh]; rfl
 have e1 : Zx p (fun (p : Tree) (ts : List Tok) => Z0u Z06 ts fun ts => Zx (Z4 f (.block true) d ts) fun b ts => okT (.mk k s 0 [p, b]) ts) = Zx (Zx p fun p ts => Z0u Z06 ts fun ts => okT p ts) fun p ts => Zx (Z4 f (.block true) d ts) fun b ts => okT (.mk k s 0 [p, b]) ts := by
  rw [e0];rcases p with _ | e | ⟨t, us⟩ <;> rfl
 have e2 : Z03 q (fun l σ => Z03 (refF (g + 3) (.braces true) d σ) fun b σ => some (.mk k s 0 [.mk 40 ByteArray.empty 0 l.kids, b], σ)) = Z03 (Z03 q fun l σ => some (.mk 40 ByteArray.empty 0 l.kids, σ)) fun p σ => Z03 (refF (g + 3) (.braces true) d σ) fun b σ => some (.mk k s 0 [p, b], σ) := by
  rw [Z3m]; rfl
 rw [e1, e2];exact h.bind (fun t ts hg => Agree.bind ((I hg).block true) (fun b ts hg => Agree.ok hg) fun b ts e => Z18.mk) fun t ts e => by rw [Z49]; exact Z18.mk
theorem Zgl {f d : Nat} {ts : List Tok} {g : Nat} (hg : Zt ts) (I : ∀ {d : Nat} {ts : List Tok}, Zt ts → AG f d ts (g + 3)) (I4 : ∀ {d : Nat} {ts : List Tok}, Zt ts → AG f d ts (g + 4)) : ∀ acc, Agree (Zx (Z4 (f + 1) (.params acc) d ts) fun p ts => Z0u Z06 ts fun ts => okT p ts) (Z03 (refF (g + 4) (.params acc) d ⟨ts, none⟩) fun l σ => some (.mk 40 ByteArray.empty 0 l.kids, σ)) := by
 have HD := hg.tail;intro acc;rw [Z4, refF];cases hb : isT Z06 ts
 ·simp only [Option.isNone_none, Z0i, hb, Bool.not_false, Bool.and_true, if_true, Bool.false_eq_true, if_false];rw [Zeh];refine Z6m (m := fun σ => Z03 (if σ.f.isNone = true then refF (g + 3) (.params (acc ++ [.mk 23 (Zj σ).1 0 []])) d (Zj σ).2 else refF (g + 3) (.params acc) d σ) fun l σ => some (.mk 40 ByteArray.empty 0 l.kids, σ)) (c1 := 0 < acc.length) (c2 := acc.length = 8) hg decide_eq_true_iff.symm decide_eq_true_iff.symm (fun us _ hg => ?_) fun us e => ?_
  ·rw [if_pos (show (none : Option (Int × Nat)).isNone = true from rfl), Z9d];exact Agree.name (k := fun s ts => Zx (Z4 f (.params (acc ++ [.mk 23 s 0 []])) d ts) fun p ts => Z0u Z06 ts fun ts => okT p ts) (m := fun s σ => Z03 (refF (g + 3) (.params (acc ++ [.mk 23 s 0 []])) d σ) fun l σ => some (.mk 40 ByteArray.empty 0 l.kids, σ)) hg (fun s hg => (I hg).params (acc ++ [.mk 23 s 0 []])) fun s ts e => by rw [Z5z]; exact Z18.mk
  ·rw [if_neg (show ¬ (some e : Option (Int × Nat)).isNone = true by simp), Z5z]; exact Z18.mk
 ·simp only [Option.isNone_none, Z0i, hb, Bool.not_true, Bool.and_false, if_true, Bool.false_eq_true, if_false];exact Agree.want (m := fun σ => some (.mk 40 ByteArray.empty 0 acc, σ)) hg (fun hg => Agree.ok hg) fun _ _ => Z18.mk
theorem Zg5 {f d : Nat} {ts : List Tok} {g : Nat} (hg : Zt ts) (I : ∀ {d : Nat} {ts : List Tok}, Zt ts → AG f d ts (g + 3)) (I4 : ∀ {d : Nat} {ts : List Tok}, Zt ts → AG f d ts (g + 4)) : Agree (Z4 (f + 1) .around d ts) (refF (g + 4) .head d ⟨ts, none⟩) := by
 have HD := hg.tail;rw [Z4, refF];refine Agree.want (m := fun σ => Z03 (refF (g + 3) .value (d + 1) σ) fun x σ => some (x, Z08 Z06 σ)) hg (fun hg => ?_) fun ts e => by rw [Z8o]; exact Z18.mk
 exact (I hg).value.bind (fun t ts hg => Agree.want (m := fun σ => some (t, σ)) hg (fun hg => Agree.ok hg) fun _ _ => Z18.mk) fun t ts e => Z18.mk
theorem Ziz {f d : Nat} {ts : List Tok} {g : Nat} (hg : Zt ts) (I : ∀ {d : Nat} {ts : List Tok}, Zt ts → AG f d ts (g + 3)) (I4 : ∀ {d : Nat} {ts : List Tok}, Zt ts → AG f d ts (g + 4)) : ∀ k, Agree (Zx (Z4 (f + 1) (.decl k (decide (k = 4))) d ts) endT) (Zid (g + 4) k d ⟨ts, none⟩) := by
 have HD := hg.tail;intro k;rw [Z4, Zid];rw [Z9d];refine Agree.name (m := fun s σ => if Zg s_eq (Z1p k σ) = true then Z03 (refF (g + 4) .value (d + 1) (advR (Z1p k σ))) fun x σ' => some (.mk k s 0 [x], Z08 Zh σ') else some (.mk k s 0 [], Z08 Zh (Z1p k σ))) hg (fun s hg => ?_) fun s ts e => ?_
 ·generalize ts.tail = us at hg;cases he : isT s_eq us
  ·by_cases hk : k = 4
   ·subst hk;have e1 : Z1p 4 ⟨us, none⟩ = ⟨us, some (3, (hdT us).at')⟩ := by simp [Z1p, Z0i, he, Z2q]
    rw [if_pos (by simp), e1, if_neg (by simp [Z4r])];exact Z18.mk
   ·have e1 : Z1p k ⟨us, none⟩ = ⟨us, none⟩ := by simp [Z1p, hk]
    rw [if_neg (by simp [hk]), if_neg (by simp), e1, if_neg (by rw [Z0i, he]; simp)];exact Z4b hg
  ·have e1 : Z1p k ⟨us, none⟩ = ⟨us, none⟩ := by simp [Z1p, Z0i, he]
   rw [if_neg (by simp), if_pos rfl, e1, if_pos (by rw [Z0i, he])];have := (I4 hg.tail).value (d := d);rw [Zbs];exact this.bind (fun x us hg => Z4b hg) fun t ts e => Z81
 ·have e1 : Z1p k ⟨ts, some e⟩ = ⟨ts, some e⟩ := by simp [Z1p]
  rw [e1, if_neg (by simp [Z4r])]; exact Z18.mk
theorem Zin {f d : Nat} {ts : List Tok} {g : Nat} (hg : Zt ts) (I : ∀ {d : Nat} {ts : List Tok}, Zt ts → AG f d ts (g + 3)) (I4 : ∀ {d : Nat} {ts : List Tok}, Zt ts → AG f d ts (g + 4)) : Agree (Z4 (f + 1) .try_ d ts) (tryR (g + 4) d ⟨ts, none⟩) := by
 have HD := hg.tail;rw [Z4, tryR];refine ((I4 hg).block false).bind (fun b us hg => ?_) fun b ts e => Zd8 ..;have fin : ∀ (l : List Tree) us, 1 ≤ l.length → Zt us → Agree (if isT Zz us = true then Zx (Z4 f (.block false) d us.tail) fun c ts => okT (.mk 12 ByteArray.empty 0 (l ++ [.mk 14 ByteArray.empty 0 [c]])) ts else if l.length = 1 then Z2m 3 us else okT (.mk 12 ByteArray.empty 0 l) us) (finR (g + 4) d l ⟨us, none⟩) := by
  intro l us hl hg;unfold finR;refine Agree.isT (fun h => ?_) fun h => ?_;·exact ((I4 hg.tail).block false).bind (fun c us hg => by unfold tryF; rw [if_neg (by rw [List.length_append, List.length_singleton]; omega)]; exact Agree.ok hg) fun b ts e => Zd1 ..
  ·unfold tryF;by_cases hl : l.length = 1;·rw [if_pos hl, if_pos hl]; exact Agree.fail
   ·rw [if_neg hl, if_neg hl]; exact Agree.ok hg
 unfold Zcu;refine Agree.isT (fun h => ?_) fun h => fin _ _ (by simp) hg;refine Agree.want (m := fun σ => Z03 (refF (g + 4) (.braces false) d (Z08 Z06 (Zj σ).2)) fun c σ' => finR (g + 4) d [b, .mk 13 (Zj σ).1 0 [c]] σ') hg.tail (fun hg => ?_) fun us e => by rw [Zg0, Z48, Z49]; exact Z71 ..
 refine Agree.name (m := fun s σ => Z03 (refF (g + 4) (.braces false) d (Z08 Z06 σ)) fun c σ' => finR (g + 4) d [b, .mk 13 s 0 [c]] σ') hg (fun s hg => ?_) fun s us e => by rw [Z48, Z49]; exact Z71 ..
 refine Agree.want (m := fun σ => Z03 (refF (g + 4) (.braces false) d σ) fun c σ' => finR (g + 4) d [b, .mk 13 s 0 [c]] σ') hg (fun hg => ?_) fun us e => by rw [Z49]; exact Z71 ..
 exact ((I4 hg).block false).bind (fun c us hg => fin _ _ (by simp) hg) fun b ts e => Z71 ..
theorem Zhv {f d : Nat} {ts : List Tok} {g : Nat} (hg : Zt ts) (I : ∀ {d : Nat} {ts : List Tok}, Zt ts → AG f d ts (g + 3)) (I4 : ∀ {d : Nat} {ts : List Tok}, Zt ts → AG f d ts (g + 4)) : Agree (Z4 (f + 1) .value d ts) (refF (g + 4) .value (d + 1) ⟨ts, none⟩) := by
 have HD := hg.tail;rw [Z4];unfold Z0q;by_cases hd : 30 < d + 1;·rw [if_pos hd, refF, if_pos (show (none : Option (Int × Nat)).isNone = true from rfl), if_pos hd]; exact Agree.fail
 ·rw [if_neg hd]; exact (I4 hg).assign (by omega)
theorem Zg4 {f d : Nat} {ts : List Tok} {g : Nat} (hg : Zt ts) (I : ∀ {d : Nat} {ts : List Tok}, Zt ts → AG f d ts (g + 3)) (I4 : ∀ {d : Nat} {ts : List Tok}, Zt ts → AG f d ts (g + 4)) : d ≤ 30 → Agree (Z4 (f + 1) .assign d ts) (refF (g + 4) .value d ⟨ts, none⟩) := by
 have HD := hg.tail;intro hd;rw [Z4, refF, if_pos (show (none : Option (Int × Nat)).isNone = true from rfl), if_neg (by omega)];refine ((I hg).bin 0).bind (fun t us hg => ?_) fun t ts e => by rw [if_neg (by simp [Z4r])]; exact Z18.mk
 refine Agree.isT (fun h => ?_) fun h => Agree.ok hg;by_cases hk : t.kind = 23 ∨ t.kind = 36
 ·rw [if_pos hk, if_pos hk];exact (I hg.tail).value.bind (fun y us hg => Agree.ok hg) fun t ts e => Z18.mk
 ·rw [if_neg hk, if_neg hk];exact Z18.mk
theorem Zjm {f d : Nat} {ts : List Tok} {g : Nat} (hg : Zt ts) (I : ∀ {d : Nat} {ts : List Tok}, Zt ts → AG f d ts (g + 3)) (I4 : ∀ {d : Nat} {ts : List Tok}, Zt ts → AG f d ts (g + 4)) : ∀ lv, Agree (Z4 (f + 1) (.bin lv) d ts) (refF (g + 4) (.pairs lv) d ⟨ts, none⟩) := by
 have HD := hg.tail;intro lv;rw [Z4, refF];by_cases h : 6 ≤ lv;·rw [if_pos h, if_pos h]; exact (I hg).unary
 ·rw [if_neg h, if_neg h];exact ((I hg).bin (lv + 1)).bind (fun x us hg => (I hg).binLoop lv x) fun t ts e => by rw [Z9w]; exact Z18.mk
theorem Zdw {f d : Nat} {ts : List Tok} {g : Nat} (hg : Zt ts) (I : ∀ {d : Nat} {ts : List Tok}, Zt ts → AG f d ts (g + 3)) (I4 : ∀ {d : Nat} {ts : List Tok}, Zt ts → AG f d ts (g + 4)) : ∀ lv x, Agree (Z4 (f + 1) (.binLoop lv x) d ts) (refF (g + 4) (.pairsL lv x) d ⟨ts, none⟩) := by
 have HD := hg.tail;intro lv x;rw [Z4, refF, Zdy hg];simp only;cases hb : decide ((hdT ts).kind = 5) && Z3c lv (hdT ts).text
 ·rw [if_neg Bool.false_ne_true, if_pos rfl, if_neg (by rw [show ((none : Option (Int × Nat)).isNone && decide ((hdT ts).kind = 5) && Z3c lv (hdT ts).text) = (decide ((hdT ts).kind = 5) && Z3c lv (hdT ts).text) by simp, hb]; simp)];exact Agree.ok hg
 ·rw [if_pos rfl, if_neg (Zdx (level := lv) (by simp only [Bool.and_eq_true] at hb; exact hb.2)), if_pos (by rw [show ((none : Option (Int × Nat)).isNone && decide ((hdT ts).kind = 5) && Z3c lv (hdT ts).text) = (decide ((hdT ts).kind = 5) && Z3c lv (hdT ts).text) by simp, hb])];exact ((I hg.tail).bin (lv + 1)).bind (fun y us hg => (I hg).binLoop lv _) fun t ts e => by rw [Z9w]; exact Z18.mk
theorem Zhg {f d : Nat} {ts : List Tok} {g : Nat} (hg : Zt ts) (I : ∀ {d : Nat} {ts : List Tok}, Zt ts → AG f d ts (g + 3)) (I4 : ∀ {d : Nat} {ts : List Tok}, Zt ts → AG f d ts (g + 4)) : Agree (Z4 (f + 1) .unary d ts) (refF (g + 4) .single d ⟨ts, none⟩) := by
 have HD := hg.tail;have hu : Z5o ⟨ts, none⟩ = Z2z ts := by unfold Z5o Z2z; rw [Z0i, Z0i, Z0i]
 rw [Z4, refF, hu];by_cases h : Z2z ts = 0
 ·rw [if_pos h, if_neg (fun h' => h' h)];exact (I hg).postfix_
 ·rw [if_neg h, if_pos h];unfold Z0q;by_cases hd : 30 < d + 1;·rw [if_pos hd, if_pos hd]; exact Agree.fail
  ·rw [if_neg hd, if_neg hd];exact ((I HD).unary (d := d + 1)).bind (fun x us hg => Agree.ok hg) fun t ts e => Z18.mk
theorem Zbt {f d : Nat} {ts : List Tok} {g : Nat} (hg : Zt ts) (I : ∀ {d : Nat} {ts : List Tok}, Zt ts → AG f d ts (g + 3)) (I4 : ∀ {d : Nat} {ts : List Tok}, Zt ts → AG f d ts (g + 4)) : Agree (Z4 (f + 1) .postfix_ d ts) (Z03 (refF (g + 4) .first d ⟨ts, none⟩) fun x σ => refF (g + 4) (.singleL x) d σ) := by
 have HD := hg.tail;rw [Z4];exact (I4 hg).primary.bind (fun x us hg => (I4 hg).postLoop x) fun t ts e => by rw [Z6b]; exact Z18.mk
theorem Zci {f d : Nat} {ts : List Tok} {g : Nat} (hg : Zt ts) (I : ∀ {d : Nat} {ts : List Tok}, Zt ts → AG f d ts (g + 3)) (I4 : ∀ {d : Nat} {ts : List Tok}, Zt ts → AG f d ts (g + 4)) : ∀ x, Agree (Z4 (f + 1) (.postLoop x) d ts) (refF (g + 4) (.singleL x) d ⟨ts, none⟩) := by
 have HD := hg.tail;intro x;rw [Z4, refF];refine Agree.isT (fun h => ?_) fun h => Agree.isT (fun h => ?_) fun h => Agree.ok hg;·exact Agree.name (m := fun s σ => refF (g + 3) (.singleL (.mk 36 s 0 [x])) d σ) hg.tail (fun s hg => (I hg).postLoop _) fun s ts e => by rw [Z6b]; exact Z18.mk
 ·have := ((I (d := d) hg.tail).args x [] (by simp)).bind (m := fun n σ => refF (g + 3) (.singleL n) d σ) (fun n us hg => (I hg).postLoop n) fun t ts e => by rw [Z6b]; exact Z18.mk
  rw [Z3m] at this;exact this
theorem Zih {f d : Nat} {ts : List Tok} {g : Nat} (hg : Zt ts) (I : ∀ {d : Nat} {ts : List Tok}, Zt ts → AG f d ts (g + 3)) (I4 : ∀ {d : Nat} {ts : List Tok}, Zt ts → AG f d ts (g + 4)) : ∀ x out, out.length ≤ 8 → Agree (Z4 (f + 1) (.args (x :: out)) d ts) (Z03 (refF (g + 4) (.args out) d ⟨ts, none⟩) fun l σ => some (.mk 35 ByteArray.empty 0 (x :: l.kids), σ)) := by
 have HD := hg.tail;intro x out h8;rw [Z4, refF];cases hb : isT Z06 ts
 ·simp only [Option.isNone_none, Z0i, hb, Bool.not_false, Bool.and_true, if_true, Bool.false_eq_true, if_false]
  refine Z6m (c1 := 1 < (x :: out).length) (c2 := 8 < (x :: out).length) (b2 := decide (out.length = 8)) (k := fun ts => Zx (Z4 f .value d ts) fun v ts => Z4 f (.args (x :: (out ++ [v]))) d ts) (m := fun σ => Z03 (if σ.f.isNone = true then Z03 (refF (g + 3) .value (d + 1) σ) fun v σ => refF (g + 3) (.args (out ++ [v])) d σ else refF (g + 3) (.args out) d σ) fun l σ => some (.mk 35 ByteArray.empty 0 (x :: l.kids), σ)) hg (by simp) (by rw [decide_eq_true_eq, List.length_cons]; omega) (fun us hn hg => ?_) fun us e => ?_
  ·rw [if_pos (show (none : Option (Int × Nat)).isNone = true from rfl), Z3m];exact ((I hg).value (d := d)).bind (fun v us hg => (I hg).args x (out ++ [v]) (by rw [List.length_append, List.length_singleton]; rw [List.length_cons] at hn; omega)) fun v us e => by rw [Zcm]; exact Z18.mk
  ·rw [if_neg (show ¬ (some e : Option (Int × Nat)).isNone = true by simp), Zcm]; exact Z18.mk
 ·simp only [Option.isNone_none, Z0i, hb, Bool.not_true, Bool.and_false, if_true, Bool.false_eq_true, if_false];unfold Z08;simp only [Option.isNone_none, hb, if_true];exact Agree.ok HD
theorem Zdv {f d : Nat} {ts : List Tok} {g : Nat} (hg : Zt ts) (I : ∀ {d : Nat} {ts : List Tok}, Zt ts → AG f d ts (g + 3)) (I4 : ∀ {d : Nat} {ts : List Tok}, Zt ts → AG f d ts (g + 4)) : Agree (Z4 (f + 1) .primary d ts) (refF (g + 4) .first d ⟨ts, none⟩) := by
 have HD := hg.tail;rw [Z4, refF, if_pos (show (none : Option (Int × Nat)).isNone = true from rfl), Zee hg];simp only;by_cases h1 : (hdT ts).kind = 1;·rw [if_pos h1, if_pos h1]; exact Agree.ok HD
 rw [if_neg h1, if_neg h1];by_cases h3 : (hdT ts).kind = 3;·rw [if_pos h3, if_pos h3]; exact Agree.ok HD
 rw [if_neg h3, if_neg h3];by_cases h4 : (hdT ts).kind = 4;·rw [if_pos h4, if_pos h4]; exact Agree.ok HD
 rw [if_neg h4, if_neg h4];by_cases hc : (hdT ts).kind = 2 ∧ Z2i (hdT ts).text ≠ 0
 ·have nt : ∀ s, Z2i s = 0 → Zg s ⟨ts, none⟩ = false := fun s hs => by
   rw [Z0i];cases hb : isT s ts;·rfl
   ·exact absurd (by rw [Zcq hb]; exact hs) hc.2
  rw [if_pos hc.1, if_pos hc.2, nt _ (by decide), nt _ (by decide), nt _ (by decide)];simp only [Bool.false_eq_true, if_false];rw [if_pos hc];exact Agree.ok HD
 ·have e0 : (if (hdT ts).kind = 2 then Z2i (hdT ts).text else 0) = 0 := by
   by_cases h2 : (hdT ts).kind = 2
   ·rw [if_pos h2];exact Decidable.byContradiction fun h => hc ⟨h2, h⟩
   ·rw [if_neg h2]
  rw [e0, if_neg (fun h => h rfl), if_neg hc];refine Agree.isT (fun h => (I hg).around) fun _ => ?_;refine Agree.isT (fun h => ?_) fun _ => ?_
  ·show Agree (if (hdT ts.tail).kind = 1 then _ else _) (if (hdT ts.tail).kind = 1 then refF (g + 3) (.func 37 (Zj ⟨ts.tail, none⟩).1) d (Zj ⟨ts.tail, none⟩).2 else refF (g + 3) (.func 37 ByteArray.empty) d ⟨ts.tail, none⟩);by_cases hk : (hdT ts.tail).kind = 1
   ·have ei : Zj ⟨ts.tail, none⟩ = ((hdT ts.tail).text, ⟨ts.tail.tail, none⟩) := by simp [Zj, hk, advR]
    rw [if_pos hk, if_pos hk, ei];exact (I HD.tail).func 37 _
   ·rw [if_neg hk, if_neg hk];exact (I HD).func 37 _
  refine Agree.isT (fun h => (I HD).object []) fun _ => Agree.fail
theorem Zgn {f d : Nat} {ts : List Tok} {g : Nat} (hg : Zt ts) (I : ∀ {d : Nat} {ts : List Tok}, Zt ts → AG f d ts (g + 3)) (I4 : ∀ {d : Nat} {ts : List Tok}, Zt ts → AG f d ts (g + 4)) : ∀ acc, Agree (Z4 (f + 1) (.object acc) d ts) (Z03 (refF (g + 4) (.props acc) d ⟨ts, none⟩) fun l σ => some (.mk 38 ByteArray.empty 0 l.kids, σ)) := by
 have HD := hg.tail;intro acc;rw [Z4, refF];cases hb : isT Zm ts
 ·simp only [Option.isNone_none, Z0i, hb, Bool.not_false, Bool.and_true, if_true, Bool.false_eq_true, if_false]
  refine Z6m (c1 := 0 < acc.length) (c2 := acc.length = 8) (k := fun ts => Z3b ts fun s ts => Z0u Z2j ts fun ts => Zx (Z4 f .value d ts) fun v ts => Z4 f (.object (acc ++ [.mk 39 s 0 [v]])) d ts)
   (m := fun σ => Z03 (if σ.f.isNone = true then Z03 (refF (g + 3) .value (d + 1) (Z08 Z2j (Zj σ).2)) fun v σ' => refF (g + 3) (.props (acc ++ [.mk 39 (Zj σ).1 0 [v]])) d σ' else refF (g + 3) (.props acc) d σ) fun l σ => some (.mk 38 ByteArray.empty 0 l.kids, σ)) hg decide_eq_true_iff.symm decide_eq_true_iff.symm (fun us _ hg => ?_) fun us e => ?_
  ·rw [if_pos (show (none : Option (Int × Nat)).isNone = true from rfl)];refine Agree.name (m := fun s σ => Z03 (Z03 (refF (g + 3) .value (d + 1) (Z08 Z2j σ)) fun v σ' => refF (g + 3) (.props (acc ++ [.mk 39 s 0 [v]])) d σ') fun l σ => some (.mk 38 ByteArray.empty 0 l.kids, σ)) hg (fun s hg => ?_) fun s us e => by rw [Z48, Z8o]; simp only [Z03]; rw [Z6t]; exact Z18.mk
   refine Agree.want (m := fun σ => Z03 (Z03 (refF (g + 3) .value (d + 1) σ) fun v σ' => refF (g + 3) (.props (acc ++ [.mk 39 s 0 [v]])) d σ') fun l σ => some (.mk 38 ByteArray.empty 0 l.kids, σ)) hg (fun hg => ?_) fun us e => by rw [Z8o]; simp only [Z03]; rw [Z6t]; exact Z18.mk
   rw [Z3m];exact ((I hg).value (d := d)).bind (fun v us hg => (I hg).object _) fun v us e => by rw [Z6t]; exact Z18.mk
  ·rw [if_neg (show ¬ (some e : Option (Int × Nat)).isNone = true by simp), Z6t]; exact Z18.mk
 ·simp only [Option.isNone_none, Z0i, hb, Bool.not_true, Bool.and_false, if_true, Bool.false_eq_true, if_false];unfold Z08;simp only [Option.isNone_none, hb, if_true];exact Agree.ok HD
theorem Z2u {s : ByteArray} {ts : List Tok} (h : isT s ts = true) : (∀ s', s ≠ s' → ¬ isT s' ts = true) ∧ (∀ s', s ≠ s' → ¬ Zg s' ⟨ts, none⟩ = true) :=
 ⟨fun s' hn => by rw [Zen h hn]; simp, fun s' hn => by rw [Z0i, Zen h hn]; simp⟩
theorem Z3q {s : ByteArray} {ts : List Tok} (h : isT s ts = true) : Z3t ⟨ts, none⟩ = if s = Z19 then 2 else if s = Z1f then 3 else if s = Z02 then 4 else 0 := by
 have e : ∀ s', isT s' ts = decide (s = s') := fun s' => by
  by_cases hs : s = s';·rw [← hs, h]; simp
  ·rw [Zen h hs]; simp [hs]
 unfold Z3t;rw [Z0i, Z0i, Z0i, e, e, e];simp only [decide_eq_true_eq]
theorem Zf4 {f d : Nat} {ts : List Tok} {g : Nat} (hg : Zt ts) (hd : d ≤ 30) (I : ∀ {d : Nat} {ts : List Tok}, Zt ts → AG f d ts (g + 3)) (I2 : ∀ {d : Nat} {ts : List Tok}, Zt ts → AG f d ts (g + 2)) (h : isT Zb ts = true) : Agree (Z4 (f + 1) .stmt d ts) (refF (g + 4) .stmt d ⟨ts, none⟩) := by
 have HD := hg.tail;obtain ⟨n, m⟩ := Z2u h;have y : Zg Zb ⟨ts, none⟩ = true := by rw [Z0i]; exact h
 rw [Z4, refF];simp only [];rw [if_pos h];rw [if_neg (show ¬ 30 < d by omega), if_pos y];exact (I hg).block false
theorem Zit {f d : Nat} {ts : List Tok} {g : Nat} (hg : Zt ts) (hd : d ≤ 30) (I : ∀ {d : Nat} {ts : List Tok}, Zt ts → AG f d ts (g + 3)) (I2 : ∀ {d : Nat} {ts : List Tok}, Zt ts → AG f d ts (g + 2)) (h : isT Zh ts = true) : Agree (Z4 (f + 1) .stmt d ts) (refF (g + 4) .stmt d ⟨ts, none⟩) := by
 have HD := hg.tail;obtain ⟨n, m⟩ := Z2u h;have y : Zg Zh ⟨ts, none⟩ = true := by rw [Z0i]; exact h
 rw [Z4, refF];simp only [];rw [if_neg (n Zb (by decide)), if_pos h];rw [if_neg (show ¬ 30 < d by omega), if_neg (m Zb (by decide)), if_pos y];exact Agree.ok HD
theorem Zjo {f d : Nat} {ts : List Tok} {g : Nat} (hg : Zt ts) (hd : d ≤ 30) (I : ∀ {d : Nat} {ts : List Tok}, Zt ts → AG f d ts (g + 3)) (I2 : ∀ {d : Nat} {ts : List Tok}, Zt ts → AG f d ts (g + 2)) (h : isT Z19 ts = true) : Agree (Z4 (f + 1) .stmt d ts) (refF (g + 4) .stmt d ⟨ts, none⟩) := by
 have HD := hg.tail;obtain ⟨n, m⟩ := Z2u h;have y : Zg Z19 ⟨ts, none⟩ = true := by rw [Z0i]; exact h
 have dk := Z3q h;rw [show (if Z19 = Z19 then (2 : Int) else if Z19 = Z1f then 3 else if Z19 = Z02 then 4 else 0) = 2 from by decide] at dk;rw [Z4, refF];simp only [];rw [if_neg (n Zb (by decide)), if_neg (n Zh (by decide)), if_pos h];rw [if_neg (show ¬ 30 < d by omega), if_neg (m Zb (by decide)), if_neg (m Zh (by decide)), if_neg (m Z8 (by decide)), if_neg (m s_if (by decide)), if_neg (show ¬ (Zg Zp ⟨ts, none⟩ || Zg Z01 ⟨ts, none⟩) = true by rw [Bool.or_eq_true, not_or]; exact ⟨(m Zp (by decide)), (m Z01 (by decide))⟩), if_neg (m Z1i (by decide)), dk, if_pos (by decide)];exact (I HD).decl 2
theorem Zjj {f d : Nat} {ts : List Tok} {g : Nat} (hg : Zt ts) (hd : d ≤ 30) (I : ∀ {d : Nat} {ts : List Tok}, Zt ts → AG f d ts (g + 3)) (I2 : ∀ {d : Nat} {ts : List Tok}, Zt ts → AG f d ts (g + 2)) (h : isT Z1f ts = true) : Agree (Z4 (f + 1) .stmt d ts) (refF (g + 4) .stmt d ⟨ts, none⟩) := by
 have HD := hg.tail;obtain ⟨n, m⟩ := Z2u h;have y : Zg Z1f ⟨ts, none⟩ = true := by rw [Z0i]; exact h
 have dk := Z3q h;rw [show (if Z1f = Z19 then (2 : Int) else if Z1f = Z1f then 3 else if Z1f = Z02 then 4 else 0) = 3 from by decide] at dk;rw [Z4, refF];simp only [];rw [if_neg (n Zb (by decide)), if_neg (n Zh (by decide)), if_neg (n Z19 (by decide)), if_pos h]
 rw [if_neg (show ¬ 30 < d by omega), if_neg (m Zb (by decide)), if_neg (m Zh (by decide)), if_neg (m Z8 (by decide)), if_neg (m s_if (by decide)), if_neg (show ¬ (Zg Zp ⟨ts, none⟩ || Zg Z01 ⟨ts, none⟩) = true by rw [Bool.or_eq_true, not_or]; exact ⟨(m Zp (by decide)), (m Z01 (by decide))⟩), if_neg (m Z1i (by decide)), dk, if_pos (by decide)];exact (I HD).decl 3
theorem Zhx {f d : Nat} {ts : List Tok} {g : Nat} (hg : Zt ts) (hd : d ≤ 30) (I : ∀ {d : Nat} {ts : List Tok}, Zt ts → AG f d ts (g + 3)) (I2 : ∀ {d : Nat} {ts : List Tok}, Zt ts → AG f d ts (g + 2)) (h : isT Z02 ts = true) : Agree (Z4 (f + 1) .stmt d ts) (refF (g + 4) .stmt d ⟨ts, none⟩) := by
 have HD := hg.tail;obtain ⟨n, m⟩ := Z2u h;have y : Zg Z02 ⟨ts, none⟩ = true := by rw [Z0i]; exact h
 have dk := Z3q h;rw [show (if Z02 = Z19 then (2 : Int) else if Z02 = Z1f then 3 else if Z02 = Z02 then 4 else 0) = 4 from by decide] at dk;rw [Z4, refF];simp only [];rw [if_neg (n Zb (by decide)), if_neg (n Zh (by decide)), if_neg (n Z19 (by decide)), if_neg (n Z1f (by decide)), if_pos h]
 rw [if_neg (show ¬ 30 < d by omega), if_neg (m Zb (by decide)), if_neg (m Zh (by decide)), if_neg (m Z8 (by decide)), if_neg (m s_if (by decide)), if_neg (show ¬ (Zg Zp ⟨ts, none⟩ || Zg Z01 ⟨ts, none⟩) = true by rw [Bool.or_eq_true, not_or]; exact ⟨(m Zp (by decide)), (m Z01 (by decide))⟩), if_neg (m Z1i (by decide)), dk, if_pos (by decide)];exact (I HD).decl 4
theorem Zc1 {f d : Nat} {ts : List Tok} {g : Nat} (hg : Zt ts) (hd : d ≤ 30) (I : ∀ {d : Nat} {ts : List Tok}, Zt ts → AG f d ts (g + 3)) (I2 : ∀ {d : Nat} {ts : List Tok}, Zt ts → AG f d ts (g + 2)) (h : isT Z8 ts = true) : Agree (Z4 (f + 1) .stmt d ts) (refF (g + 4) .stmt d ⟨ts, none⟩) := by
 have HD := hg.tail;obtain ⟨n, m⟩ := Z2u h;have y : Zg Z8 ⟨ts, none⟩ = true := by rw [Z0i]; exact h
 have dk := Z3q h;rw [show (if Z8 = Z19 then (2 : Int) else if Z8 = Z1f then 3 else if Z8 = Z02 then 4 else 0) = 0 from by decide] at dk;rw [Z4, refF];simp only [];rw [if_neg (n Zb (by decide)), if_neg (n Zh (by decide)), if_neg (n Z19 (by decide)), if_neg (n Z1f (by decide)), if_neg (n Z02 (by decide)), if_pos h];rw [if_neg (show ¬ 30 < d by omega), if_neg (m Zb (by decide)), if_neg (m Zh (by decide)), if_pos y];exact Agree.name (m := fun s σ => refF (g + 3) (.func 5 s) d σ) HD (fun s hg => (I hg).func 5 s) fun s ts e => Zgz ..
theorem Zju {f d : Nat} {ts : List Tok} {g : Nat} (hg : Zt ts) (hd : d ≤ 30) (I : ∀ {d : Nat} {ts : List Tok}, Zt ts → AG f d ts (g + 3)) (I2 : ∀ {d : Nat} {ts : List Tok}, Zt ts → AG f d ts (g + 2)) (h : isT s_if ts = true) : Agree (Z4 (f + 1) .stmt d ts) (refF (g + 4) .stmt d ⟨ts, none⟩) := by
 have HD := hg.tail;obtain ⟨n, m⟩ := Z2u h;have y : Zg s_if ⟨ts, none⟩ = true := by rw [Z0i]; exact h
 have dk := Z3q h;rw [show (if s_if = Z19 then (2 : Int) else if s_if = Z1f then 3 else if s_if = Z02 then 4 else 0) = 0 from by decide] at dk;rw [Z4, refF];simp only [];rw [if_neg (n Zb (by decide)), if_neg (n Zh (by decide)), if_neg (n Z19 (by decide)), if_neg (n Z1f (by decide)), if_neg (n Z02 (by decide)), if_neg (n Z8 (by decide)), if_pos h];rw [if_neg (show ¬ 30 < d by omega), if_neg (m Zb (by decide)), if_neg (m Zh (by decide)), if_neg (m Z8 (by decide)), if_pos y]
 refine ((I HD).around (d := d)).bind (fun x us hg => ?_) fun t ts e => by rw [Z8j]; simp only [Z03]; rw [if_neg (by simp [Z4r])]; exact Z18.mk
 refine (Z4s fun h => (I2 hg).stmt h).bind (fun y us hg => ?_) fun t ts e => by rw [if_neg (by simp [Z4r])]; exact Z18.mk
 refine Agree.isT (fun h => ?_) fun _ => Agree.ok hg;exact (Z4s fun h => (I2 hg.tail).stmt h).bind (fun z us hg => Agree.ok hg) fun t ts e => Z18.mk
theorem Zhf {f d : Nat} {ts : List Tok} {g : Nat} (hg : Zt ts) (hd : d ≤ 30) (I : ∀ {d : Nat} {ts : List Tok}, Zt ts → AG f d ts (g + 3)) (I2 : ∀ {d : Nat} {ts : List Tok}, Zt ts → AG f d ts (g + 2)) (h : isT Zp ts = true) : Agree (Z4 (f + 1) .stmt d ts) (refF (g + 4) .stmt d ⟨ts, none⟩) := by
 have HD := hg.tail;obtain ⟨n, m⟩ := Z2u h;have y : Zg Zp ⟨ts, none⟩ = true := by rw [Z0i]; exact h
 have dk := Z3q h;rw [show (if Zp = Z19 then (2 : Int) else if Zp = Z1f then 3 else if Zp = Z02 then 4 else 0) = 0 from by decide] at dk;rw [Z4, refF];simp only [];rw [if_neg (n Zb (by decide)), if_neg (n Zh (by decide)), if_neg (n Z19 (by decide)), if_neg (n Z1f (by decide)), if_neg (n Z02 (by decide)), if_neg (n Z8 (by decide)), if_neg (n s_if (by decide)), if_pos h];rw [if_neg (show ¬ 30 < d by omega), if_neg (m Zb (by decide)), if_neg (m Zh (by decide)), if_neg (m Z8 (by decide)), if_neg (m s_if (by decide)), if_pos (by rw [Bool.or_eq_true]; exact .inl y)]
 refine ((I HD).around (d := d)).bind (fun x us hg => ?_) fun t ts e => by rw [Z8j]; exact Z18.mk
 rw [if_neg (m Z01 (by decide))];exact (Z4s fun h => (I2 hg).stmt h).bind (fun y us hg => Agree.ok hg) fun t ts e => Z18.mk
theorem Zj5 {f d : Nat} {ts : List Tok} {g : Nat} (hg : Zt ts) (hd : d ≤ 30) (I : ∀ {d : Nat} {ts : List Tok}, Zt ts → AG f d ts (g + 3)) (I2 : ∀ {d : Nat} {ts : List Tok}, Zt ts → AG f d ts (g + 2)) (h : isT Z01 ts = true) : Agree (Z4 (f + 1) .stmt d ts) (refF (g + 4) .stmt d ⟨ts, none⟩) := by
 have HD := hg.tail;obtain ⟨n, m⟩ := Z2u h;have y : Zg Z01 ⟨ts, none⟩ = true := by rw [Z0i]; exact h
 have dk := Z3q h;rw [show (if Z01 = Z19 then (2 : Int) else if Z01 = Z1f then 3 else if Z01 = Z02 then 4 else 0) = 0 from by decide] at dk;rw [Z4, refF];simp only [];rw [if_neg (n Zb (by decide)), if_neg (n Zh (by decide)), if_neg (n Z19 (by decide)), if_neg (n Z1f (by decide)), if_neg (n Z02 (by decide)), if_neg (n Z8 (by decide)), if_neg (n s_if (by decide)), if_neg (n Zp (by decide)), if_pos h];rw [if_neg (show ¬ 30 < d by omega), if_neg (m Zb (by decide)), if_neg (m Zh (by decide)), if_neg (m Z8 (by decide)), if_neg (m s_if (by decide)), if_pos (by rw [Bool.or_eq_true]; exact .inr y)]
 refine ((I HD).around (d := d)).bind (fun x us hg => ?_) fun t ts e => by rw [Z8j]; exact Z18.mk
 rw [if_pos y];exact (Z4s fun h => (I2 hg).stmt h).bind (fun y us hg => Agree.ok hg) fun t ts e => Z18.mk
theorem Zfk {f d : Nat} {ts : List Tok} {g : Nat} (hg : Zt ts) (hd : d ≤ 30) (I : ∀ {d : Nat} {ts : List Tok}, Zt ts → AG f d ts (g + 3)) (I2 : ∀ {d : Nat} {ts : List Tok}, Zt ts → AG f d ts (g + 2)) (h : isT Z0b ts = true) : Agree (Z4 (f + 1) .stmt d ts) (refF (g + 4) .stmt d ⟨ts, none⟩) := by
 have HD := hg.tail;obtain ⟨n, m⟩ := Z2u h;have y : Zg Z0b ⟨ts, none⟩ = true := by rw [Z0i]; exact h
 have dk := Z3q h;rw [show (if Z0b = Z19 then (2 : Int) else if Z0b = Z1f then 3 else if Z0b = Z02 then 4 else 0) = 0 from by decide] at dk;rw [Z4, refF];simp only [];rw [if_neg (n Zb (by decide)), if_neg (n Zh (by decide)), if_neg (n Z19 (by decide)), if_neg (n Z1f (by decide)), if_neg (n Z02 (by decide)), if_neg (n Z8 (by decide)), if_neg (n s_if (by decide)), if_neg (n Zp (by decide)), if_neg (n Z01 (by decide)), if_pos h]
 rw [if_neg (show ¬ 30 < d by omega), if_neg (m Zb (by decide)), if_neg (m Zh (by decide)), if_neg (m Z8 (by decide)), if_neg (m s_if (by decide)), if_neg (show ¬ (Zg Zp ⟨ts, none⟩ || Zg Z01 ⟨ts, none⟩) = true by rw [Bool.or_eq_true, not_or]; exact ⟨(m Zp (by decide)), (m Z01 (by decide))⟩), if_neg (m Z1i (by decide)), if_neg (show ¬ Z3t ⟨ts, none⟩ ≠ 0 from fun e => e dk), if_pos y];refine Agree.isT (fun h => Z4b HD) fun _ => ?_;exact ((I HD).value (d := d)).bind (fun x us hg => Z4b hg) fun t ts e => Z81
theorem Zhw {f d : Nat} {ts : List Tok} {g : Nat} (hg : Zt ts) (hd : d ≤ 30) (I : ∀ {d : Nat} {ts : List Tok}, Zt ts → AG f d ts (g + 3)) (I2 : ∀ {d : Nat} {ts : List Tok}, Zt ts → AG f d ts (g + 2)) (h : isT Z1k ts = true) : Agree (Z4 (f + 1) .stmt d ts) (refF (g + 4) .stmt d ⟨ts, none⟩) := by
 have HD := hg.tail;obtain ⟨n, m⟩ := Z2u h;have y : Zg Z1k ⟨ts, none⟩ = true := by rw [Z0i]; exact h
 have dk := Z3q h;rw [show (if Z1k = Z19 then (2 : Int) else if Z1k = Z1f then 3 else if Z1k = Z02 then 4 else 0) = 0 from by decide] at dk;rw [Z4, refF];simp only [];rw [if_neg (n Zb (by decide)), if_neg (n Zh (by decide)), if_neg (n Z19 (by decide)), if_neg (n Z1f (by decide)), if_neg (n Z02 (by decide)), if_neg (n Z8 (by decide)), if_neg (n s_if (by decide)), if_neg (n Zp (by decide)), if_neg (n Z01 (by decide)), if_neg (n Z0b (by decide)), if_pos h]
 rw [if_neg (show ¬ 30 < d by omega), if_neg (m Zb (by decide)), if_neg (m Zh (by decide)), if_neg (m Z8 (by decide)), if_neg (m s_if (by decide)), if_neg (show ¬ (Zg Zp ⟨ts, none⟩ || Zg Z01 ⟨ts, none⟩) = true by rw [Bool.or_eq_true, not_or]; exact ⟨(m Zp (by decide)), (m Z01 (by decide))⟩), if_neg (m Z1i (by decide)), if_neg (show ¬ Z3t ⟨ts, none⟩ ≠ 0 from fun e => e dk), if_neg (m Z0b (by decide)), if_pos y];exact ((I HD).value (d := d)).bind (fun x us hg => Z4b hg) fun t ts e => Z81
theorem Zjn {f d : Nat} {ts : List Tok} {g : Nat} (hg : Zt ts) (hd : d ≤ 30) (I : ∀ {d : Nat} {ts : List Tok}, Zt ts → AG f d ts (g + 3)) (I2 : ∀ {d : Nat} {ts : List Tok}, Zt ts → AG f d ts (g + 2)) (h : isT Z1i ts = true) : Agree (Z4 (f + 1) .stmt d ts) (refF (g + 4) .stmt d ⟨ts, none⟩) := by
 have HD := hg.tail;obtain ⟨n, m⟩ := Z2u h;have y : Zg Z1i ⟨ts, none⟩ = true := by rw [Z0i]; exact h
 have dk := Z3q h;rw [show (if Z1i = Z19 then (2 : Int) else if Z1i = Z1f then 3 else if Z1i = Z02 then 4 else 0) = 0 from by decide] at dk;rw [Z4, refF];simp only [];rw [if_neg (n Zb (by decide)), if_neg (n Zh (by decide)), if_neg (n Z19 (by decide)), if_neg (n Z1f (by decide)), if_neg (n Z02 (by decide)), if_neg (n Z8 (by decide)), if_neg (n s_if (by decide)), if_neg (n Zp (by decide)), if_neg (n Z01 (by decide)), if_neg (n Z0b (by decide)), if_neg (n Z1k (by decide)), if_pos h]
 rw [if_neg (show ¬ 30 < d by omega), if_neg (m Zb (by decide)), if_neg (m Zh (by decide)), if_neg (m Z8 (by decide)), if_neg (m s_if (by decide)), if_neg (show ¬ (Zg Zp ⟨ts, none⟩ || Zg Z01 ⟨ts, none⟩) = true by rw [Bool.or_eq_true, not_or]; exact ⟨(m Zp (by decide)), (m Z01 (by decide))⟩), if_pos y];exact (I HD).try_
theorem Zj6 {f d : Nat} {ts : List Tok} {g : Nat} (hg : Zt ts) (hd : d ≤ 30) (I : ∀ {d : Nat} {ts : List Tok}, Zt ts → AG f d ts (g + 3)) (I2 : ∀ {d : Nat} {ts : List Tok}, Zt ts → AG f d ts (g + 2)) : Agree (Z4 (f + 1) .stmt d ts) (refF (g + 4) .stmt d ⟨ts, none⟩) := by
 by_cases h_lbrace : isT Zb ts = true;·exact Zf4 hg hd I I2 h_lbrace
 by_cases h_semi : isT Zh ts = true;·exact Zit hg hd I I2 h_semi
 by_cases h_var : isT Z19 ts = true;·exact Zjo hg hd I I2 h_var
 by_cases h_let : isT Z1f ts = true;·exact Zjj hg hd I I2 h_let
 by_cases h_const : isT Z02 ts = true;·exact Zhx hg hd I I2 h_const
 by_cases h_function : isT Z8 ts = true;·exact Zc1 hg hd I I2 h_function
 by_cases h_if : isT s_if ts = true;·exact Zju hg hd I I2 h_if
 by_cases h_while : isT Zp ts = true;·exact Zhf hg hd I I2 h_while
 by_cases h_with : isT Z01 ts = true;·exact Zj5 hg hd I I2 h_with
 by_cases h_return : isT Z0b ts = true;·exact Zfk hg hd I I2 h_return
 by_cases h_throw : isT Z1k ts = true;·exact Zhw hg hd I I2 h_throw
 by_cases h_try : isT Z1i ts = true;·exact Zjn hg hd I I2 h_try
 have m : ∀ s, ¬ isT s ts = true → ¬ Zg s ⟨ts, none⟩ = true := fun s h => by rw [Z0i]; exact h
 have dk : Z3t ⟨ts, none⟩ = 0 := by unfold Z3t; rw [Z0i, Z0i, Z0i, if_neg h_var, if_neg h_let, if_neg h_const]
 rw [Z4, refF];rw [if_neg h_lbrace, if_neg h_semi, if_neg h_var, if_neg h_let, if_neg h_const, if_neg h_function, if_neg h_if, if_neg h_while, if_neg h_with, if_neg h_return, if_neg h_throw, if_neg h_try];rw [if_neg (show ¬ 30 < d by omega), if_neg (m _ h_lbrace), if_neg (m _ h_semi), if_neg (m _ h_function), if_neg (m _ h_if), if_neg (show ¬ (Zg Zp ⟨ts, none⟩ || Zg Z01 ⟨ts, none⟩) = true by rw [Bool.or_eq_true, not_or]; exact ⟨m _ h_while, m _ h_with⟩), if_neg (m _ h_try), if_neg (show ¬ Z3t ⟨ts, none⟩ ≠ 0 from fun e => e dk), if_neg (m _ h_return), if_neg (m _ h_throw)]
 exact ((I hg).value (d := d)).bind (fun x us hg => Z4b hg) fun t ts e => Z81
theorem agree : ∀ (f d : Nat) (ts : List Tok), Zt ts → ∀ g, 2 * f + 8 ≤ g → AG f d ts g := by
 intro f;induction f with
 | zero => intro d ts hg g hf; constructor <;> intros <;> trivial
 | succ f ih =>
   intro d ts hg g hf;obtain ⟨g, rfl⟩ : ∃ g', g = g' + 4 := ⟨g - 4, by omega⟩
   have I : ∀ {d ts}, Zt ts → AG f d ts (g + 3) := fun h => ih _ _ h _ (by omega);have I2 : ∀ {d ts}, Zt ts → AG f d ts (g + 2) := fun h => ih _ _ h _ (by omega);have I4 : ∀ {d ts}, Zt ts → AG f d ts (g + 4) := fun h => ih _ _ h _ (by omega);constructor;case prog => exact Zi5 hg I I4
   case stmts => exact Zhi hg I I4
   case block => exact Zgu hg I I4
   case func => exact Zj8 hg I I4
   case params => exact Zgl hg I I4
   case around => exact Zg5 hg I I4
   case stmt => exact fun hd => Zj6 hg hd I I2
   case decl => exact Ziz hg I I4
   case try_ => exact Zin hg I I4
   case value => exact Zhv hg I I4
   case assign => exact Zg4 hg I I4
   case bin => exact Zjm hg I I4
   case binLoop => exact Zdw hg I I4
   case unary => exact Zhg hg I I4
   case postfix_ => exact Zbt hg I I4
   case postLoop => exact Zci hg I I4
   case args => exact Zih hg I I4
   case primary => exact Zdv hg I I4
   case object => exact Zgn hg I I4
end Go.Proofs.YtgmnfgljkocnpaaGreatDoor
