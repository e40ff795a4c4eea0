/- The document's answer: what its reading computes, and that it is what package tree's computes. -/
import Derived.Test.YtilchadbjflpgaaGreatDoorJ01
import Derived.Test.YtilchadbjflpgaaGreatDoorJ04
namespace Go.Proofs.YtilchadbjflpgaaGreatDoor
open Go Go.RowKit
set_option maxRecDepth 100000
structure RS where
 ts : List Tok
 f : Option (Int × Nat)
def gT : Tree := .mk 0 ByteArray.empty 0 []
def failR (e : Int) (σ : RS) : RS := if σ.f.isNone then ⟨σ.ts, some (e, (hdT σ.ts).at')⟩ else σ
def nextR (s : ByteArray) (σ : RS) : Bool := σ.f.isNone && isT s σ.ts
def advR (σ : RS) : RS := ⟨σ.ts.tail, σ.f⟩
def mustR (s : ByteArray) (σ : RS) : RS := if σ.f.isNone then (if isT s σ.ts then advR σ else failR 3 σ) else σ
def identR (σ : RS) : ByteArray × RS := if σ.f.isNone then (if (hdT σ.ts).kind = 1 then ((hdT σ.ts).text, advR σ) else (ByteArray.empty, failR 3 σ)) else (ByteArray.empty, σ)
abbrev RR := Option (Tree × RS)
def bindR (p : RR) (k : Tree → RS → RR) : RR := match p with | none => none | some (t, σ) => k t σ
def signK (s : ByteArray) : Int := if sameS s s_or then 25 else if sameS s s_and then 26 else if sameS s s_same then 27 else if sameS s s_less then 28 else if sameS s s_add then 29 else if sameS s s_sub then 30 else if sameS s s_mul then 31 else 0
def fitsR (level : Nat) (s : ByteArray) : Bool :=
 match level with
 | 0 => sameS s s_or
 | 1 => sameS s s_and
 | 2 => sameS s s_same
 | 3 => sameS s s_less
 | 4 => sameS s s_add || sameS s s_sub
 | 5 => sameS s s_mul
 | _ => false
def unaryR (σ : RS) : Int := if nextR s_not σ then 32 else if nextR s_typeof σ then 33 else if nextR s_delete σ then 34 else 0
def constK (s : ByteArray) : Int := if sameS s s_true then 19 else if sameS s s_false then 20 else if sameS s s_null then 21 else if sameS s s_undefined then 22 else 0
inductive RJob
 | prog (acc : List Tree)
 | braces (body : Bool)
 | bracesL (acc : List Tree)
 | params (acc : List Tree)
 | args (acc : List Tree)
 | props (acc : List Tree)
 | func (kind : Int) (text : ByteArray)
 | head
 | stmt
 | stmt2
 | value
 | pairs (level : Nat)
 | pairsL (level : Nat) (x : Tree)
 | single
 | singleL (x : Tree)
 | first
def commaR (c : Bool) (σ : RS) : RS := if c then mustR s_comma σ else σ
def fullR (c : Bool) (σ : RS) : RS := if c then failR 4 σ else σ
def tryF (l : List Tree) (σ : RS) : RR := some (.mk 12 ByteArray.empty 0 l, if l.length = 1 then failR 3 σ else σ)
def declK (σ : RS) : Int := if nextR s_var σ then 2 else if nextR s_let σ then 3 else if nextR s_const σ then 4 else 0
def mustEq (k : Int) (σ : RS) : RS := if decide (k = 4) && σ.f.isNone && !nextR s_eq σ then failR 3 σ else σ
def refF : Nat → RJob → Nat → RS → RR
 | 0, _, _, _ => none
 | f + 1, .prog acc, d, σ =>
   if σ.f.isNone && !decide ((hdT σ.ts).kind = 6) then bindR (refF f .stmt 1 σ) fun x σ => refF f (.prog (acc ++ [x])) d σ
   else some (.mk 0 ByteArray.empty 0 acc, σ)
 | f + 1, .braces body, d, σ =>
   bindR (refF f (.bracesL []) d (mustR s_lbrace σ)) fun l σ =>
    some (.mk 6 (if body && (mustR s_rbrace σ).f.isNone && strictL l.kids then s_strict else ByteArray.empty) 0 l.kids, mustR s_rbrace σ)
 | f + 1, .bracesL acc, d, σ =>
   if σ.f.isNone && !nextR s_rbrace σ then bindR (refF f .stmt (d + 1) σ) fun x σ => refF f (.bracesL (acc ++ [x])) d σ
   else some (.mk 0 ByteArray.empty 0 acc, σ)
 | f + 1, .params acc, d, σ =>
   if σ.f.isNone && !nextR s_rpar σ then
    if (fullR (decide (acc.length = 8)) (commaR (decide (0 < acc.length)) σ)).f.isNone then
     refF f (.params (acc ++ [.mk 23 (identR (fullR (decide (acc.length = 8)) (commaR (decide (0 < acc.length)) σ))).1 0 []])) d (identR (fullR (decide (acc.length = 8)) (commaR (decide (0 < acc.length)) σ))).2
    else refF f (.params acc) d (fullR (decide (acc.length = 8)) (commaR (decide (0 < acc.length)) σ))
   else some (.mk 0 ByteArray.empty 0 acc, mustR s_rpar σ)
 | f + 1, .args acc, d, σ =>
   if σ.f.isNone && !nextR s_rpar σ then
    if (fullR (decide (acc.length = 8)) (commaR (decide (0 < acc.length)) σ)).f.isNone then
     bindR (refF f .value (d + 1) (fullR (decide (acc.length = 8)) (commaR (decide (0 < acc.length)) σ))) fun v σ => refF f (.args (acc ++ [v])) d σ
    else refF f (.args acc) d (fullR (decide (acc.length = 8)) (commaR (decide (0 < acc.length)) σ))
   else some (.mk 0 ByteArray.empty 0 acc, mustR s_rpar σ)
 | f + 1, .props acc, d, σ =>
   if σ.f.isNone && !nextR s_rbrace σ then
    if (fullR (decide (acc.length = 8)) (commaR (decide (0 < acc.length)) σ)).f.isNone then
     bindR (refF f .value (d + 1) (mustR s_colon (identR (fullR (decide (acc.length = 8)) (commaR (decide (0 < acc.length)) σ))).2)) fun v σ' =>
      refF f (.props (acc ++ [.mk 39 (identR (fullR (decide (acc.length = 8)) (commaR (decide (0 < acc.length)) σ))).1 0 [v]])) d σ'
    else refF f (.props acc) d (fullR (decide (acc.length = 8)) (commaR (decide (0 < acc.length)) σ))
   else some (.mk 0 ByteArray.empty 0 acc, mustR s_rbrace σ)
 | f + 1, .func kind text, d, σ =>
   bindR (refF f (.params []) d (mustR s_lpar σ)) fun l σ => bindR (refF f (.braces true) d σ) fun b σ => some (.mk kind text 0 [.mk 40 ByteArray.empty 0 l.kids, b], σ)
 | f + 1, .head, d, σ => bindR (refF f .value (d + 1) (mustR s_lpar σ)) fun x σ => some (x, mustR s_rpar σ)
 | f + 1, .stmt, d, σ =>
   if 30 < d then some (gT, failR 4 σ)
   else if nextR s_lbrace σ then refF f (.braces false) d σ
   else if nextR s_semi σ then some (.mk 16 ByteArray.empty 0 [], advR σ)
   else if nextR s_function σ then refF f (.func 5 (identR (advR σ)).1) d (identR (advR σ)).2
   else if nextR s_if σ then
    bindR (refF f .head d (advR σ)) fun x σ => bindR (refF f .stmt2 d σ) fun y σ =>
     if nextR s_else σ then bindR (refF f .stmt2 d (advR σ)) fun z σ => some (.mk 7 ByteArray.empty 0 [x, y, z], σ)
     else some (.mk 7 ByteArray.empty 0 [x, y], σ)
   else if nextR s_while σ || nextR s_with σ then
    bindR (refF f .head d (advR σ)) fun x σ1 => bindR (refF f .stmt2 d σ1) fun y σ2 => some (.mk (if nextR s_with σ then 9 else 8) ByteArray.empty 0 [x, y], σ2)
   else if nextR s_try σ then
    bindR (refF f (.braces false) d (advR σ)) fun b σ =>
     (fun (k : List Tree → RS → RR) =>
      if nextR s_catch σ then
       bindR (refF f (.braces false) d (mustR s_rpar (identR (mustR s_lpar (advR σ))).2)) fun c σ' => k [b, .mk 13 (identR (mustR s_lpar (advR σ))).1 0 [c]] σ'
      else k [b] σ) fun l σ =>
     if nextR s_finally σ then bindR (refF f (.braces false) d (advR σ)) fun c σ => tryF (l ++ [.mk 14 ByteArray.empty 0 [c]]) σ
     else tryF l σ
   else if declK σ ≠ 0 then
    if nextR s_eq (mustEq (declK σ) (identR (advR σ)).2) then
     bindR (refF f .value (d + 1) (advR (mustEq (declK σ) (identR (advR σ)).2))) fun x σ' => some (.mk (declK σ) (identR (advR σ)).1 0 [x], mustR s_semi σ')
    else some (.mk (declK σ) (identR (advR σ)).1 0 [], mustR s_semi (mustEq (declK σ) (identR (advR σ)).2))
   else if nextR s_return σ then
    if nextR s_semi (advR σ) then some (.mk 10 ByteArray.empty 0 [], mustR s_semi (advR σ))
    else bindR (refF f .value (d + 1) (advR σ)) fun x σ => some (.mk 10 ByteArray.empty 0 [x], mustR s_semi σ)
   else if nextR s_throw σ then bindR (refF f .value (d + 1) (advR σ)) fun x σ => some (.mk 11 ByteArray.empty 0 [x], mustR s_semi σ)
   else bindR (refF f .value (d + 1) σ) fun x σ => some (.mk 15 ByteArray.empty 0 [x], mustR s_semi σ)
 | f + 1, .stmt2, d, σ => if σ.f.isNone then refF f .stmt (d + 1) σ else some (gT, σ)
 | f + 1, .value, d, σ =>
   if σ.f.isNone then
    if 30 < d then some (gT, failR 4 σ)
    else bindR (refF f (.pairs 0) d σ) fun x σ1 =>
     if nextR s_eq σ1 then
      if x.kind = 23 ∨ x.kind = 36 then bindR (refF f .value (d + 1) (advR σ1)) fun y σ2 => some (.mk 24 ByteArray.empty 0 [x, y], σ2)
      else some (gT, failR 1 ⟨σ.ts, σ1.f⟩)
     else some (x, σ1)
   else some (gT, σ)
 | f + 1, .pairs level, d, σ =>
   if 6 ≤ level then refF f .single d σ
   else bindR (refF f (.pairs (level + 1)) d σ) fun x σ => refF f (.pairsL level x) d σ
 | f + 1, .pairsL level x, d, σ =>
   if σ.f.isNone && decide ((hdT σ.ts).kind = 5) && fitsR level (hdT σ.ts).text then
    bindR (refF f (.pairs (level + 1)) d (advR σ)) fun y σ' => refF f (.pairsL level (.mk (signK (hdT σ.ts).text) ByteArray.empty 0 [x, y])) d σ'
   else some (x, σ)
 | f + 1, .single, d, σ =>
   if unaryR σ ≠ 0 then
    if 30 < d + 1 then some (gT, failR 4 (advR σ))
    else bindR (refF f .single (d + 1) (advR σ)) fun x σ' => some (.mk (unaryR σ) ByteArray.empty 0 [x], σ')
   else bindR (refF f .first d σ) fun x σ => refF f (.singleL x) d σ
 | f + 1, .singleL x, d, σ =>
   if nextR s_dot σ then refF f (.singleL (.mk 36 (identR (advR σ)).1 0 [x])) d (identR (advR σ)).2
   else if nextR s_lpar σ then bindR (refF f (.args []) d (advR σ)) fun l σ => refF f (.singleL (.mk 35 ByteArray.empty 0 (x :: l.kids))) d σ
   else some (x, σ)
 | f + 1, .first, d, σ =>
   if σ.f.isNone then
    if (hdT σ.ts).kind = 1 then some (.mk 23 (hdT σ.ts).text 0 [], advR σ)
    else if (hdT σ.ts).kind = 3 then some (.mk 17 ByteArray.empty (hdT σ.ts).n [], advR σ)
    else if (hdT σ.ts).kind = 4 then some (.mk 18 (hdT σ.ts).text 0 [], advR σ)
    else if nextR s_lpar σ then refF f .head d σ
    else if nextR s_function σ then
     if (hdT (advR σ).ts).kind = 1 then refF f (.func 37 (identR (advR σ)).1) d (identR (advR σ)).2
     else refF f (.func 37 ByteArray.empty) d (advR σ)
    else if nextR s_lbrace σ then bindR (refF f (.props []) d (advR σ)) fun l σ => some (.mk 38 ByteArray.empty 0 l.kids, σ)
    else if (hdT σ.ts).kind = 2 ∧ constK (hdT σ.ts).text ≠ 0 then some (.mk (constK (hdT σ.ts).text) ByteArray.empty 0 [], advR σ)
    else some (gT, failR 3 σ)
   else some (gT, σ)
def Stays (r : RR) (e : Int × Nat) : Prop := ∃ t ts, r = some (t, ⟨ts, some e⟩)
theorem must_err (s : ByteArray) (ts : List Tok) (e : Int × Nat) : mustR s ⟨ts, some e⟩ = ⟨ts, some e⟩ := rfl
theorem next_err (s : ByteArray) (ts : List Tok) (e : Int × Nat) : nextR s ⟨ts, some e⟩ = false := rfl
theorem ident_err (ts : List Tok) (e : Int × Nat) : identR ⟨ts, some e⟩ = (ByteArray.empty, ⟨ts, some e⟩) := rfl
theorem value_err (f d : Nat) (ts : List Tok) (e : Int × Nat) : refF (f + 1) .value d ⟨ts, some e⟩ = some (gT, ⟨ts, some e⟩) := by simp [refF]
theorem stmt2_err (f d : Nat) (ts : List Tok) (e : Int × Nat) : refF (f + 1) .stmt2 d ⟨ts, some e⟩ = some (gT, ⟨ts, some e⟩) := by simp [refF]
theorem params_err (f d : Nat) (acc : List Tree) (ts : List Tok) (e : Int × Nat) : refF (f + 1) (.params acc) d ⟨ts, some e⟩ = some (.mk 0 ByteArray.empty 0 acc, ⟨ts, some e⟩) := by simp [refF, must_err]
theorem args_err (f d : Nat) (acc : List Tree) (ts : List Tok) (e : Int × Nat) : refF (f + 1) (.args acc) d ⟨ts, some e⟩ = some (.mk 0 ByteArray.empty 0 acc, ⟨ts, some e⟩) := by simp [refF, must_err]
theorem props_err (f d : Nat) (acc : List Tree) (ts : List Tok) (e : Int × Nat) : refF (f + 1) (.props acc) d ⟨ts, some e⟩ = some (.mk 0 ByteArray.empty 0 acc, ⟨ts, some e⟩) := by simp [refF, must_err]
theorem bracesL_err (f d : Nat) (acc : List Tree) (ts : List Tok) (e : Int × Nat) : refF (f + 1) (.bracesL acc) d ⟨ts, some e⟩ = some (.mk 0 ByteArray.empty 0 acc, ⟨ts, some e⟩) := by simp [refF]
theorem prog_err (f d : Nat) (acc : List Tree) (ts : List Tok) (e : Int × Nat) : refF (f + 1) (.prog acc) d ⟨ts, some e⟩ = some (.mk 0 ByteArray.empty 0 acc, ⟨ts, some e⟩) := by simp [refF]
theorem braces_err (f d : Nat) (b : Bool) (ts : List Tok) (e : Int × Nat) : refF (f + 2) (.braces b) d ⟨ts, some e⟩ = some (.mk 6 ByteArray.empty 0 [], ⟨ts, some e⟩) := by
 rw [refF, must_err, bracesL_err]; simp [bindR, must_err, Tree.kids]
theorem pairsL_err (f d lv : Nat) (x : Tree) (ts : List Tok) (e : Int × Nat) : refF (f + 1) (.pairsL lv x) d ⟨ts, some e⟩ = some (x, ⟨ts, some e⟩) := by simp [refF]
theorem singleL_err (f d : Nat) (x : Tree) (ts : List Tok) (e : Int × Nat) : refF (f + 1) (.singleL x) d ⟨ts, some e⟩ = some (x, ⟨ts, some e⟩) := by simp [refF, next_err]
theorem func_err (f d : Nat) (k : Int) (s : ByteArray) (ts : List Tok) (e : Int × Nat) : Stays (refF (f + 3) (.func k s) d ⟨ts, some e⟩) e := by
 rw [refF, must_err, params_err]
 simp only [bindR]
 rw [braces_err]
 exact ⟨_, _, rfl⟩
def GoodT (t : Tok) : Prop := (t.kind = 2 → signK t.text = 0) ∧ (t.kind = 5 → constK t.text = 0)
def Goods (ts : List Tok) : Prop := ∀ t ∈ ts, GoodT t
theorem Goods.tail {ts : List Tok} (h : Goods ts) : Goods ts.tail := fun t ht => h t (List.mem_of_mem_tail ht)
theorem Goods.hd {ts : List Tok} (h : Goods ts) : GoodT (hdT ts) := by
 cases ts with
 | nil => exact ⟨fun h => by simp [hdT] at h, fun h => by simp [hdT] at h⟩
 | cons t l => exact h t (by simp)
def Agree (p : PR) (q : RR) : Prop :=
 match p with
 | none => True
 | some (.ok (t, ts)) => q = some (t, ⟨ts, none⟩) ∧ Goods ts
 | some (.error e) => Stays q e
theorem Agree.ok {t : Tree} {ts : List Tok} (h : Goods ts) : Agree (okT t ts) (some (t, ⟨ts, none⟩)) := ⟨rfl, h⟩
theorem Agree.fail {k : Int} {t : Tree} {ts : List Tok} : Agree (failT k ts) (some (t, failR k ⟨ts, none⟩)) := ⟨_, _, rfl⟩
theorem Agree.bind {p : PR} {q : RR} {k : Tree → List Tok → PR} {m : Tree → RS → RR} (h : Agree p q) (hk : ∀ t ts, Goods ts → Agree (k t ts) (m t ⟨ts, none⟩)) (he : ∀ t ts e, Stays (m t ⟨ts, some e⟩) e) :
 Agree (bindT p k) (bindR q m) := by
 cases p with
 | none => trivial
 | some r =>
   cases r with
   | error e => obtain ⟨t, ts, rfl⟩ := h; exact he t ts e
   | ok x => obtain ⟨t, ts⟩ := x; obtain ⟨rfl, hg⟩ := h; exact hk t ts hg
theorem Agree.want {s : ByteArray} {ts : List Tok} {k : List Tok → PR} {m : RS → RR} (hg : Goods ts) (hk : Goods ts.tail → Agree (k ts.tail) (m ⟨ts.tail, none⟩)) (he : ∀ ts e, Stays (m ⟨ts, some e⟩) e) :
 Agree (wantT s ts k) (m (mustR s ⟨ts, none⟩)) := by
 unfold wantT mustR
 by_cases h : isT s ts = true
 ·simp only [h, Option.isNone_none, if_true]; exact hk hg.tail
 ·simp only [h, Option.isNone_none, if_true]; exact he _ _
theorem Agree.name {ts : List Tok} {k : ByteArray → List Tok → PR} {m : ByteArray → RS → RR} (hg : Goods ts) (hk : ∀ s, Goods ts.tail → Agree (k s ts.tail) (m s ⟨ts.tail, none⟩)) (he : ∀ s ts e, Stays (m s ⟨ts, some e⟩) e) :
 Agree (nameT ts k) (m (identR ⟨ts, none⟩).1 (identR ⟨ts, none⟩).2) := by
 unfold nameT identR
 by_cases h : (hdT ts).kind = 1
 ·simp only [h, Option.isNone_none, if_true]; exact hk _ hg.tail
 ·simp only [h, Option.isNone_none, if_true, if_false]; exact he _ _ _
theorem Agree.ite {c : Prop} [Decidable c] {c' : Bool} {p1 p2 : PR} {q1 q2 : RR} (h : c ↔ c' = true) (h1 : c → Agree p1 q1) (h2 : ¬ c → Agree p2 q2) : Agree (if c then p1 else p2) (if c' = true then q1 else q2) := by
 by_cases hc : c
 ·rw [if_pos hc, if_pos (h.1 hc)]; exact h1 hc
 ·rw [if_neg hc, if_neg (fun e => hc (h.2 e))]; exact h2 hc
theorem Agree.within {d : Nat} {ts : List Tok} {p : PR} {q : RR} {t : Tree} (h : d + 1 ≤ 30 → Agree p q) : Agree (withinT d ts p) (if 30 < d + 1 then some (t, failR 4 ⟨ts, none⟩) else q) := by
 unfold withinT
 by_cases hd : 30 < d + 1
 ·rw [if_pos hd, if_pos hd]; exact Agree.fail
 ·rw [if_neg hd, if_neg hd]; exact h (by omega)
theorem next_ok (s : ByteArray) (ts : List Tok) : nextR s ⟨ts, none⟩ = isT s ts := by simp [nextR]
end Go.Proofs.YtilchadbjflpgaaGreatDoor
