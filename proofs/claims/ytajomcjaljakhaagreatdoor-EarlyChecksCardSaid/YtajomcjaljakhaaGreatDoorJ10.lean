/- The document's answer: what its reading computes, and that it is what -/
import Derived.Test.YtajomcjaljakhaaGreatDoorJ06
namespace Go.Proofs.YtajomcjaljakhaaGreatDoor
open Go Go.RowKit
set_option maxRecDepth 100000
set_option maxHeartbeats 20000000
structure RS where
 ts:List Tok
 f:Option (Int×Nat)
def gT:Tree:=.mk 0 ByteArray.empty 0 []
def Z32 (e:Int) (σ:RS):RS:=if σ.f.isNone then ⟨σ.ts,some (e,(hdT σ.ts).at')⟩ else σ
def Ze (s:ByteArray) (σ:RS):Bool:=σ.f.isNone && isT s σ.ts
def advR (σ:RS):RS:=⟨σ.ts.tail,σ.f⟩
def Z0a (s:ByteArray) (σ:RS):RS:=if σ.f.isNone then (if isT s σ.ts then advR σ else Z32 3 σ) else σ
def Zk (σ:RS):ByteArray×RS:=if σ.f.isNone then (if (hdT σ.ts).kind=1 then ((hdT σ.ts).text,advR σ) else (ByteArray.empty,Z32 3 σ)) else (ByteArray.empty,σ)
abbrev RR:=Option (Tree×RS)
def Z02 (p:RR) (k:Tree→RS→RR):RR:=match p with | none=>none | some (t,σ)=>k t σ
def Z30 (s:ByteArray):Int:=if Zp s s_or then 25 else if Zp s Z6d then 26 else if Zp s Z4a then 27 else if Zp s Z46 then 28 else if Zp s Z4r then 29 else if Zp s Z56 then 30 else if Zp s Z6e then 31 else 0
def Z55 (level:Nat) (s:ByteArray):Bool:=
 match level with
 | 0=>Zp s s_or
 | 1=>Zp s Z6d
 | 2=>Zp s Z4a
 | 3=>Zp s Z46
 | 4=>Zp s Z4r || Zp s Z56
 | 5=>Zp s Z6e
 | _=>false
def Z5x (σ:RS):Int:=if Ze Z54 σ then 32 else if Ze Z1m σ then 33 else if Ze Z20 σ then 34 else 0
def Z2q (s:ByteArray):Int:=if Zp s Z4n then 19 else if Zp s Z3g then 20 else if Zp s Z5f then 21 else if Zp s Z1g then 22 else 0
inductive RJob
 | prog (acc:List Tree)
 | braces (body:Bool)
 | bracesL (acc:List Tree)
 | params (acc:List Tree)
 | args (acc:List Tree)
 | props (acc:List Tree)
 | func (kind:Int) (text:ByteArray)
 | head
 | stmt
 | stmt2
 | value
 | pairs (level:Nat)
 | pairsL (level:Nat) (x:Tree)
 | single
 | singleL (x:Tree)
 | first
def Z3l (c:Bool) (σ:RS):RS:=if c then Z0a Z0n σ else σ
def Z52 (c:Bool) (σ:RS):RS:=if c then Z32 4 σ else σ
def tryF (l:List Tree) (σ:RS):RR:=some (.mk 12 ByteArray.empty 0 l,if l.length=1 then Z32 3 σ else σ)
def Z3z (σ:RS):Int:=if Ze Z1a σ then 2 else if Ze Z1h σ then 3 else if Ze Z01 σ then 4 else 0
def Z1t (k:Int) (σ:RS):RS:=if decide (k=4) && σ.f.isNone && !Ze s_eq σ then Z32 3 σ else σ
def refF:Nat→RJob→Nat→RS→RR
 | 0,_,_,_=>none
 | f + 1, .prog acc, d, σ =>
   if σ.f.isNone && !decide ((hdT σ.ts).kind=6) then Z02 (refF f .stmt 1 σ) fun x σ=>refF f (.prog (acc ++ [x])) d σ
   else some (.mk 0 ByteArray.empty 0 acc,σ)
 | f + 1, .braces body, d, σ =>
   Z02 (refF f (.bracesL []) d (Z0a Zc σ)) fun l σ=>
    some (.mk 6 (if body && (Z0a Zl σ).f.isNone && Z1u l.kids then Z03 else ByteArray.empty) 0 l.kids,Z0a Zl σ)
 | f + 1, .bracesL acc, d, σ =>
   if σ.f.isNone && !Ze Zl σ then Z02 (refF f .stmt (d + 1) σ) fun x σ=>refF f (.bracesL (acc ++ [x])) d σ
   else some (.mk 0 ByteArray.empty 0 acc,σ)
 | f + 1, .params acc, d, σ =>
   if σ.f.isNone && !Ze Z08 σ then
    if (Z52 (decide (acc.length=8)) (Z3l (decide (0 < acc.length)) σ)).f.isNone then
     refF f (.params (acc ++ [.mk 23 (Zk (Z52 (decide (acc.length=8)) (Z3l (decide (0 < acc.length)) σ))).1 0 []])) d (Zk (Z52 (decide (acc.length=8)) (Z3l (decide (0 < acc.length)) σ))).2
    else refF f (.params acc) d (Z52 (decide (acc.length=8)) (Z3l (decide (0 < acc.length)) σ))
   else some (.mk 0 ByteArray.empty 0 acc,Z0a Z08 σ)
 | f + 1, .args acc, d, σ =>
   if σ.f.isNone && !Ze Z08 σ then
    if (Z52 (decide (acc.length=8)) (Z3l (decide (0 < acc.length)) σ)).f.isNone then
     Z02 (refF f .value (d + 1) (Z52 (decide (acc.length=8)) (Z3l (decide (0 < acc.length)) σ))) fun v σ=>refF f (.args (acc ++ [v])) d σ
    else refF f (.args acc) d (Z52 (decide (acc.length=8)) (Z3l (decide (0 < acc.length)) σ))
   else some (.mk 0 ByteArray.empty 0 acc,Z0a Z08 σ)
 | f + 1, .props acc, d, σ =>
   if σ.f.isNone && !Ze Zl σ then
    if (Z52 (decide (acc.length=8)) (Z3l (decide (0 < acc.length)) σ)).f.isNone then
     Z02 (refF f .value (d + 1) (Z0a Z2r (Zk (Z52 (decide (acc.length=8)) (Z3l (decide (0 < acc.length)) σ))).2)) fun v σ'=>
      refF f (.props (acc ++ [.mk 39 (Zk (Z52 (decide (acc.length=8)) (Z3l (decide (0 < acc.length)) σ))).1 0 [v]])) d σ'
    else refF f (.props acc) d (Z52 (decide (acc.length=8)) (Z3l (decide (0 < acc.length)) σ))
   else some (.mk 0 ByteArray.empty 0 acc,Z0a Zl σ)
 | f + 1, .func kind text, d, σ =>
   Z02 (refF f (.params []) d (Z0a Z07 σ)) fun l σ=>Z02 (refF f (.braces true) d σ) fun b σ=>some (.mk kind text 0 [.mk 40 ByteArray.empty 0 l.kids,b],σ)
 | f + 1,.head,d,σ=>Z02 (refF f .value (d + 1) (Z0a Z07 σ)) fun x σ=>some (x,Z0a Z08 σ)
 | f + 1, .stmt, d, σ =>
   if 30 < d then some (gT,Z32 4 σ)
   else if Ze Zc σ then refF f (.braces false) d σ
   else if Ze Zh σ then some (.mk 16 ByteArray.empty 0 [],advR σ)
   else if Ze Z9 σ then refF f (.func 5 (Zk (advR σ)).1) d (Zk (advR σ)).2
   else if Ze s_if σ then
    Z02 (refF f .head d (advR σ)) fun x σ=>Z02 (refF f .stmt2 d σ) fun y σ=>
     if Ze Z59 σ then Z02 (refF f .stmt2 d (advR σ)) fun z σ=>some (.mk 7 ByteArray.empty 0 [x,y,z],σ)
     else some (.mk 7 ByteArray.empty 0 [x,y],σ)
   else if Ze Zu σ || Ze Z05 σ then
    Z02 (refF f .head d (advR σ)) fun x σ1=>Z02 (refF f .stmt2 d σ1) fun y σ2=>some (.mk (if Ze Z05 σ then 9 else 8) ByteArray.empty 0 [x,y],σ2)
   else if Ze Z26 σ then
    Z02 (refF f (.braces false) d (advR σ)) fun b σ=>
     (fun (k : List Tree → RS → RR) =>
      if Ze Z2e σ then
       Z02 (refF f (.braces false) d (Z0a Z08 (Zk (Z0a Z07 (advR σ))).2)) fun c σ'=>k [b,.mk 13 (Zk (Z0a Z07 (advR σ))).1 0 [c]] σ'
      else k [b] σ) fun l σ=>
     if Ze Zx σ then Z02 (refF f (.braces false) d (advR σ)) fun c σ=>tryF (l ++ [.mk 14 ByteArray.empty 0 [c]]) σ
     else tryF l σ
   else if Z3z σ≠0 then
    if Ze s_eq (Z1t (Z3z σ) (Zk (advR σ)).2) then
     Z02 (refF f .value (d + 1) (advR (Z1t (Z3z σ) (Zk (advR σ)).2))) fun x σ'=>some (.mk (Z3z σ) (Zk (advR σ)).1 0 [x],Z0a Zh σ')
    else some (.mk (Z3z σ) (Zk (advR σ)).1 0 [],Z0a Zh (Z1t (Z3z σ) (Zk (advR σ)).2))
   else if Ze Z0d σ then
    if Ze Zh (advR σ) then some (.mk 10 ByteArray.empty 0 [],Z0a Zh (advR σ))
    else Z02 (refF f .value (d + 1) (advR σ)) fun x σ=>some (.mk 10 ByteArray.empty 0 [x],Z0a Zh σ)
   else if Ze Z1n σ then Z02 (refF f .value (d + 1) (advR σ)) fun x σ=>some (.mk 11 ByteArray.empty 0 [x],Z0a Zh σ)
   else Z02 (refF f .value (d + 1) σ) fun x σ=>some (.mk 15 ByteArray.empty 0 [x],Z0a Zh σ)
 | f + 1,.stmt2,d,σ=>if σ.f.isNone then refF f .stmt (d + 1) σ else some (gT,σ)
 | f + 1, .value, d, σ =>
   if σ.f.isNone then
    if 30 < d then some (gT,Z32 4 σ)
    else Z02 (refF f (.pairs 0) d σ) fun x σ1=>
     if Ze s_eq σ1 then
      if x.kind=23∨x.kind=36 then Z02 (refF f .value (d + 1) (advR σ1)) fun y σ2=>some (.mk 24 ByteArray.empty 0 [x,y],σ2)
      else some (gT,Z32 1 ⟨σ.ts,σ1.f⟩)
     else some (x,σ1)
   else some (gT,σ)
 | f + 1, .pairs level, d, σ =>
   if 6≤level then refF f .single d σ
   else Z02 (refF f (.pairs (level + 1)) d σ) fun x σ=>refF f (.pairsL level x) d σ
 | f + 1, .pairsL level x, d, σ =>
   if σ.f.isNone && decide ((hdT σ.ts).kind=5) && Z55 level (hdT σ.ts).text then
    Z02 (refF f (.pairs (level + 1)) d (advR σ)) fun y σ'=>refF f (.pairsL level (.mk (Z30 (hdT σ.ts).text) ByteArray.empty 0 [x,y])) d σ'
   else some (x,σ)
 | f + 1, .single, d, σ =>
   if Z5x σ≠0 then
    if 30 < d + 1 then some (gT,Z32 4 (advR σ))
    else Z02 (refF f .single (d + 1) (advR σ)) fun x σ'=>some (.mk (Z5x σ) ByteArray.empty 0 [x],σ')
   else Z02 (refF f .first d σ) fun x σ=>refF f (.singleL x) d σ
 | f + 1, .singleL x, d, σ =>
   if Ze Z8o σ then refF f (.singleL (.mk 36 (Zk (advR σ)).1 0 [x])) d (Zk (advR σ)).2
   else if Ze Z07 σ then Z02 (refF f (.args []) d (advR σ)) fun l σ=>refF f (.singleL (.mk 35 ByteArray.empty 0 (x :: l.kids))) d σ
   else some (x,σ)
 | f + 1, .first, d, σ =>
   if σ.f.isNone then
    if (hdT σ.ts).kind=1 then some (.mk 23 (hdT σ.ts).text 0 [],advR σ)
    else if (hdT σ.ts).kind=3 then some (.mk 17 ByteArray.empty (hdT σ.ts).n [],advR σ)
    else if (hdT σ.ts).kind=4 then some (.mk 18 (hdT σ.ts).text 0 [],advR σ)
    else if Ze Z07 σ then refF f .head d σ
    else if Ze Z9 σ then
     if (hdT (advR σ).ts).kind=1 then refF f (.func 37 (Zk (advR σ)).1) d (Zk (advR σ)).2
     else refF f (.func 37 ByteArray.empty) d (advR σ)
    else if Ze Zc σ then Z02 (refF f (.props []) d (advR σ)) fun l σ=>some (.mk 38 ByteArray.empty 0 l.kids,σ)
    else if (hdT σ.ts).kind=2∧Z2q (hdT σ.ts).text≠0 then some (.mk (Z2q (hdT σ.ts).text) ByteArray.empty 0 [],advR σ)
    else some (gT,Z32 3 σ)
   else some (gT,σ)
def Z1b (r:RR) (e:Int×Nat):Prop:=∃ t ts,r=some (t,⟨ts,some e⟩)
theorem Z4c (s:ByteArray) (ts:List Tok) (e:Int×Nat):Z0a s ⟨ts,some e⟩=⟨ts,some e⟩:=rfl
theorem Z4y (s:ByteArray) (ts:List Tok) (e:Int×Nat):Ze s ⟨ts,some e⟩=false:=rfl
theorem Zh6 (ts:List Tok) (e:Int×Nat):Zk ⟨ts,some e⟩=(ByteArray.empty,⟨ts,some e⟩):=rfl
theorem Z8q (f d:Nat) (ts:List Tok) (e:Int×Nat):refF (f + 1) .value d ⟨ts,some e⟩=some (gT,⟨ts,some e⟩):=by simp [refF]
theorem Z8y (f d:Nat) (ts:List Tok) (e:Int×Nat):refF (f + 1) .stmt2 d ⟨ts,some e⟩=some (gT,⟨ts,some e⟩):=by simp [refF]
theorem Z6b (f d:Nat) (acc:List Tree) (ts:List Tok) (e:Int×Nat):refF (f + 1) (.params acc) d ⟨ts,some e⟩=some (.mk 0 ByteArray.empty 0 acc,⟨ts,some e⟩):=by simp [refF,Z4c]
theorem Zek (f d:Nat) (acc:List Tree) (ts:List Tok) (e:Int×Nat):refF (f + 1) (.args acc) d ⟨ts,some e⟩=some (.mk 0 ByteArray.empty 0 acc,⟨ts,some e⟩):=by simp [refF,Z4c]
theorem Z71 (f d:Nat) (acc:List Tree) (ts:List Tok) (e:Int×Nat):refF (f + 1) (.props acc) d ⟨ts,some e⟩=some (.mk 0 ByteArray.empty 0 acc,⟨ts,some e⟩):=by simp [refF,Z4c]
theorem Z6j (f d:Nat) (acc:List Tree) (ts:List Tok) (e:Int×Nat):refF (f + 1) (.bracesL acc) d ⟨ts,some e⟩=some (.mk 0 ByteArray.empty 0 acc,⟨ts,some e⟩):=by simp [refF]
theorem Zj0 (f d:Nat) (acc:List Tree) (ts:List Tok) (e:Int×Nat):refF (f + 1) (.prog acc) d ⟨ts,some e⟩=some (.mk 0 ByteArray.empty 0 acc,⟨ts,some e⟩):=by simp [refF]
theorem Z4g (f d:Nat) (b:Bool) (ts:List Tok) (e:Int×Nat):refF (f + 2) (.braces b) d ⟨ts,some e⟩=some (.mk 6 ByteArray.empty 0 [],⟨ts,some e⟩):=by
 rw [refF,Z4c,Z6j]; simp [Z02,Z4c,Tree.kids]
theorem Zaj (f d lv:Nat) (x:Tree) (ts:List Tok) (e:Int×Nat):refF (f + 1) (.pairsL lv x) d ⟨ts,some e⟩=some (x,⟨ts,some e⟩):=by simp [refF]
theorem Z6m (f d:Nat) (x:Tree) (ts:List Tok) (e:Int×Nat):refF (f + 1) (.singleL x) d ⟨ts,some e⟩=some (x,⟨ts,some e⟩):=by simp [refF,Z4y]
theorem Zjd (f d:Nat) (k:Int) (s:ByteArray) (ts:List Tok) (e:Int×Nat):Z1b (refF (f + 3) (.func k s) d ⟨ts,some e⟩) e:=by
 rw [refF,Z4c,Z6b];simp only [Z02];rw [Z4g];exact ⟨_,_,rfl⟩
def Zl0 (t:Tok):Prop:=(t.kind=2→Z30 t.text=0)∧(t.kind=5→Z2q t.text=0)
def Zt (ts:List Tok):Prop:=∀ t∈ts,Zl0 t
theorem Zt.tail {ts:List Tok} (h:Zt ts):Zt ts.tail:=fun t ht=>h t (List.mem_of_mem_tail ht)
theorem Zt.hd {ts:List Tok} (h:Zt ts):Zl0 (hdT ts):=by
 cases ts with
 | nil=>exact ⟨fun h=>by simp [hdT] at h,fun h=>by simp [hdT] at h⟩
 | cons t l=>exact h t (by simp)
def Agree (p:PR) (q:RR):Prop:=
 match p with
 | none=>True
 | some (.ok (t,ts))=>q=some (t,⟨ts,none⟩)∧Zt ts
 | some (.error e)=>Z1b q e
theorem Agree.ok {t:Tree} {ts:List Tok} (h:Zt ts):Agree (okT t ts) (some (t,⟨ts,none⟩)):=⟨rfl,h⟩
theorem Agree.fail {k:Int} {t:Tree} {ts:List Tok}:Agree (Z2j k ts) (some (t,Z32 k ⟨ts,none⟩)):=⟨_,_,rfl⟩
theorem Agree.bind {p:PR} {q:RR} {k:Tree→List Tok→PR} {m:Tree→RS→RR} (h:Agree p q) (hk:∀ t ts,Zt ts→Agree (k t ts) (m t ⟨ts,none⟩)) (he:∀ t ts e,Z1b (m t ⟨ts,some e⟩) e) :
 Agree (Zw p k) (Z02 q m):=by
 cases p with
 | none=>trivial
 | some r =>
   cases r with
   | error e=>obtain ⟨t,ts,rfl⟩:=h; exact he t ts e
   | ok x=>obtain ⟨t,ts⟩:=x; obtain ⟨rfl,hg⟩:=h; exact hk t ts hg
theorem Agree.want {s:ByteArray} {ts:List Tok} {k:List Tok→PR} {m:RS→RR} (hg:Zt ts) (hk:Zt ts.tail→Agree (k ts.tail) (m ⟨ts.tail,none⟩)) (he:∀ ts e,Z1b (m ⟨ts,some e⟩) e) :
 Agree (Z0s s ts k) (m (Z0a s ⟨ts,none⟩)):=by
 unfold Z0s Z0a;by_cases h:isT s ts=true;·simp only [h,Option.isNone_none,if_true]; exact hk hg.tail
 ·simp only [h,Option.isNone_none,if_true]; exact he _ _
theorem Agree.name {ts:List Tok} {k:ByteArray→List Tok→PR} {m:ByteArray→RS→RR} (hg:Zt ts) (hk:∀ s,Zt ts.tail→Agree (k s ts.tail) (m s ⟨ts.tail,none⟩)) (he:∀ s ts e,Z1b (m s ⟨ts,some e⟩) e) :
 Agree (Z3a ts k) (m (Zk ⟨ts,none⟩).1 (Zk ⟨ts,none⟩).2):=by
 unfold Z3a Zk;by_cases h:(hdT ts).kind=1;·simp only [h,Option.isNone_none,if_true]; exact hk _ hg.tail
 ·simp only [h,Option.isNone_none,if_true,if_false]; exact he _ _ _
theorem Agree.ite {c:Prop} [Decidable c] {c':Bool} {p1 p2:PR} {q1 q2:RR} (h:c↔c'=true) (h1:c→Agree p1 q1) (h2:¬ c→Agree p2 q2):Agree (if c then p1 else p2) (if c'=true then q1 else q2):=by
 by_cases hc:c;·rw [Yb hc,Yb (h.1 hc)]; exact h1 hc
 ·rw [Y9 hc,Y9 (fun e=>hc (h.2 e))]; exact h2 hc
theorem Agree.within {d:Nat} {ts:List Tok} {p:PR} {q:RR} {t:Tree} (h:d + 1≤30→Agree p q):Agree (Z0l d ts p) (if 30 < d + 1 then some (t,Z32 4 ⟨ts,none⟩) else q):=by
 unfold Z0l;by_cases hd:30 < d + 1;·rw [Yb hd,Yb hd]; exact Agree.fail
 ·rw [Y9 hd,Y9 hd]; exact h (by omega)
theorem Z0i (s:ByteArray) (ts:List Tok):Ze s ⟨ts,none⟩=isT s ts:=by simp [Ze]
end Go.Proofs.YtajomcjaljakhaaGreatDoor
namespace Go.Proofs.YtajomcjaljakhaaGreatDoor
open Go Go.RowKit
set_option maxRecDepth 100000
set_option maxHeartbeats 20000000
set_option linter.unusedVariables false
structure QC where
 rb:Nat
 tb:Nat
 off:Nat
 cap:Nat
 L:List Tok
def fE:Option (Int×Nat)→Int
 | none=>0
 | some x=>x.1
def fP:Option (Int×Nat)→Int
 | none=>-1
 | some x=>x.2
structure QAt (w:World) (C:QC) (i:Nat) (f:Option (Int×Nat)):Prop where
 blk:w.heap[C.rb]?=some (.cells #[.slice (some ⟨C.tb,C.off,none⟩) C.L.length C.cap,.int .i64 i,.int .i64 (fE f),.int .i64 (fP f)] 62 (0,0))
 le:C.L.length≤C.cap
 most:C.cap≤9223372036854775807
 ord:C.tb < C.rb
 cells:∀ k t j x,C.L[k]?=some t→t.cells[j]?=some x→w.cell? ⟨C.tb,C.off + k * 4 + j,none⟩=some x
 last:∃ l e,C.L=l ++ [e]∧e.kind=6∧∀ t∈l,t.kind≠6
 lt:i < C.L.length
 few:C.L.length≤4000
 code:∀ c p,f=some (c,p)→c≠0
 pm:∀ t∈C.L,t.kind=5→t.text≠⟨#[43,45]⟩
 sm:∀ t∈C.L,t.text.size≤maxLen
def QS (w:World) (C:QC) (σ:RS):Prop:=∃ i,σ.ts=C.L.drop i∧QAt w C i σ.f
section
variable {w w':World} {C:QC} {i:Nat} {f:Option (Int×Nat)} {σ:RS}
theorem QAt.rlt (h:QAt w C i f):C.rb < w.heap.size:=(Y6.1 h.blk).1
theorem QAt.keep (h:QAt w C i f) (hk:∀ k,k≤C.rb→w'.heap[k]?=w.heap[k]?):QAt w' C i f:=
 ⟨(hk _ (Y5 _)).trans h.blk,h.le,h.most,h.ord,fun k t j x h1 h2=>(Yj (hk _ (Nat.le_of_lt h.ord))).trans (h.cells k t j x h1 h2),h.last,h.lt,h.few,h.code,h.pm,h.sm⟩
theorem QAt.below (h:QAt w C i f) (hB:Below w.heap.size w w'):QAt w' C i f:=h.keep fun k hk=>hB.block k (Nat.lt_of_le_of_lt hk h.rlt)
theorem QAt.drew (h:QAt w C i f):QAt w.drew C i f:=h.keep fun _ _=>rfl
theorem QS.below (h:QS w C σ) (hB:Below w.heap.size w w'):QS w' C σ:=by
 obtain ⟨i,e,h⟩:=h;exact ⟨i,e,h.below hB⟩
theorem QS.drew (h:QS w C σ):QS w.drew C σ:=h.below (Y8 _ _).drew
theorem QS.rlt (h:QS w C σ):C.rb < w.heap.size:=by obtain ⟨i,e,h⟩:=h; exact h.rlt
theorem QAt.c0 (h:QAt w C i f):w.cell? ⟨C.rb,0,none⟩=some (.slice (some ⟨C.tb,C.off,none⟩) C.L.length C.cap):=by simp [World.cell?,h.blk]
theorem QAt.c1 (h:QAt w C i f):w.cell? ⟨C.rb,1,none⟩=some (.int .i64 i):=by simp [World.cell?,h.blk]
theorem QAt.c2 (h:QAt w C i f):w.cell? ⟨C.rb,2,none⟩=some (.int .i64 (fE f)):=by simp [World.cell?,h.blk]
theorem QAt.c3 (h:QAt w C i f):w.cell? ⟨C.rb,3,none⟩=some (.int .i64 (fP f)):=by simp [World.cell?,h.blk]
theorem QAt.fz (h:QAt w C i f) (j:Nat):w.frozen? ⟨C.rb,j,none⟩=false:=by simp [World.frozen?,h.blk]
theorem QAt.hdEq (h:QAt w C i f):C.L[i]?=some (hdT (C.L.drop i)):=by
 have:=h.lt;rw [List.drop_eq_getElem_cons this,Yd this];rfl
theorem QAt.hd (h:QAt w C i f) {j:Nat} {x:Value} (hj:(hdT (C.L.drop i)).cells[j]?=some x):w.cell? ⟨C.tb,C.off + i * 4 + j,none⟩=some x:=h.cells i _ j x h.hdEq hj
theorem QAt.more (h:QAt w C i f) (hk:(hdT (C.L.drop i)).kind≠6):i + 1 < C.L.length:=by
 obtain ⟨l,e,h1,h2,_⟩:=h.last;have hi:=h.lt;have hh:=h.hdEq;rw [h1] at hh hi ⊢;rw [Yq,List.length_singleton] at hi ⊢;by_cases hl:i < l.length;·omega
 ·exfalso;have e1 : i = l.length := by omega
  subst e1;rw [List.getElem?_append_right (Y5 _)] at hh;simp only [Nat.sub_self,List.getElem?_cons_zero,Option.some.injEq] at hh;rw [h1,← hh] at hk;exact hk h2
theorem QAt.at (h:QAt w C i f) {j:Nat} (hj:j < C.L.length) {x:Int} (hx:x=j):QAt (w.setCell ⟨C.rb,1,none⟩ (.int .i64 x)) C j f:=by
 subst hx;have hb:=Yg w ⟨C.rb,1,none⟩ (.int .i64 (j:Int)) C.tb (by have:=h.ord; simp only; omega);exact ⟨Zm (o:=1) (.int .i64 (j:Int)) h.blk,h.le,h.most,h.ord,fun k t j' x h3 h4=>(Yj hb).trans (h.cells k t j' x h3 h4),h.last,hj,h.few,h.code,h.pm,h.sm⟩
theorem QAt.fault (h:QAt w C i f) {c:Int} {p:Nat} (hc:c≠0) {x:Int} (hx:x=p):QAt ((w.setCell ⟨C.rb,2,none⟩ (.int .i64 c)).setCell ⟨C.rb,3,none⟩ (.int .i64 x)) C i (some (c,p)):=by
 subst hx;have hb:((w.setCell ⟨C.rb,2,none⟩ (.int .i64 c)).setCell ⟨C.rb,3,none⟩ (.int .i64 (p:Int))).heap[C.tb]?=w.heap[C.tb]?:=by
  have:=h.ord;rw [Yg _ _ _ _ (by simp only; omega),Yg _ _ _ _ (by simp only; omega)]
 exact ⟨Zm (o:=3) _ (Zm (o:=2) _ h.blk),h.le,h.most,h.ord,fun k t j' x h3 h4=>(Yj hb).trans (h.cells k t j' x h3 h4),h.last,h.lt,h.few,fun c' p' e=>by
  simp only [Option.some.injEq,Prod.mk.injEq] at e;rw [← e.1]; exact hc,h.pm,h.sm⟩
theorem Zc1 {α:Type} (l:List α) (i:Nat):(l.drop i).tail=l.drop (i + 1):=by rw [List.tail_drop]
theorem QS.adv {w:World} (h:QAt w C i f) (hk:(hdT (C.L.drop i)).kind≠6) {x:Int} (hx:x=(i:Int) + 1):QS (w.setCell ⟨C.rb,1,none⟩ (.int .i64 x)) C (advR ⟨C.L.drop i,f⟩):=
 ⟨i + 1,Zc1 _ _,h.at (h.more hk) (by rw [hx]; rfl)⟩
theorem Zgo (h:QAt w C i f):Calls Tryz.prog 26 #[.pointer (some ⟨C.rb,0,none⟩)] w fun e w'=>e=.returned (.bool f.isNone)∧w=w':=by
 have hc:=h.c2;have hcode:=h.code;rcases f with _ | ⟨c,p⟩
 ·simp only [fE] at hc;clear h hcode;go_enter Tryz.func26, Tryz.ntmps26
  go_wp2;go_ret;exact ⟨rfl,rfl⟩
 ·have h0 : (c == 0) = false := by simpa using hcode c p rfl
  simp only [fE] at hc;clear h hcode;go_enter Tryz.func26,Tryz.ntmps26
  go_wp2;go_ret;exact ⟨rfl,rfl⟩
theorem Z22 (h:QS w C σ):Calls Tryz.prog 26 #[.pointer (some ⟨C.rb,0,none⟩)] w fun e w'=>e=.returned (.bool σ.f.isNone)∧w=w':=by
 obtain ⟨i,_,h⟩:=h;exact Zgo h
theorem Zkk (s:ByteArray) (t:Tok):((decide (t.kind=5) || decide (t.kind=2)) && Zp t.text s)=((t.kind == 2 || t.kind == 5) && (t.text.toList == s.toList)):=by
 rw [Z1w,Bool.or_comm]; rfl
theorem Zd (h:QS w C σ) (s:ByteArray):Calls Tryz.prog 55 #[.pointer (some ⟨C.rb,0,none⟩),.string s] w fun e w'=>e=.returned (.bool (Ze s σ))∧Below w.heap.size w w':=by
 obtain ⟨i,e,h⟩:=h;obtain ⟨ts,f⟩:=σ;simp only at e h;subst e;have HOK:=lh (fun w1 (hB:Below w.heap.size w w1)=>Zgo (h.below hB));have c0:=h.c0;have c1:=h.c1;have t0:=h.hd (j:=0) rfl;have t1:=h.hd (j:=1) rfl;have t2:=h.hd (j:=2) rfl;have t3:=h.hd (j:=3) rfl;have hi:=h.lt;have hle:=h.le;have hm:=h.most;have hr:=h.rlt;have ht:C.tb < w.heap.size:=Nat.lt_trans h.ord hr;obtain ⟨n,hn⟩:=zX C.L.length
 rw [← hn] at c0 hi hle;obtain ⟨X,hX⟩:=zX (Ze s ⟨C.L.drop i,f⟩)
 rw [← hX];unfold Ze isT at hX;rw [Zkk] at hX;obtain ⟨⟨k,tx,tn,ta⟩,htok⟩:∃ t,t=hdT (C.L.drop i):=⟨_,rfl⟩
 simp only [← htok] at t0 t1 t2 t3 hX;rw [Nat.add_zero] at t0;generalize C.tb=tb at *;generalize C.off=off at *;generalize C.cap=cap at *;generalize f.isNone=b at *;have HX:=lh hX;generalize C.rb=rb at *;clear h hn htok hX;cases b with
 | false =>
   go_enter Tryz.func55,Tryz.ntmps55
   go_wp2_with fail
   refine Z0 [(true,0),(true,1),(true,2),(true,3),(true,4),(true,5),(true,6),(true,7),(true,8),(true,9),(false,10)] [11] (fun W=>W.cell? ⟨rb,0,none⟩=some (.slice (some ⟨tb,off,none⟩) n cap)∧W.cell? ⟨rb,1,none⟩=some (.int .i64 i)∧W.cell? ⟨tb,off + i * 4,none⟩=some (.int .i64 k)∧W.cell? ⟨tb,off + i * 4 + 1,none⟩=some (.string tx)∧W.cell? ⟨tb,off + i * 4 + 2,none⟩=some (.int .i64 tn)∧W.cell? ⟨tb,off + i * 4 + 3,none⟩=some (.int .i64 ta)) (by kernel_rfl) (by kernel_rfl) (fun _ _ d _ _ h=>by cases d <;> exact h) ⟨c0,c1,t0,t1,t2,t3⟩ (fun hS0=>?_)
   simp only [Za,zD,zE,zF,zG,zH,zI]
   iterate 10
    first
     | (refine Z1 ?_ (by rfl) (fun w' hS'=>?_) ?_; rotate_left; (obtain ⟨s0,s1,s2,s3,s4,s5⟩:=hS'; go_simp; first | done | with_reducible rfl); simp only [Act.put,zA,zB,zC])
     | (refine Z2 (by rfl) ?_; simp only [Act.put,zA,zB,zC])
   refine Z6 (fun K hK=>?_);go_simp
   refine hK _ _ ⟨(Z5 hr).trans c0,(Z5 hr).trans c1,(Z5 ht).trans t0,(Z5 ht).trans t1,(Z5 ht).trans t2,(Z5 ht).trans t3⟩ ?_;clear hK K;refine Z4 ?_;go_wp2_with fail
   refine (HOK.out _ ?_).mono ?_;·repeat (first | exact Y8 _ _ | (refine Below.setCell ?_ (by simp) _) | (refine Below.alloc ?_ (by simp) _) | (refine Below.drew ?_))
   rintro e w1 ⟨rfl,rfl⟩;go_wp2;go_ret;refine ⟨Z8l (by rw [HX.out]; rfl),?_⟩;repeat (first | exact Y8 _ _ | (refine Below.setCell ?_ (by simp) _) | (refine Below.alloc ?_ (by simp) _) | (refine Below.drew ?_))
 | true =>
   by_cases k2:(k == 2)=true
   ·go_enter Tryz.func55, Tryz.ntmps55
    go_wp2_with fail
    refine Z0 [(true,0),(true,1),(true,2),(true,3),(true,4),(true,5),(true,6),(true,7),(true,8),(true,9),(false,10)] [11] (fun W=>W.cell? ⟨rb,0,none⟩=some (.slice (some ⟨tb,off,none⟩) n cap)∧W.cell? ⟨rb,1,none⟩=some (.int .i64 i)∧W.cell? ⟨tb,off + i * 4,none⟩=some (.int .i64 k)∧W.cell? ⟨tb,off + i * 4 + 1,none⟩=some (.string tx)∧W.cell? ⟨tb,off + i * 4 + 2,none⟩=some (.int .i64 tn)∧W.cell? ⟨tb,off + i * 4 + 3,none⟩=some (.int .i64 ta)) (by kernel_rfl) (by kernel_rfl) (fun _ _ d _ _ h=>by cases d <;> exact h) ⟨c0,c1,t0,t1,t2,t3⟩ (fun hS0=>?_)
    simp only [Za,zD,zE,zF,zG,zH,zI]
    iterate 10
     first
      | (refine Z1 ?_ (by rfl) (fun w' hS'=>?_) ?_; rotate_left; (obtain ⟨s0,s1,s2,s3,s4,s5⟩:=hS'; go_simp; first | done | with_reducible rfl); simp only [Act.put,zA,zB,zC])
      | (refine Z2 (by rfl) ?_; simp only [Act.put,zA,zB,zC])
    refine Z6 (fun K hK=>?_);go_simp
    refine hK _ _ ⟨(Z5 hr).trans c0,(Z5 hr).trans c1,(Z5 ht).trans t0,(Z5 ht).trans t1,(Z5 ht).trans t2,(Z5 ht).trans t3⟩ ?_;clear hK K;refine Z4 ?_;go_wp2_with fail
    refine (HOK.out _ ?_).mono ?_;·repeat (first | exact Y8 _ _ | (refine Below.setCell ?_ (by simp) _) | (refine Below.alloc ?_ (by simp) _) | (refine Below.drew ?_))
    rintro e w1 ⟨rfl,rfl⟩;go_wp2;go_ret;refine ⟨Z8l (by rw [HX.out,k2]; rfl),?_⟩;repeat (first | exact Y8 _ _ | (refine Below.setCell ?_ (by simp) _) | (refine Below.alloc ?_ (by simp) _) | (refine Below.drew ?_))
   ·have k2' : (k == 2) = false := by simpa using k2
    by_cases k5:(k == 5)=true
    ·go_enter Tryz.func55, Tryz.ntmps55
     go_wp2_with fail
     refine Z0 [(true,0),(true,1),(true,2),(true,3),(true,4),(true,5),(true,6),(true,7),(true,8),(true,9),(false,10)] [11] (fun W=>W.cell? ⟨rb,0,none⟩=some (.slice (some ⟨tb,off,none⟩) n cap)∧W.cell? ⟨rb,1,none⟩=some (.int .i64 i)∧W.cell? ⟨tb,off + i * 4,none⟩=some (.int .i64 k)∧W.cell? ⟨tb,off + i * 4 + 1,none⟩=some (.string tx)∧W.cell? ⟨tb,off + i * 4 + 2,none⟩=some (.int .i64 tn)∧W.cell? ⟨tb,off + i * 4 + 3,none⟩=some (.int .i64 ta)) (by kernel_rfl) (by kernel_rfl) (fun _ _ d _ _ h=>by cases d <;> exact h) ⟨c0,c1,t0,t1,t2,t3⟩ (fun hS0=>?_)
     simp only [Za,zD,zE,zF,zG,zH,zI]
     iterate 10
      first
       | (refine Z1 ?_ (by rfl) (fun w' hS'=>?_) ?_; rotate_left; (obtain ⟨s0,s1,s2,s3,s4,s5⟩:=hS'; go_simp; first | done | with_reducible rfl); simp only [Act.put,zA,zB,zC])
       | (refine Z2 (by rfl) ?_; simp only [Act.put,zA,zB,zC])
     refine Z6 (fun K hK=>?_);go_simp
     refine hK _ _ ⟨(Z5 hr).trans c0,(Z5 hr).trans c1,(Z5 ht).trans t0,(Z5 ht).trans t1,(Z5 ht).trans t2,(Z5 ht).trans t3⟩ ?_;clear hK K;refine Z4 ?_;go_wp2_with fail
     refine (HOK.out _ ?_).mono ?_;·repeat (first | exact Y8 _ _ | (refine Below.setCell ?_ (by simp) _) | (refine Below.alloc ?_ (by simp) _) | (refine Below.drew ?_))
     rintro e w1 ⟨rfl,rfl⟩;go_wp2;go_ret;refine ⟨Z8l (by rw [HX.out,k5,Bool.or_true]; rfl),?_⟩;repeat (first | exact Y8 _ _ | (refine Below.setCell ?_ (by simp) _) | (refine Below.alloc ?_ (by simp) _) | (refine Below.drew ?_))
    ·have k5' : (k == 5) = false := by simpa using k5
     go_enter Tryz.func55,Tryz.ntmps55
     go_wp2_with fail
     refine Z0 [(true,0),(true,1),(true,2),(true,3),(true,4),(true,5),(true,6),(true,7),(true,8),(true,9),(false,10)] [11] (fun W=>W.cell? ⟨rb,0,none⟩=some (.slice (some ⟨tb,off,none⟩) n cap)∧W.cell? ⟨rb,1,none⟩=some (.int .i64 i)∧W.cell? ⟨tb,off + i * 4,none⟩=some (.int .i64 k)∧W.cell? ⟨tb,off + i * 4 + 1,none⟩=some (.string tx)∧W.cell? ⟨tb,off + i * 4 + 2,none⟩=some (.int .i64 tn)∧W.cell? ⟨tb,off + i * 4 + 3,none⟩=some (.int .i64 ta)) (by kernel_rfl) (by kernel_rfl) (fun _ _ d _ _ h=>by cases d <;> exact h) ⟨c0,c1,t0,t1,t2,t3⟩ (fun hS0=>?_)
     simp only [Za,zD,zE,zF,zG,zH,zI]
     iterate 10
      first
       | (refine Z1 ?_ (by rfl) (fun w' hS'=>?_) ?_; rotate_left; (obtain ⟨s0,s1,s2,s3,s4,s5⟩:=hS'; go_simp; first | done | with_reducible rfl); simp only [Act.put,zA,zB,zC])
       | (refine Z2 (by rfl) ?_; simp only [Act.put,zA,zB,zC])
     refine Z6 (fun K hK=>?_);go_simp
     refine hK _ _ ⟨(Z5 hr).trans c0,(Z5 hr).trans c1,(Z5 ht).trans t0,(Z5 ht).trans t1,(Z5 ht).trans t2,(Z5 ht).trans t3⟩ ?_;clear hK K;refine Z4 ?_;go_wp2_with fail
     refine (HOK.out _ ?_).mono ?_;·repeat (first | exact Y8 _ _ | (refine Below.setCell ?_ (by simp) _) | (refine Below.alloc ?_ (by simp) _) | (refine Below.drew ?_))
     rintro e w1 ⟨rfl,rfl⟩;go_wp2;go_ret;refine ⟨Z8l (by rw [HX.out,k2',k5']; rfl),?_⟩;repeat (first | exact Y8 _ _ | (refine Below.setCell ?_ (by simp) _) | (refine Below.alloc ?_ (by simp) _) | (refine Below.drew ?_))
theorem RFr.of_set {w:World} {rb:Nat} (o:Nat) (x:Value):RFr w (w.setCell ⟨rb,o,none⟩ x) rb:=(RFr.refl w rb).set o x
def Z1s (w:World) (C:QC) (B:Nat) (t:Tree) (σ':RS) (e:Ending) (w':World):Prop:=
 ∃ a,e=.returned (.pointer (some ⟨a.b,0,none⟩))∧Got w B w' a t∧QS w' C σ'∧RFr w w' C.rb
theorem Z2t (h:QS w C σ) (c:Int) (hc:c≠0) (B:Nat) (hB:C.rb < B) (hBw:B≤w.heap.size) :
 Calls Tryz.prog 54 #[.pointer (some ⟨C.rb,0,none⟩),.int .i64 c] w (Z1s w C B gT (Z32 c σ)):=by
 obtain ⟨i,e,h⟩:=h;obtain ⟨ts,f⟩:=σ;simp only at e h;subst e;have HOK:=lh (Zgo h);have HH:=lh h;cases hf:f.isNone with
 | false =>
   rw [hf] at HOK;have hR:Z32 c ⟨C.L.drop i,f⟩=⟨C.L.drop i,f⟩:=by simp [Z32,hf]
   rw [hR];clear h hf hR;go_enter Tryz.func54,Tryz.ntmps54
   go_wp2_with fail
   refine HOK.out.mono ?_;rintro e w1 ⟨rfl,rfl⟩;go_wp2;go_ret;exact ⟨_,rfl,Got.leaf hBw (RFr.refl w C.rb),⟨i,rfl,HH.out.below ((Y8 _ _).alloc (Y5 _) _)⟩,RFr.below ((Y8 _ _).alloc (Y5 _) _)⟩
 | true =>
   rw [hf] at HOK;obtain rfl:f=none:=by cases f <;> simp_all
   have hR:Z32 c ⟨C.L.drop i,none⟩=⟨C.L.drop i,some (c,(hdT (C.L.drop i)).at')⟩:=by simp [Z32]
   rw [hR];have c0:=h.c0;have c1:=h.c1;have c2:=h.c2;have c3:=h.c3;have t3:=h.hd (j:=3) rfl;have z2:=h.fz 2;have z3:=h.fz 3;have hi:=h.lt;have hle:=h.le;have hm:=h.most;obtain ⟨p,hp⟩:=zX ((hdT (C.L.drop i)).at')
   rw [← hp] at t3 ⊢;obtain ⟨n,hn⟩:=zX C.L.length
   rw [← hn] at c0 hi hle;clear h hf hR hp hn;obtain ⟨rb,tb,off,cap,L⟩:=C;simp only at *;go_enter Tryz.func54,Tryz.ntmps54
   go_wp2_with fail
   refine HOK.out.mono ?_;rintro e w1 ⟨rfl,rfl⟩;go_wp2_with fail
   refine Z0 [(true,0),(true,1),(true,2),(true,3),(true,4),(true,5),(true,6),(true,7),(true,8),(true,9),(true,10),(true,11),(true,12),(true,13)] [14,15,16] (fun W=>W.cell? ⟨rb,0,none⟩=some (.slice (some ⟨tb,off,none⟩) n cap)∧W.cell? ⟨rb,1,none⟩=some (.int .i64 i)∧W.cell? ⟨tb,off + i * 4 + 3,none⟩=some (.int .i64 p)) (by kernel_rfl) (by kernel_rfl) (fun _ _ d _ _ h=>by cases d <;> exact h) ⟨c0,c1,t3⟩ (fun hS0=>?_)
   simp only [Za,zD,zE,zF,zG,zH,zI]
   iterate 14
    first
     | (refine Z1 ?_ (by rfl) (fun w' hS'=>?_) ?_; rotate_left; (obtain ⟨s0,s1,s2⟩:=hS'; go_simp; first | done | with_reducible rfl); simp only [Act.put,zA,zB,zC])
     | (refine Z2 (by rfl) ?_; simp only [Act.put,zA,zB,zC])
   refine Z4 ?_;go_wp2;go_ret;have h2:QAt ((w.setCell ⟨rb,2,none⟩ (.int .i64 c)).setCell ⟨rb,3,none⟩ (.int .i64 p)) ⟨rb,tb,off,cap,L⟩ i (some (c,p)):=HH.out.fault hc rfl;have h3:RFr w ((w.setCell ⟨rb,2,none⟩ (.int .i64 c)).setCell ⟨rb,3,none⟩ (.int .i64 p)) rb:=((RFr.refl w rb).set 2 _).set 3 _;have h4:=Got.leaf (w0:=w) (rb:=rb) (B:=B) (k:=0) (t:=⟨#[]⟩) (n:=0) hBw h3;refine ⟨_,?pt,h4.rfr hB (RFr.refl _ rb).drew,⟨i,rfl,(h2.below ((Y8 _ _).alloc (Y5 _) _)).drew⟩,(h3.trans (RFr.below ((Y8 _ _).alloc (Y5 _) _))).drew⟩
   case pt=>simp [ATree.b]
theorem Z2u {s:ByteArray} {σ:RS} (h:Ze s σ=true):isT s σ.ts=true:=by
 unfold Ze at h;simp only [Bool.and_eq_true] at h;exact h.2
theorem Z0v (h:QS w C σ) (s:ByteArray):Calls Tryz.prog 57 #[.pointer (some ⟨C.rb,0,none⟩),.string s] w fun e w'=>
 e=.returned (.bool (Ze s σ))∧QS w' C (if Ze s σ then advR σ else σ)∧RFr w w' C.rb:=by
 have HN:=Zd h s;have HH:=lh h;obtain ⟨rb,tb,off,cap,L⟩:=C;by_cases hs:Ze s σ=true
 ·rw [hs] at HN;have HN := lh HN;have HS := lh hs;rw [Yb hs];clear h hs;go_enter Tryz.func57, Tryz.ntmps57
  go_wp2_with fail
  refine HN.out.mono ?_;rintro e w1 ⟨rfl,hB1⟩;have h1:=HH.out.below hB1;have HB:=lh hB1;obtain ⟨i,e,h⟩:=h1;have c1:=h.c1;have z1:=h.fz 1;have hi:=h.lt;have hf:=h.few;simp only at c1 z1;have H1:=lh h;have E1:=lh e;clear hB1 h e;go_wp2;go_ret;have hk:=Z4t (Z2u HS.out);rw [E1.out] at hk;have h2:=QS.adv H1.out (x:=(i:Int) + 1) hk rfl;have h3:(⟨List.drop i L,σ.f⟩:RS)=σ:=by rw [← E1.out]
  simp only at h2;rw [h3] at h2;refine ⟨by rw [HS.out]; rfl,h2,(RFr.below HB.out).set 1 _⟩
 ·have hs : Ze s σ = false := by simpa using hs
  rw [hs] at HN;have HN:=lh HN;simp only [hs,if_false,Bool.false_eq_true];clear h hs;go_enter Tryz.func57,Tryz.ntmps57
  go_wp2_with fail
  refine HN.out.mono ?_;rintro e w1 ⟨rfl,hB1⟩;have HB:=lh hB1;clear hB1;go_wp2;go_ret;exact ⟨rfl,HH.out.below HB.out,RFr.below HB.out⟩
theorem Z09 (h:QS w C σ) (s:ByteArray) (B:Nat) (hB:C.rb < B) (hBw:B≤w.heap.size):Calls Tryz.prog 62 #[.pointer (some ⟨C.rb,0,none⟩),.string s] w fun e w'=>
 e=.returned (.tuple #[])∧QS w' C (Z0a s σ)∧RFr w w' C.rb:=by
 have HO:=Z22 h;have HH:=lh h;have HBB:=lh hB;have HBW:=lh hBw;obtain ⟨X,hX⟩:=zX (Z0a s σ)
 rw [← hX];unfold Z0a at hX;by_cases hf:σ.f.isNone=true
 ·rw [hf] at HO;rw [Yb hf] at hX;have HS := Z0v h s;have hns : Ze s σ = isT s σ.ts := by simp [Ze, hf]
  rw [hns] at HS;have HO:=lh HO;by_cases hs:isT s σ.ts=true
  ·rw [Yb hs] at hX;rw [hs] at HS;rw [Yb rfl, ← hX] at HS;have HS := lh HS;clear h hX hf hns hs hB hBw;go_enter Tryz.func62, Tryz.ntmps62
   go_wp2_with fail
   refine HO.out.mono ?_;rintro e w1 ⟨rfl,rfl⟩;go_wp2_with fail
   refine HS.out.mono ?_;rintro e w1 ⟨rfl,h1⟩;have H1:=lh h1;clear h1;go_wp2;go_end0
   exact ⟨rfl,H1.out⟩
  ·rw [Y9 hs] at hX;have hs : isT s σ.ts = false := by simpa using hs
   rw [hs] at HS;simp only [Bool.false_eq_true,if_false] at HS;have HS:=lh HS;have HX:=lh hX;clear h hX hf hns hs hB hBw;go_enter Tryz.func62,Tryz.ntmps62
   go_wp2_with fail
   refine HO.out.mono ?_;rintro e w1 ⟨rfl,rfl⟩;go_wp2_with fail
   refine HS.out.mono ?_;rintro e w2 ⟨rfl,h2⟩;have H2:=lh h2;clear h2;go_wp2_with fail
   refine (Z2t H2.out.1 3 (by decide) B HBB.out (Ya HBW.out H2.out.2.size)).mono ?_;rintro e w3 ⟨a,rfl,_,h3,h4⟩;have H3:=lh h3;have H4:=lh h4;clear h3 h4;go_wp2;go_end0
   refine ⟨rfl,?_,H2.out.2.trans H4.out⟩;rw [HX.out];exact H3.out
 ·have hf : σ.f.isNone = false := Bool.eq_false_iff.2 hf;rw [hf] at HO;rw [Y9 (by rw [hf]; decide)] at hX;have HO := lh HO;have HX := lh hX;clear h hX hf hB hBw;go_enter Tryz.func62, Tryz.ntmps62
  go_wp2_with fail
  refine HO.out.mono ?_;rintro e w1 ⟨rfl,rfl⟩;go_wp2;go_end0
  exact ⟨rfl,by rw [HX.out]; exact HH.out,RFr.refl _ _⟩
theorem Z2v (h:QS w C σ) (B:Nat) (hB:C.rb < B) (hBw:B≤w.heap.size):Calls Tryz.prog 58 #[.pointer (some ⟨C.rb,0,none⟩)] w fun e w'=>
 e=.returned (.string (Zk σ).1)∧QS w' C (Zk σ).2∧RFr w w' C.rb:=by
 have HO:=Z22 h;have HH:=lh h;have HBB:=lh hB;have HBW:=lh hBw;obtain ⟨X,hX⟩:=zX (Zk σ)
 rw [← hX];unfold Zk at hX;by_cases hf:σ.f.isNone=true
 ·rw [hf] at HO;rw [Yb hf] at hX;have HO := lh HO;obtain ⟨i, e, h⟩ := h;obtain ⟨ts, f⟩ := σ;simp only at e hf hX;subst e;have c0 := h.c0;have c1 := h.c1;have t0 := h.hd (j := 0) (x := .int .i64 (hdT (C.L.drop i)).kind) rfl;have t1 := h.hd (j := 1) (x := .string (hdT (C.L.drop i)).text) rfl;have z1 := h.fz 1;have hi := h.lt;have hle := h.le;have hm := h.most;have hr := h.rlt;have ho := h.ord;have hfew := h.few;have HA := lh h;rw [Nat.add_zero] at t0;obtain ⟨rb, tb, off, cap, L⟩ := C;simp only at *;obtain ⟨n, hn⟩ := zX L.length
  rw [← hn] at c0 hi hle hfew;by_cases hk:(hdT (L.drop i)).kind=1
  ·rw [Yb hk] at hX;rw [hk] at t0;have hk6 : (hdT (L.drop i)).kind ≠ 6 := by rw [hk]; decide
   have HK6:=lh hk6;have HX:=lh hX;have hrt:¬ rb=tb:=by omega
   obtain ⟨tx,htx⟩:=zX ((hdT (L.drop i)).text)
   rw [← htx] at t1;have HTX:=lh htx;clear h hX hf hk hB hBw hk6 hn htx;go_enter Tryz.func58,Tryz.ntmps58
   go_wp2_with fail
   refine HO.out.mono ?_;rintro e w1 ⟨rfl,rfl⟩;go_wp2_with fail
   refine Z0 [(true,0),(true,1),(true,2),(true,3),(true,4),(true,5),(true,6),(true,7)] [8,9,10,11] (fun W=>W.cell? ⟨rb,0,none⟩=some (.slice (some ⟨tb,off,none⟩) n cap)∧W.cell? ⟨rb,1,none⟩=some (.int .i64 i)∧W.cell? ⟨tb,off + i * 4,none⟩=some (.int .i64 1)) (by kernel_rfl) (by kernel_rfl) (fun _ _ d _ _ h=>by cases d <;> exact h) ⟨c0,c1,t0⟩ (fun hS0=>?_);simp only [Za,zD,zE,zF,zG,zH,zI]
   iterate 8
    first
     | (refine Z1 ?_ (by rfl) (fun w' hS'=>?_) ?_; rotate_left; (obtain ⟨s0,s1,s2⟩:=hS'; go_simp; first | done | with_reducible rfl); simp only [Act.put,zA,zB,zC])
     | (refine Z2 (by rfl) ?_; simp only [Act.put,zA,zB,zC])
   refine Z4 ?_;have h2:=HA.out.drew.at (j:=i + 1) (x:=(i:Int) + 1) (HA.out.more HK6.out) rfl;have d0:=h2.c0;have d1:=h2.c1;have e1:=h2.cells i _ 1 (.string (hdT (L.drop i)).text) HA.out.hdEq rfl;simp only [← HTX.out] at d0 d1 e1;obtain ⟨m,hm'⟩:=zX L.length
   rw [← hm'] at d0;have hm2:=HA.out.more HK6.out;simp only [← hm'] at hm2;have H2:=lh h2;clear h2 hm';go_wp2_with fail
   refine Z0 [(true,0),(true,1),(true,2),(true,3),(true,4),(true,5),(true,6),(true,7),(true,8)] [9,10,11,12] (fun W=>W.cell? ⟨rb,0,none⟩=some (.slice (some ⟨tb,off,none⟩) m cap)∧W.cell? ⟨rb,1,none⟩=some (.int .i64 ((i:Int) + 1))∧W.cell? ⟨tb,off + i * 4 + 1,none⟩=some (.string tx)) (by kernel_rfl) (by kernel_rfl) (fun _ _ d _ _ h=>by cases d <;> exact h) ⟨d0,d1,e1⟩ (fun hS0=>?_);simp only [Za,zD,zE,zF,zG,zH,zI]
   iterate 9
    first
     | (refine Z1 ?_ (by rfl) (fun w' hS'=>?_) ?_; rotate_left; (obtain ⟨s0,s1,s2⟩:=hS'; go_simp; first | done | with_reducible rfl); simp only [Act.put,zA,zB,zC])
     | (refine Z2 (by rfl) ?_; simp only [Act.put,zA,zB,zC])
   refine Z4 ?_;go_wp2;go_ret;refine ⟨by rw [HX.out,HTX.out]; rfl,?_,((RFr.refl _ _).drew.set 1 _).drew⟩;rw [HX.out];exact QS.drew ⟨i + 1,Zc1 _ _,H2.out⟩
  ·rw [Y9 hk] at hX;have hk1 : ((hdT (L.drop i)).kind != 1) = true := by simpa using hk
   obtain ⟨k,hkk⟩:=zX ((hdT (L.drop i)).kind)
   rw [← hkk] at t0 hk1;have HX:=lh hX;clear h hX hf hk hB hBw hn hkk t1;go_enter Tryz.func58,Tryz.ntmps58
   go_wp2_with fail
   refine HO.out.mono ?_;rintro e w1 ⟨rfl,rfl⟩;go_wp2_with fail
   refine Z0 [(true,0),(true,1),(true,2),(true,3),(true,4),(true,5),(true,6),(true,7)] [8,9,10,11] (fun W=>W.cell? ⟨rb,0,none⟩=some (.slice (some ⟨tb,off,none⟩) n cap)∧W.cell? ⟨rb,1,none⟩=some (.int .i64 i)∧W.cell? ⟨tb,off + i * 4,none⟩=some (.int .i64 k)) (by kernel_rfl) (by kernel_rfl) (fun _ _ d _ _ h=>by cases d <;> exact h) ⟨c0,c1,t0⟩ (fun hS0=>?_);simp only [Za,zD,zE,zF,zG,zH,zI]
   iterate 8
    first
     | (refine Z1 ?_ (by rfl) (fun w' hS'=>?_) ?_; rotate_left; (obtain ⟨s0,s1,s2⟩:=hS'; go_simp; first | done | with_reducible rfl); simp only [Act.put,zA,zB,zC])
     | (refine Z2 (by rfl) ?_; simp only [Act.put,zA,zB,zC])
   refine Z4 ?_;go_wp2_with fail
   refine (Z2t HH.out.drew 3 (by decide) B HBB.out (by simpa using HBW.out)).mono ?_;rintro e w3 ⟨a,rfl,_,h3,h4⟩;have H3:=lh h3;have H4:=lh h4;clear h3 h4;go_wp2;go_ret;refine ⟨by rw [HX.out]; rfl,?_,(RFr.refl _ _).drew.trans H4.out⟩;rw [HX.out];exact H3.out
 ·have hf : σ.f.isNone = false := Bool.eq_false_iff.2 hf;rw [hf] at HO;rw [Y9 (by rw [hf]; decide)] at hX;have HO := lh HO;have HX := lh hX;clear h hX hf hB hBw;go_enter Tryz.func58, Tryz.ntmps58
  go_wp2_with fail
  refine HO.out.mono ?_;rintro e w1 ⟨rfl,rfl⟩;go_wp2;go_ret;exact ⟨by rw [HX.out]; rfl,by rw [HX.out]; exact HH.out,RFr.refl _ _⟩
end
end Go.Proofs.YtajomcjaljakhaaGreatDoor
