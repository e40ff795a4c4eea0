/- Package tree: a name's text may be a name. -/
import Derived.Test.YtjcgkdfeplbajaaGreatDoorJ03
import Derived.Lib.ItoaNum
import Derived.Lib.Strings
namespace Go.Proofs.YtjcgkdfeplbajaaGreatDoor
open Go Go.RowKit
set_option maxRecDepth 100000
set_option linter.unusedVariables false
def Z2b (s:ByteArray):Prop:=1≤s.size∧s.size≤20∧Z0p (Z9 s 0)=true∧(∀ i,i < s.size→Z1u (Z9 s i)=true)∧Z29 s=false
def MAr (k:Int) (s:ByteArray) (l:List Tree):Prop:=k≠1∧(k=23→Z2b s∧l=[])
theorem MAr.any {k:Int} {s:ByteArray} {l:List Tree} (h:k≠1∧k≠23):MAr k s l:=⟨h.1,fun h'=>absurd h' h.2⟩
mutual
def MT:Tree→Prop
 | .mk k s _ l=>MAr k s l∧MTL l
def MTL:List Tree→Prop
 | []=>True
 | t :: l=>MT t∧MTL l
end
theorem MT.kids {t:Tree} (h:MT t):MTL t.kids:=by cases t; exact h.2
theorem MT.leaf {k:Int} {s:ByteArray} {n:Int} (h:k≠1∧k≠23):MT (.mk k s n []):=⟨MAr.any h,trivial⟩
theorem MT.nm {s:ByteArray} {n:Int} (h:Z2b s):MT (.mk 23 s n []):=⟨⟨by omega,fun _=>⟨h,rfl⟩⟩,trivial⟩
def GTn (ts:List Tok):Prop:=∀ t∈ts,t.kind=1→Z2b t.text
theorem GTn.tail {ts:List Tok} (h:GTn ts):GTn ts.tail:=fun t ht=>h t (List.mem_of_mem_tail ht)
theorem GTn.hd {ts:List Tok} (h:GTn ts) (hk:(hdT ts).kind=1):Z2b (hdT ts).text:=by
 cases ts with
 | nil=>simp [hdT] at hk
 | cons t l=>exact h t (by simp) hk
def Mh (P:Tree→Prop) (p:PR):Prop:=∀ t ts,p=some (.ok (t,ts))→P t∧GTn ts
theorem Mh.fail {P:Tree→Prop} {e:Int} {ts:List Tok}:Mh P (Z1k e ts):=by intro t ts' h; cases h
theorem Mh.none {P:Tree→Prop}:Mh P none:=by intro t ts' h; cases h
theorem Mh.err {P:Tree→Prop} {e:Int×Nat}:Mh P (some (.error e)):=by intro t ts' h; cases h
theorem Mh.ok {P:Tree→Prop} {t:Tree} {ts:List Tok} (h:P t) (g:GTn ts:=by first | assumption | exact GTn.tail (by assumption) | exact GTn.tail (GTn.tail (by assumption))):Mh P (okT t ts):=by
 intro t' ts' h';simp only [okT,Option.some.injEq,Except.ok.injEq,Prod.mk.injEq] at h';rw [← h'.1,← h'.2]; exact ⟨h,g⟩
theorem Mh.bind {P Q:Tree→Prop} {p:PR} {k:Tree→List Tok→PR} (hp:Mh P p) (hk:∀ t ts,P t→GTn ts→Mh Q (k t ts)):Mh Q (Zz p k):=by
 cases p with
 | none=>exact Mh.none
 | some r =>
   cases r with
   | error e=>exact Mh.err
   | ok x=>obtain ⟨t,ts⟩:=x; exact hk t ts (hp t ts rfl).1 (hp t ts rfl).2
theorem Mh.want {P:Tree→Prop} {s:ByteArray} {ts:List Tok} {k:List Tok→PR} (hk:GTn ts.tail→Mh P (k ts.tail)) (g:GTn ts:=by first | assumption | exact GTn.tail (by assumption) | exact GTn.tail (GTn.tail (by assumption))):Mh P (Z0i s ts k):=by
 unfold Z0i;by_cases h:isT s ts=true;·rw [Y5 h]; exact hk g.tail
 ·rw [Y3 h]; exact Mh.fail
theorem Mh.name {P:Tree→Prop} {ts:List Tok} {k:ByteArray→List Tok→PR} (hk:∀ s,Z2b s→GTn ts.tail→Mh P (k s ts.tail)) (g:GTn ts:=by first | assumption | exact GTn.tail (by assumption) | exact GTn.tail (GTn.tail (by assumption))):Mh P (Z1m ts k):=by
 unfold Z1m;by_cases h:(hdT ts).kind=1;·rw [Y5 h]; exact hk _ (g.hd h) g.tail
 ·rw [Y3 h]; exact Mh.fail
theorem Mh.within {P:Tree→Prop} {d:Nat} {ts:List Tok} {p:PR} (h:Mh P p):Mh P (Z00 d ts p):=by
 unfold Z00;by_cases h':30 < d + 1;·rw [Y5 h']; exact Mh.fail
 ·rw [Y3 h']; exact h
theorem Mh.ite {P:Tree→Prop} {c:Prop} [Decidable c] {p q:PR} (hp:c→Mh P p) (hq:¬ c→Mh P q):Mh P (if c then p else q):=by
 by_cases h:c;·rw [Y5 h]; exact hp h
 ·rw [Y3 h]; exact hq h
theorem Mh.comma {P:Tree→Prop} {c:Prop} [Decidable c] {ts:List Tok} {k:List Tok→PR} (hk:∀ ts',GTn ts'→Mh P (k ts')) (g:GTn ts:=by first | assumption | exact GTn.tail (by assumption) | exact GTn.tail (GTn.tail (by assumption))):Mh P ((if c then Z0i Z0n ts else fun k=>k ts) k):=by
 by_cases h:c;·rw [Y5 h]; exact Mh.want (hk _)
 ·rw [Y3 h]; exact hk _ g
theorem Mh.end' {P:Tree→Prop} {t:Tree} {ts:List Tok} (h:P t) (g:GTn ts:=by first | assumption | exact GTn.tail (by assumption) | exact GTn.tail (GTn.tail (by assumption))):Mh P (endT t ts):=Mh.want fun _=>Mh.ok h
theorem Mh.weak {P Q:Tree→Prop} {p:PR} (h:Mh P p) (g:∀ t,P t→Q t):Mh Q p:=fun t ts e=>⟨g t (h t ts e).1,(h t ts e).2⟩
theorem Z7c (lv:Nat) (ts:List Tok):Z14 lv ts=0∨(25≤Z14 lv ts∧Z14 lv ts≤31):=by
 unfold Z14;split <;> (try split) <;> (try split) <;> omega
theorem Z7g (ts:List Tok):Z1l ts=0∨(32≤Z1l ts∧Z1l ts≤34):=by
 unfold Z1l;split <;> (try split) <;> (try split) <;> omega
theorem Z82 (ts:List Tok):Z1n ts=0∨(19≤Z1n ts∧Z1n ts≤22):=by
 unfold Z1n;split <;> (try split) <;> (try split) <;> (try split) <;> omega
theorem Zdb {text:ByteArray} {j k:Nat} {t:Tok} (hj:j < text.size) (h:Z0w text j=.ok (t,k)):t.kind=1→Z2b t.text:=by
 intro h1;unfold Z0w at h;simp only at h;split at h
 ·rename_i hl;obtain ⟨K, hK⟩ : ∃ K, Zq Z1u text (text.size - j) j = K := ⟨_, rfl⟩
  obtain ⟨s1,s2,s3,s4⟩:=Z0b Z1u text (text.size - j) j (Y0 _) (by omega);rw [hK] at h s1 s2 s3 s4;have hjK:j < K:=by
   rcases Nat.lt_or_ge j K with h' | h';·exact h'
   ·have:=s4 (by omega);rw [show K=j by omega,Z3e hl] at this;cases this
  split at h
  ·simp only [Except.ok.injEq,Prod.mk.injEq] at h;obtain ⟨rfl,_⟩:=h;simp at h1
  ·rename_i hw;split at h;·cases h
   ·simp only [Except.ok.injEq, Prod.mk.injEq] at h;obtain ⟨rfl, rfl⟩ := h;have hs := Z20 text (j := j) s2;refine ⟨by rw [hs]; omega, by rw [hs]; omega, ?_, fun i hi => ?_, by simpa using hw⟩;·rw [Zo text (by omega) s2, Nat.add_zero]; exact hl
    ·rw [hs] at hi;rw [Zo text hi s2];exact s3 _ (by omega) (by omega)
 ·exfalso;split at h
  ·split at h;·cases h
   ·split at h;·cases h
    ·simp only [Except.ok.injEq,Prod.mk.injEq] at h;obtain ⟨rfl,_⟩:=h;simp at h1
  ·split at h
   ·split at h;·cases h
    ·split at h;·cases h
     ·simp only [Except.ok.injEq,Prod.mk.injEq] at h;obtain ⟨rfl,_⟩:=h;simp at h1
   ·split at h;·cases h
    ·simp only [Except.ok.injEq,Prod.mk.injEq] at h;obtain ⟨rfl,_⟩:=h;simp at h1
inductive Srt | v | vl | ol | pl | b | k | s | sl
mutual
def dang:Tree→Bool
 | .mk k _ _ ks=>if k=7∧ks.length=2 then true else if k=7∨k=8∨k=9 then Z8k ks else false
def Z8k:List Tree→Bool
 | []=>false
 | x :: l=>if l.isEmpty then dang x else Z8k l
end
def strT (l:List Tree):ByteArray:=if Z1y l then Z33 else ByteArray.empty
inductive Wf:Srt→List Tree→Prop
 | num {n:Int}:0≤n→n≤1000000000→Wf .v [.mk 17 ByteArray.empty n []]
 | str {s:ByteArray}:s.size≤500→Wf .v [.mk 18 s 0 []]
 | con {k:Int}:19≤k→k≤22→Wf .v [.mk k ByteArray.empty 0 []]
 | name {s:ByteArray}:Z2b s→Wf .v [.mk 23 s 0 []]
 | set {x y:Tree}:x.kind=23∨x.kind=36→Wf .v [x]→Wf .v [y]→Wf .v [.mk 24 ByteArray.empty 0 [x,y]]
 | two {k:Int} {x y:Tree}:25≤k→k≤31→Wf .v [x]→Wf .v [y]→Wf .v [.mk k ByteArray.empty 0 [x,y]]
 | one {k:Int} {x:Tree}:32≤k→k≤34→Wf .v [x]→Wf .v [.mk k ByteArray.empty 0 [x]]
 | mem {s:ByteArray} {x:Tree}:Z2b s→Wf .v [x]→Wf .v [.mk 36 s 0 [x]]
 | call {x:Tree} {l:List Tree}:Wf .v [x]→Wf .vl l→Wf .v [.mk 35 ByteArray.empty 0 (x :: l)]
 | lam {s:ByteArray} {l:List Tree} {b:Tree}:s=ByteArray.empty∨Z2b s→Wf .pl l→Wf .b [b]→Wf .v [.mk 37 s 0 [.mk 40 ByteArray.empty 0 l,b]]
 | obj {l:List Tree}:Wf .ol l→Wf .v [.mk 38 ByteArray.empty 0 l]
 | vnil:Wf .vl []
 | vcons {x:Tree} {l:List Tree}:Wf .v [x]→Wf .vl l→Wf .vl (x :: l)
 | onil:Wf .ol []
 | ocons {s:ByteArray} {x:Tree} {l:List Tree}:Z2b s→Wf .v [x]→Wf .ol l→Wf .ol (.mk 39 s 0 [x] :: l)
 | pnil:Wf .pl []
 | pcons {s:ByteArray} {l:List Tree}:Z2b s→Wf .pl l→Wf .pl (.mk 23 s 0 [] :: l)
 | body {l:List Tree}:Wf .sl l→Wf .b [.mk 6 (strT l) 0 l]
 | block {l:List Tree}:Wf .sl l→Wf .k [.mk 6 ByteArray.empty 0 l]
 | decl0 {k:Int} {s:ByteArray}:k=2∨k=3→Z2b s→Wf .s [.mk k s 0 []]
 | decl1 {k:Int} {s:ByteArray} {x:Tree}:k=2∨k=3∨k=4→Z2b s→Wf .v [x]→Wf .s [.mk k s 0 [x]]
 | func {s:ByteArray} {l:List Tree} {b:Tree}:Z2b s→Wf .pl l→Wf .b [b]→Wf .s [.mk 5 s 0 [.mk 40 ByteArray.empty 0 l,b]]
 | blk {b:Tree}:Wf .k [b]→Wf .s [b]
 | if2 {x y:Tree}:Wf .v [x]→Wf .s [y]→Wf .s [.mk 7 ByteArray.empty 0 [x,y]]
 | if3 {x y z:Tree}:Wf .v [x]→Wf .s [y]→Wf .s [z]→dang y=false→Wf .s [.mk 7 ByteArray.empty 0 [x,y,z]]
 | loop {k:Int} {x y:Tree}:k=8∨k=9→Wf .v [x]→Wf .s [y]→Wf .s [.mk k ByteArray.empty 0 [x,y]]
 | ret0:Wf .s [.mk 10 ByteArray.empty 0 []]
 | ret1 {k:Int} {x:Tree}:k=10∨k=11→Wf .v [x]→Wf .s [.mk k ByteArray.empty 0 [x]]
 | tryc {s:ByteArray} {b c:Tree}:Wf .k [b]→Z2b s→Wf .k [c]→Wf .s [.mk 12 ByteArray.empty 0 [b,.mk 13 s 0 [c]]]
 | tryf {b c:Tree}:Wf .k [b]→Wf .k [c]→Wf .s [.mk 12 ByteArray.empty 0 [b,.mk 14 ByteArray.empty 0 [c]]]
 | trycf {s:ByteArray} {b c e:Tree}:Wf .k [b]→Z2b s→Wf .k [c]→Wf .k [e]→Wf .s [.mk 12 ByteArray.empty 0 [b,.mk 13 s 0 [c],.mk 14 ByteArray.empty 0 [e]]]
 | empty:Wf .s [.mk 16 ByteArray.empty 0 []]
 | expr {x:Tree}:Wf .v [x]→Wf .s [.mk 15 ByteArray.empty 0 [x]]
 | snil:Wf .sl []
 | scons {x:Tree} {l:List Tree}:Wf .s [x]→Wf .sl l→Wf .sl (x :: l)
theorem Wf.vapp {l:List Tree} {x:Tree} (h:Wf .vl l) (g:Wf .v [x]):Wf .vl (l ++ [x]):=by
 induction l with
 | nil=>exact .vcons g .vnil
 | cons y l ih=>cases h with | vcons h1 h2=>exact .vcons h1 (ih h2)
theorem Wf.oapp {l:List Tree} {s:ByteArray} {x:Tree} (h:Wf .ol l) (hs:Z2b s) (g:Wf .v [x]):Wf .ol (l ++ [.mk 39 s 0 [x]]):=by
 induction l with
 | nil=>exact .ocons hs g .onil
 | cons y l ih=>cases h with | ocons h1 h2 h3=>exact .ocons h1 h2 (ih h3)
theorem Wf.papp {l:List Tree} {s:ByteArray} (h:Wf .pl l) (hs:Z2b s):Wf .pl (l ++ [.mk 23 s 0 []]):=by
 induction l with
 | nil=>exact .pcons hs .pnil
 | cons y l ih=>cases h with | pcons h1 h2=>exact .pcons h1 (ih h2)
theorem Wf.sapp {l:List Tree} {x:Tree} (h:Wf .sl l) (g:Wf .s [x]):Wf .sl (l ++ [x]):=by
 induction l with
 | nil=>exact .scons g .snil
 | cons y l ih=>cases h with | scons h1 h2=>exact .scons h1 (ih h2)
def GW (ts:List Tok):Prop:=∀ t∈ts,(t.kind=1→Z2b t.text)∧(t.kind=3→0≤t.n∧t.n≤1000000000)∧(t.kind=4→t.text.size≤500)
theorem GW.tail {ts:List Tok} (h:GW ts):GW ts.tail:=fun t ht=>h t (List.mem_of_mem_tail ht)
theorem GW.hd {ts:List Tok} (h:GW ts):((hdT ts).kind=1→Z2b (hdT ts).text)∧((hdT ts).kind=3→0≤(hdT ts).n∧(hdT ts).n≤1000000000)∧((hdT ts).kind=4→(hdT ts).text.size≤500):=by
 cases ts with
 | nil=>refine ⟨fun hk=>?_,fun hk=>?_,fun hk=>?_⟩ <;> simp [hdT] at hk
 | cons t l=>exact h t (by simp)
def Wh (P:Tree→List Tok→Prop) (p:PR):Prop:=∀ t ts,p=some (.ok (t,ts))→P t ts∧GW ts
section
variable {P Q:Tree→List Tok→Prop}
theorem Wh.fail {e:Int} {ts:List Tok}:Wh P (Z1k e ts):=by intro t ts' h; cases h
theorem Wh.none:Wh P none:=by intro t ts' h; cases h
theorem Wh.err {e:Int×Nat}:Wh P (some (.error e)):=by intro t ts' h; cases h
theorem Wh.ok {t:Tree} {ts:List Tok} (h:P t ts) (g:GW ts:=by first | assumption | exact GW.tail (by assumption) | exact GW.tail (GW.tail (by assumption))):Wh P (okT t ts):=by
 intro t' ts' h';simp only [okT,Option.some.injEq,Except.ok.injEq,Prod.mk.injEq] at h';rw [← h'.1,← h'.2]; exact ⟨h,g⟩
theorem Wh.bind {p:PR} {k:Tree→List Tok→PR} (hp:Wh P p) (hk:∀ t ts,P t ts→GW ts→Wh Q (k t ts)):Wh Q (Zz p k):=by
 cases p with
 | none=>exact Wh.none
 | some r =>
   cases r with
   | error e=>exact Wh.err
   | ok x=>obtain ⟨t,ts⟩:=x; exact hk t ts (hp t ts rfl).1 (hp t ts rfl).2
theorem Wh.want {s:ByteArray} {ts:List Tok} {k:List Tok→PR} (hk:GW ts.tail→Wh P (k ts.tail)) (g:GW ts:=by first | assumption | exact GW.tail (by assumption) | exact GW.tail (GW.tail (by assumption))):Wh P (Z0i s ts k):=by
 unfold Z0i;by_cases h:isT s ts=true;·rw [Y5 h]; exact hk g.tail
 ·rw [Y3 h]; exact Wh.fail
theorem Wh.name {ts:List Tok} {k:ByteArray→List Tok→PR} (hk:∀ s,Z2b s→GW ts.tail→Wh P (k s ts.tail)) (g:GW ts:=by first | assumption | exact GW.tail (by assumption) | exact GW.tail (GW.tail (by assumption))):Wh P (Z1m ts k):=by
 unfold Z1m;by_cases h:(hdT ts).kind=1;·rw [Y5 h]; exact hk _ (g.hd.1 h) g.tail
 ·rw [Y3 h]; exact Wh.fail
theorem Wh.within {d:Nat} {ts:List Tok} {p:PR} (h:Wh P p):Wh P (Z00 d ts p):=by
 unfold Z00;by_cases h':30 < d + 1;·rw [Y5 h']; exact Wh.fail
 ·rw [Y3 h']; exact h
theorem Wh.ite {c:Prop} [Decidable c] {p q:PR} (hp:c→Wh P p) (hq:¬ c→Wh P q):Wh P (if c then p else q):=by
 by_cases h:c;·rw [Y5 h]; exact hp h
 ·rw [Y3 h]; exact hq h
theorem Wh.comma {c:Prop} [Decidable c] {ts:List Tok} {k:List Tok→PR} (hk:∀ ts',GW ts'→Wh P (k ts')) (g:GW ts:=by first | assumption | exact GW.tail (by assumption) | exact GW.tail (GW.tail (by assumption))):Wh P ((if c then Z0i Z0n ts else fun k=>k ts) k):=by
 by_cases h:c;·rw [Y5 h]; exact Wh.want (hk _)
 ·rw [Y3 h]; exact hk _ g
theorem Wh.end' {t:Tree} {ts:List Tok} (h:P t ts.tail) (g:GW ts:=by first | assumption | exact GW.tail (by assumption) | exact GW.tail (GW.tail (by assumption))):Wh P (endT t ts):=Wh.want fun _=>Wh.ok h
theorem Wh.weak {p:PR} (h:Wh P p) (g:∀ t ts,P t ts→Q t ts):Wh Q p:=fun t ts e=>⟨g t ts (h t ts e).1,(h t ts e).2⟩
end
def StW (t:Tree) (ts:List Tok):Prop:=Wf .s [t]∧(dang t=true→isT Z2o ts=false)
def Job.resW:Job→Tree→List Tok→Prop
 | .stmts kind _=>fun t _=>∃ l,Wf .sl l∧t=.mk kind (strT l) 0 l
 | .block body=>fun t _=>if body then Wf .b [t] else Wf .k [t]
 | .func kind _=>fun t _=>(kind=5→Wf .s [t]∧dang t=false)∧(kind=37→Wf .v [t])
 | .params _=>fun t _=>∃ l,Wf .pl l∧t=.mk 40 ByteArray.empty 0 l
 | .stmt=>StW
 | .decl _ _=>fun t _=>Wf .s [t]∧dang t=false
 | .try_=>fun t _=>Wf .s [t]∧dang t=false
 | _=>fun t _=>Wf .v [t]
def Job.goodW:Job→Prop
 | .stmts _ acc=>Wf .sl acc
 | .func kind s=>(kind=5∧Z2b s)∨(kind=37∧(s=ByteArray.empty∨Z2b s))
 | .params acc=>Wf .pl acc
 | .decl kind must=>(kind=2∨kind=3)∨(kind=4∧must=true)
 | .binLoop _ x=>Wf .v [x]
 | .postLoop x=>Wf .v [x]
 | .args acc=>∃ x l,acc=x :: l∧Wf .v [x]∧Wf .vl l
 | .object acc=>Wf .ol acc
 | _=>True
theorem Z2h {k:Int} {s:ByteArray} {n:Int} {l:List Tree} (h:k≠7∧k≠8∧k≠9):dang (.mk k s n l)=false:=by
 unfold dang;rw [Y3 (by omega),Y3 (by omega)]
theorem Z7b {x y:Tree}:Z8k [x,y]=dang y:=by
 rw [Z8k.eq_def]; simp only;rw [Y3 (by simp),Z8k.eq_def]; simp only;rw [Y5 (by simp)]
theorem Z7j {k:Int} {s:ByteArray} {n:Int} {x y:Tree} (h:k=8∨k=9):dang (.mk k s n [x,y])=dang y:=by
 rw [dang.eq_def (.mk k s n [x,y])]; simp only;rw [Y3 (by omega),Y5 (by omega),Z7b]
theorem Zdc {s:ByteArray} {n:Int} {x y z:Tree}:dang (.mk 7 s n [x,y,z])=dang z:=by
 rw [dang.eq_def (.mk 7 s n [x,y,z])];show (if (7:Int)=7∧[x,y,z].length=2 then true else if (7:Int)=7∨(7:Int)=8∨(7:Int)=9 then Z8k [x,y,z] else false)=dang z;rw [Y3 (by simp),Y5 (.inl rfl),Z8k.eq_def]; simp only;rw [Y3 (by simp),Z7b]
theorem Zd4:∀ (f:Nat) (job:Job) (d:Nat) (ts:List Tok),job.goodW→GW ts→Wh job.resW (Z0 f job d ts):=by
 intro f;induction f with
 | zero=>intro job d ts _ _; unfold Z0; exact Wh.none
 | succ f ih0 =>
   intro job d ts hg g0;have ih:∀ (job:Job) (d:Nat) (ts:List Tok),job.goodW→∀ (g:GW ts:=by first | assumption | exact GW.tail (by assumption) | exact GW.tail (GW.tail (by assumption))),Wh job.resW (Z0 f job d ts):=fun job d ts h g=>ih0 job d ts h g;have kk:∀ {t:Tree},Wf .k [t]→Wf .s [t]∧dang t=false:=fun h=>⟨.blk h,by cases h; exact Z2h (by omega)⟩;cases job with
   | stmts kind acc =>
     unfold Z0;refine Wh.ite (fun _=>Wh.ok ⟨acc,hg,rfl⟩) fun _=>?_;exact Wh.bind (Wh.within (ih .stmt _ _ trivial)) fun t ts' h _=>(ih (.stmts kind (acc ++ [t])) _ _ (Wf.sapp hg h.1))
   | block body =>
     unfold Z0;refine Wh.want (fun _=>Wh.bind (ih (.stmts 6 []) _ _ .snil) fun t ts' h' _=>Wh.want (fun _=>Wh.ok ?_));obtain ⟨l,h1,rfl⟩:=h';cases body with
     | true=>exact .body h1
     | false=>exact .block h1
   | func kind text =>
     unfold Z0;refine Wh.want (fun _=>Wh.bind (ih (.params []) _ _ .pnil) fun t ts' h' _=>Wh.want (fun _=>Wh.bind (ih (.block true) _ _ trivial) fun t ts' h3 _=>Wh.ok ?_));obtain ⟨l,h1,rfl⟩:=h';refine ⟨fun hk=>?_,fun hk=>?_⟩
     ·subst hk;rcases hg with ⟨_, hg⟩ | ⟨hg, _⟩;·exact ⟨.func hg h1 h3, Z2h (by omega)⟩
      ·cases hg
     ·subst hk;rcases hg with ⟨hg, _⟩ | ⟨_, hg⟩;·cases hg
      ·exact .lam hg h1 h3
   | params acc =>
     unfold Z0;refine Wh.ite (fun _=>Wh.ok ⟨acc,hg,rfl⟩) fun _=>?_;exact Wh.comma fun ts' _=>Wh.ite (fun _=>Wh.fail) fun _=>Wh.name fun s hs _=>ih (.params (acc ++ [Tree.mk 23 s 0 []])) _ _ (Wf.papp hg hs)
   | around =>
     unfold Z0;exact Wh.want (fun _=>Wh.bind (ih .value _ _ trivial) fun t ts' h' _=>Wh.want (fun _=>Wh.ok h'))
   | stmt =>
     unfold Z0;show Wh StW _;have nd:∀ {t:Tree} {ts:List Tok},Wf .s [t]∧dang t=false→StW t ts:=fun h=>⟨h.1,fun e=>by rw [h.2] at e; cases e⟩;refine Wh.ite (fun h=>(ih (.block false) _ _ trivial).weak fun _ _ h=>nd (kk h)) fun _=>?_;refine Wh.ite (fun h=>Wh.ok (nd ⟨.empty,Z2h (by omega)⟩)) fun _=>?_;refine Wh.ite (fun h=>Wh.bind (ih (.decl 2 false) _ _ (.inl (.inl rfl))) fun t us h2 _=>Wh.end' (nd h2)) fun _=>?_;refine Wh.ite (fun h=>Wh.bind (ih (.decl 3 false) _ _ (.inl (.inr rfl))) fun t us h2 _=>Wh.end' (nd h2)) fun _=>?_
     refine Wh.ite (fun h=>Wh.bind (ih (.decl 4 true) _ _ (.inr ⟨rfl,rfl⟩)) fun t us h2 _=>Wh.end' (nd h2)) fun _=>?_;refine Wh.ite (fun h=>Wh.name fun s hs _=>(ih (.func 5 s) _ _ (.inl ⟨rfl,hs⟩)).weak fun _ _ h=>nd (h.1 rfl)) fun _=>?_;refine Wh.ite (fun h=>Wh.bind (ih .around _ _ trivial) fun x us h2 _=>Wh.bind (Wh.within (ih .stmt _ _ trivial)) fun y vs h3 _=>Wh.ite (fun h4=>Wh.bind (Wh.within (ih .stmt _ _ trivial)) fun z xs h5 _=>Wh.ok ?_) fun h4=>Wh.ok ?_) fun _=>?_
     ·refine ⟨.if3 h2 h3.1 h5.1 ?_, by rw [Zdc]; exact h5.2⟩;cases hd : dang y with
      | false=>rfl
      | true=>rw [h3.2 hd] at h4; cases h4
     ·exact ⟨.if2 h2 h3.1,fun _=>by simpa using h4⟩
     refine Wh.ite (fun h=>Wh.bind (ih .around _ _ trivial) fun t us h2 _=>Wh.bind (Wh.within (ih .stmt _ _ trivial)) fun t vs h3 _=>Wh.ok ⟨.loop (.inl rfl) h2 h3.1,by rw [Z7j (.inl rfl)]; exact h3.2⟩) fun _=>?_;refine Wh.ite (fun h=>Wh.bind (ih .around _ _ trivial) fun t us h2 _=>Wh.bind (Wh.within (ih .stmt _ _ trivial)) fun t vs h3 _=>Wh.ok ⟨.loop (.inr rfl) h2 h3.1,by rw [Z7j (.inr rfl)]; exact h3.2⟩) fun _=>?_
     refine Wh.ite (fun h=>Wh.ite (fun h1=>Wh.end' (nd ⟨.ret0,Z2h (by omega)⟩)) (fun _=>Wh.bind (ih .value _ _ trivial) fun t us h2 _=>Wh.end' (nd ⟨.ret1 (.inl rfl) h2,Z2h (by omega)⟩))) fun _=>?_;refine Wh.ite (fun h=>Wh.bind (ih .value _ _ trivial) fun t us h2 _=>Wh.end' (nd ⟨.ret1 (.inr rfl) h2,Z2h (by omega)⟩)) fun _=>?_;refine Wh.ite (fun h=>(ih .try_ _ _ trivial).weak fun _ _ h=>nd h) fun _=>?_;exact Wh.bind (ih .value _ _ trivial) fun t us h2 _=>Wh.end' (nd ⟨.expr h2,Z2h (by omega)⟩)
   | decl kind must =>
     have hk:(kind=2∨kind=3)∨(kind=4∧must=true):=hg;unfold Z0;refine Wh.name fun s hs _=>Wh.ite (fun _=>Wh.fail) fun hm=>Wh.ite (fun h2=>Wh.bind (ih .value _ _ trivial) fun t us h3 _=>Wh.ok ?_) fun hn=>Wh.ok ?_;·exact ⟨.decl1 (by omega) hs h3,Z2h (by omega)⟩
     ·refine ⟨.decl0 ?_ hs, Z2h (by omega)⟩;rcases hk with h | ⟨h, hmu⟩;·exact h
      ·subst hmu;simp [hn] at hm
   | try_ =>
     unfold Z0;refine Wh.bind (ih (.block false) _ _ trivial) fun b us h _=>?_;replace h:Wf .k [b]:=h
     refine Wh.ite (fun h1=>?_) fun _=>?_
     ·refine Wh.want (fun _=>Wh.name fun s hs _=>Wh.want (fun _=>Wh.bind (ih (.block false) _ _ trivial) fun c vs h5 _=>?_));exact Wh.ite (fun _=>Wh.bind (ih (.block false) _ _ trivial) fun t xs h3 _=>Wh.ok ⟨.trycf h hs h5 h3,Z2h (by omega)⟩) fun _=>Wh.ite (fun _=>Wh.fail) fun _=>Wh.ok ⟨.tryc h hs h5,Z2h (by omega)⟩
     ·exact Wh.ite (fun _=>Wh.bind (ih (.block false) _ _ trivial) fun t xs h3 _=>Wh.ok ⟨.tryf h h3,Z2h (by omega)⟩) fun _=>Wh.ite (fun _=>Wh.fail) fun h=>absurd rfl h
   | value=>unfold Z0; exact Wh.within (ih .assign _ _ trivial)
   | assign =>
     unfold Z0;exact Wh.bind (ih (.bin 0) _ _ trivial) fun x us h _=>Wh.ite (fun h1=>Wh.ite (fun hk=>Wh.bind (ih .value _ _ trivial) fun y vs h2 _=>Wh.ok (.set hk h h2)) fun _=>Wh.err) fun _=>Wh.ok h
   | bin level =>
     unfold Z0;exact Wh.ite (fun _=>ih .unary _ _ trivial) fun _=>Wh.bind (ih (.bin (level + 1)) _ _ trivial) fun x us h _=>ih (.binLoop level x) _ _ h
   | binLoop level x =>
     unfold Z0;exact Wh.ite (fun _=>Wh.ok hg) fun h0=>Wh.bind (ih (.bin (level + 1)) _ _ trivial) fun y us h _=>ih (.binLoop level (.mk (Z14 level ts) ByteArray.empty 0 [x,y])) _ _ (.two (by have:=Z7c level ts; omega) (by have:=Z7c level ts; omega) hg h)
   | unary =>
     unfold Z0;exact Wh.ite (fun _=>ih .postfix_ _ _ trivial) fun h0=>Wh.bind (Wh.within (ih .unary _ _ trivial)) fun x us h _=>Wh.ok (.one (by have:=Z7g ts; omega) (by have:=Z7g ts; omega) h)
   | postfix_ =>
     unfold Z0;exact Wh.bind (ih .primary _ _ trivial) fun x us h _=>ih (.postLoop x) _ _ h
   | postLoop x =>
     unfold Z0;exact Wh.ite (fun _=>Wh.name fun s hs _=>ih (.postLoop (.mk 36 s 0 [x])) _ _ (.mem hs hg)) fun _=>Wh.ite (fun _=>Wh.bind (ih (.args [x]) _ _ ⟨x,[],rfl,hg,.vnil⟩) fun n us h _=>ih (.postLoop n) _ _ h) fun _=>Wh.ok hg
   | args acc =>
     unfold Z0;obtain ⟨x,l,rfl,hx,hl⟩:=hg;refine Wh.ite (fun _=>Wh.ok (.call hx hl)) fun _=>?_;exact Wh.comma fun ts' _=>Wh.ite (fun _=>Wh.fail) fun _=>Wh.bind (ih .value _ _ trivial) fun v us h _=>ih (.args (x :: l ++ [v])) _ _ ⟨x,l ++ [v],rfl,hx,Wf.vapp hl h⟩
   | primary =>
     unfold Z0;obtain ⟨g1,g2,g3⟩:=g0.hd;refine Wh.ite (fun h=>Wh.ok (.name (g1 h))) fun _=>?_;refine Wh.ite (fun h=>Wh.ok (.num (g2 h).1 (g2 h).2)) fun _=>?_;refine Wh.ite (fun h=>Wh.ok (.str (g3 h))) fun _=>?_;refine Wh.ite (fun h=>Wh.ok (.con (by have:=Z82 ts; omega) (by have:=Z82 ts; omega))) fun _=>?_;refine Wh.ite (fun h=>ih .around _ _ trivial) fun _=>?_
     refine Wh.ite (fun h=>Wh.ite (fun hk=>(ih (.func 37 (hdT ts.tail).text) _ _ (.inr ⟨rfl,.inr (g0.tail.hd.1 hk)⟩)).weak fun _ _ h=>h.2 rfl) fun _=>(ih (.func 37 ByteArray.empty) _ _ (.inr ⟨rfl,.inl rfl⟩)).weak fun _ _ h=>h.2 rfl) fun _=>?_;exact Wh.ite (fun h=>ih (.object []) _ _ .onil) fun _=>Wh.fail
   | object acc =>
     unfold Z0;refine Wh.ite (fun _=>Wh.ok (.obj hg)) fun _=>?_;exact Wh.comma fun ts' _=>Wh.ite (fun _=>Wh.fail) fun _=>Wh.name fun s hs _=>Wh.want (fun _=>Wh.bind (ih .value _ _ trivial) fun v us h _=>ih (.object (acc ++ [Tree.mk 39 s 0 [v]])) _ _ (Wf.oapp hg hs h))
theorem Zfd {text:ByteArray} {k:Nat}:∀ (f i:Nat) (n:Int),(∀ m,i≤m→m < k→Z0l (Z9 text m)=true)→0≤n→0≤numF text k f i n:=by
 intro f;induction f with
 | zero=>intro i n _ h; exact h
 | succ f ih =>
   intro i n hd h;simp only [numF];by_cases hi:i < k
   ·rw [Y5 hi];have:=hd i (Y0 _) hi;simp only [Z0l,Bool.and_eq_true,decide_eq_true_eq] at this;exact ih _ _ (fun m h1 h2=>hd m (by omega) h2) (by omega)
   ·rw [Y3 hi]; exact h
theorem Z8j {text:ByteArray}:∀ (f i:Nat) (acc bs:List UInt8) (k:Nat),Z0f text f i acc=(bs,0,k)→bs.length≤500:=by
 intro f;induction f with
 | zero=>intro i acc bs k h; simp [Z0f] at h
 | succ f ih =>
   intro i acc bs k h;simp only [Z0f] at h;by_cases h1:text.size≤i∨Z9 text i=10;·rw [Y5 h1] at h; simp at h
   rw [Y3 h1] at h;by_cases h2:Z9 text i=39
   ·rw [Y5 h2] at h;by_cases h3 : 500 < acc.length;·rw [Y5 h3] at h; simp at h
    rw [Y3 h3] at h;simp only [Prod.mk.injEq,true_and] at h;obtain ⟨rfl,_⟩:=h;omega
   rw [Y3 h2] at h;by_cases h3:Z9 text i=92
   ·rw [Y5 h3] at h;by_cases h4 : i + 1 < text.size
    ·rw [Y5 h4] at h;cases he : Z5v (Z9 text (i + 1)) with
     | none=>rw [he] at h; simp at h
     | some e=>rw [he] at h; exact ih _ _ _ _ h
    ·rw [Y3 h4] at h; simp at h
   ·rw [Y3 h3] at h;exact ih _ _ _ _ h
theorem Zda {text:ByteArray} {j k:Nat} {t:Tok} (hj:j < text.size) (h:Z0w text j=.ok (t,k)):(t.kind=1→Z2b t.text)∧(t.kind=3→0≤t.n∧t.n≤1000000000)∧(t.kind=4→t.text.size≤500):=by
 refine ⟨Zdb hj h,fun hk=>?_,fun hk=>?_⟩
 ·unfold Z0w at h;simp only at h;split at h
  ·split at h;·simp only [Except.ok.injEq, Prod.mk.injEq] at h; obtain ⟨rfl, _⟩ := h; simp at hk
   ·split at h;·cases h
    ·simp only [Except.ok.injEq,Prod.mk.injEq] at h; obtain ⟨rfl,_⟩:=h; simp at hk
  ·split at h
   ·split at h;·cases h
    ·split at h;·cases h
     ·simp only [Except.ok.injEq,Prod.mk.injEq] at h;obtain ⟨rfl,_⟩:=h;obtain ⟨s1,s2,s3,s4⟩:=Z0b Z0l text (text.size - j) j (Y0 _) (by omega);exact ⟨Zfd _ _ _ s3 (by omega),by simp only; omega⟩
   ·split at h
    ·split at h;·cases h
     ·split at h;·cases h
      ·simp only [Except.ok.injEq,Prod.mk.injEq] at h; obtain ⟨rfl,_⟩:=h; simp at hk
    ·split at h;·cases h
     ·simp only [Except.ok.injEq,Prod.mk.injEq] at h; obtain ⟨rfl,_⟩:=h; simp at hk
 ·unfold Z0w at h;simp only at h;split at h
  ·split at h;·simp only [Except.ok.injEq, Prod.mk.injEq] at h; obtain ⟨rfl, _⟩ := h; simp at hk
   ·split at h;·cases h
    ·simp only [Except.ok.injEq,Prod.mk.injEq] at h; obtain ⟨rfl,_⟩:=h; simp at hk
  ·split at h
   ·split at h;·cases h
    ·split at h;·cases h
     ·simp only [Except.ok.injEq,Prod.mk.injEq] at h; obtain ⟨rfl,_⟩:=h; simp at hk
   ·split at h
    ·obtain ⟨⟨bs, e, K⟩, hR⟩ : ∃ R, R = Z0x text (j + 1) := ⟨_, rfl⟩
     rw [← hR] at h;simp only at h;split at h;·cases h
     ·split at h;·cases h
      ·rename_i h0;simp only [ne_eq,Decidable.not_not] at h0;subst h0;simp only [Except.ok.injEq,Prod.mk.injEq] at h;obtain ⟨rfl,_⟩:=h;have:=Z8j _ _ _ _ _ hR.symm;exact this
    ·split at h;·cases h
     ·simp only [Except.ok.injEq,Prod.mk.injEq] at h; obtain ⟨rfl,_⟩:=h; simp at hk
theorem Zcy {text:ByteArray}:∀ (r:List Tok) (i:Nat),i≤text.size→Z4a text i r→GW r:=by
 intro r;induction r with
 | nil=>intro i _ h; exact h.elim
 | cons t r ih =>
   intro i hi h;cases r with
   | nil =>
     obtain ⟨h1,h2⟩:=h;intro x hx;simp only [List.mem_singleton] at hx;subst hx;rw [h2];refine ⟨fun h=>?_,fun h=>?_,fun h=>?_⟩ <;> simp at h
   | cons u r =>
     obtain ⟨k,h1,h2,h3⟩:=h;obtain ⟨c1,c2,_⟩:=Z1e text h1 h2;intro x hx;rcases List.mem_cons.1 hx with rfl | hx;·exact Zda h1 h2
     ·exact ih k c2 h3 x hx
theorem Z4b {text:ByteArray} {t:Tree} (h:Z0h text=.ok t):∃ l,Wf .sl l∧t=.mk 1 (strT l) 0 l∧t.many≤1500:=by
 unfold Z0h at h;split at h;·cases h
 ·split at h;·cases h
  ·rename_i ts _;split at h;·cases h
   ·cases h
   ·rename_i t' ts' hp;split at h;·cases h
    ·have e : t' = t := by simpa using h
     subst e;obtain ⟨⟨l,h1,h2⟩,_⟩:=Zd4 _ _ _ _ (show Job.goodW (.stmts 1 []) from .snil) (Zcy _ _ (Yh _) (Z3y (by assumption))) _ _ hp;exact ⟨l,h1,h2,by omega⟩
inductive Pc
 | sp (c:UInt8)
 | t (kind:Int) (text:ByteArray) (n:Int)
def escB (u:UInt8):List UInt8:=if u=92 then [92,92] else if u=39 then [92,39] else if u=10 then [92,110] else [u]
def Z49 (s:ByteArray):List UInt8:=39 :: (s.data.toList.flatMap escB ++ [39])
def Pc.bytes:Pc→List UInt8
 | .sp c=>[c]
 | .t k s n=>if k=3 then Lib.itoa n else if k=4 then Z49 s else s.data.toList
def Z5 (l:List Pc):List UInt8:=l.flatMap Pc.bytes
def toB (l:List Pc):ByteArray:=⟨(Z5 l).toArray⟩
abbrev sg (c:UInt8):Pc:=.t 5 ⟨#[c]⟩ 0
abbrev wd (s:ByteArray):Pc:=.t 2 s 0
abbrev nm (s:ByteArray):Pc:=.t 1 s 0
abbrev sp:Pc:=.sp 32
def Zf (k:Int):Int:=
 if k=24 then 0 else if k=25 then 1 else if k=26 then 2 else if k=27 then 3 else if k=28 then 4 else if k=29∨k=30 then 5 else if k=31 then 6
 else if k=32∨k=33∨k=34 then 7 else if k=35∨k=36 then 8 else 9
def sgnP (k:Int):List Pc:=
 if k=25 then [sp,.t 5 s_or 0,sp] else if k=26 then [sp,.t 5 Z5a 0,sp] else if k=27 then [sp,.t 5 Z3k 0,sp] else if k=28 then [sp,sg 60,sp]
 else if k=29 then [sp,sg 43,sp] else if k=30 then [sp,sg 45,sp] else if k=31 then [sp,sg 42,sp]
 else if k=32 then [sg 33] else if k=33 then [wd Z1d,sp] else [wd Z1g,sp]
def Z5q (k:Int):List Pc:=
 if k=2 then [wd Z5f,sp] else if k=3 then [wd Z63,sp] else if k=4 then [wd Z32,sp] else if k=7 then [wd s_if,sp] else if k=8 then [wd Z2v,sp]
 else if k=9 then [wd Z3t,sp] else if k=10 then [wd Z26] else [wd Z2t]
def Z9d (k:Int):ByteArray:=if k=19 then Z2n else if k=20 then Z1s else if k=21 then Z34 else Z0v
def Z74 (s:List UInt8):Bool:=Lib.hasPrefix s [123] || Lib.hasPrefix s [102,117,110,99,116,105,111,110,40] || Lib.hasPrefix s [102,117,110,99,116,105,111,110,32]
def Z8t (p:Bool) (l:List Pc):List Pc:=if p then sg 40 :: (l ++ [sg 41]) else l
def Zdx (l:List Pc):List Pc:=Z8t (Z74 (Z5 l)) l
def fnP (t:ByteArray) (l b:List Pc):List Pc:=wd Z0g :: ((if t.size=0 then [] else [sp,nm t]) ++ sg 40 :: (l ++ sg 41 :: sp :: b))
def sepP (first:Bool) (l:List Pc):List Pc:=if first then [] else l
mutual
def vP:Tree→Int→List Pc
 | .mk k t n ks,need=>Z8t (decide (Zf k < need)) (vbP k t n ks)
def vbP (k:Int) (t:ByteArray) (n:Int) (ks:List Tree):List Pc:=
 if k=17 then [.t 3 ByteArray.empty n] else if k=18 then [.t 4 t 0]
 else if k=19∨k=20∨k=21∨k=22 then [wd (Z9d k)] else if k=23 then [nm t]
 else if k=24 then match ks with
  | x :: y :: _=>vP x 8 ++ sp :: sg 61 :: sp :: vP y 0
  | _=>[]
 else if k=32∨k=33∨k=34 then match ks with
  | x :: _=>sgnP k ++ vP x 7
  | _=>[]
 else if k=36 then match ks with
  | x :: _=>vP x 8 ++ [sg 46,nm t]
  | _=>[]
 else if k=35 then match ks with
  | x :: r=>vP x 8 ++ sg 40 :: (lP true r ++ [sg 41])
  | _=>[]
 else if k=37 then match ks with
  | .mk _ _ _ ps :: b :: _=>fnP t (lP true ps) (sP b)
  | _=>[]
 else if k=38 then sg 123 :: (lP true ks ++ [sg 125])
 else if k=39 then match ks with
  | x :: _=>nm t :: sg 58 :: sp :: vP x 0
  | _=>[]
 else match ks with
  | x :: y :: _=>vP x (Zf k) ++ (sgnP k ++ vP y (Zf k + 1))
  | _=>[]
def lP (first:Bool):List Tree→List Pc
 | []=>[]
 | x :: r=>sepP first [sg 44,sp] ++ (vP x 0 ++ lP false r)
def sP:Tree→List Pc
 | .mk k t n ks =>
   if k=2∨k=3∨k=4 then Z5q k ++ nm t :: (match ks with
    | x :: _=>sp :: sg 61 :: sp :: (vP x 0 ++ [sg 59])
    | _=>[sg 59])
   else if k=5 then match ks with
    | .mk _ _ _ ps :: b :: _=>fnP t (lP true ps) (sP b)
    | _=>[]
   else if k=6 then sg 123 :: (bP true ks ++ [sg 125])
   else if k=7∨k=8∨k=9 then match ks with
    | x :: y :: r => Z5q k ++ sg 40 :: (vP x 0 ++ sg 41 :: sp :: (sP y ++ (match r with
      | z :: _=>sp :: wd Z2o :: sp :: sP z
      | _=>[])))
    | _=>[]
   else if k=10∨k=11 then Z5q k ++ (match ks with
    | x :: _=>sp :: (vP x 0 ++ [sg 59])
    | _=>[sg 59])
   else if k=12 then match ks with
    | x :: r=>wd Z4e :: sp :: (sP x ++ cP r)
    | _=>[]
   else if k=16 then [sg 59]
   else match ks with
    | x :: _=>Zdx (vP x 0) ++ [sg 59]
    | _=>[]
def bP (first:Bool):List Tree→List Pc
 | []=>[]
 | x :: r=>sepP first [sp] ++ (sP x ++ bP false r)
def cP:List Tree→List Pc
 | []=>[]
 | .mk k t _ ks :: r => (match ks with
   | x :: _=>(if k=13 then [sp,wd Z10,sp,sg 40,nm t,sg 41,sp] else [sp,wd Zs,sp]) ++ sP x
   | _=>[]) ++ cP r
end
def pP:List Tree→List Pc
 | []=>[]
 | x :: r=>sP x ++ .sp 10 :: pP r
def Zdu (l:List Tree):ByteArray:=toB (pP l)
theorem Za (l m:List Pc):Z5 (l ++ m)=Z5 l ++ Z5 m:=by simp [Z5]
theorem Z8 (p:Pc) (l:List Pc):Z5 (p :: l)=p.bytes ++ Z5 l:=by simp [Z5]
theorem Z18:Z5 []=[]:=rfl
structure Win (T b:ByteArray) (o:Nat):Prop where
 size:o + b.size≤T.size
 get:∀ i,i < b.size→T.data.getD (o + i) 0=b.data.getD i 0
 stop:o + b.size < T.size→Z05 (Z9 T (o + b.size))=true
theorem Win.byte {T b:ByteArray} {o:Nat} (h:Win T b o) {i:Nat} (hi:i < b.size):Z9 T (o + i)=Z9 b i:=by
 unfold Z9;rw [h.get i hi]
theorem Win.past {T b:ByteArray} {o:Nat} (h:Win T b o):Z9 T (o + b.size)=0∨Z9 T (o + b.size)=32∨Z9 T (o + b.size)=10:=by
 rcases Nat.lt_or_ge (o + b.size) T.size with h1 | h1
 ·have:=h.stop h1;simp only [Z05,Bool.or_eq_true,decide_eq_true_eq] at this;exact .inr this
 ·exact .inl (Z2q h1)
theorem Win.span {T b:ByteArray} {o:Nat} (h:Win T b o) (p:Int→Bool) (hp:∀ c,Z05 c=true→p c=false) {i:Nat} (hi:i≤b.size) :
 Zq p T (T.size - (o + i)) (o + i)=o + Zq p b (b.size - i) i:=by
 obtain ⟨s1,s2,s3,s4⟩:=Z0b p b (b.size - i) i (Y0 _) hi;have hs:=h.size;refine Z1w p T _ _ _ (Y0 _) (by omega) (by omega) (fun m h1 h2=>?_) fun h1=>?_
 ·have e:=h.byte (i:=m - o) (by omega);rw [show o + (m - o)=m by omega] at e;rw [e];exact s3 _ (by omega) (by omega)
 ·rcases Nat.lt_or_ge (Zq p b (b.size - i) i) b.size with h2 | h2
  ·rw [h.byte h2];exact s4 h2
  ·have e : Zq p b (b.size - i) i = b.size := by omega
   rw [e] at h1 ⊢;exact hp _ (h.stop h1)
theorem Win.blank {T b:ByteArray} {o:Nat} (h:Win T b o) {i:Nat} (hi:i≤b.size) (hk:Zq Z05 b (b.size - i) i < b.size) :
 Zq Z05 T (T.size - (o + i)) (o + i)=o + Zq Z05 b (b.size - i) i:=by
 obtain ⟨s1,s2,s3,s4⟩:=Z0b Z05 b (b.size - i) i (Y0 _) hi;have hs:=h.size;refine Z1w Z05 T _ _ _ (Y0 _) (by omega) (by omega) (fun m h1 h2=>?_) fun h1=>?_
 ·have e:=h.byte (i:=m - o) (by omega);rw [show o + (m - o)=m by omega] at e;rw [e];exact s3 _ (by omega) (by omega)
 ·rw [h.byte hk];exact s4 hk
theorem Win.num {T b:ByteArray} {o k:Nat} (h:Win T b o) (hk:k≤b.size):∀ (f i:Nat) (n:Int),numF T (o + k) f (o + i) n=numF b k f i n:=by
 intro f;induction f with
 | zero=>intro i n; rfl
 | succ f ih =>
   intro i n;simp only [numF];by_cases h1:i < k
   ·rw [Y5 (by omega),Y5 h1,h.byte (by omega),show o + i + 1=o + (i + 1) by omega];exact ih (i + 1) _
   ·rw [Y3 (by omega),Y3 h1]
theorem Win.cut {T b:ByteArray} {o j k:Nat} (h:Win T b o) (hk:k≤b.size):T.extract (o + j) (o + k)=b.extract j k:=by
 have hs:=h.size;apply ByteArray.ext;rw [ByteArray.data_extract,ByteArray.data_extract];have s1:T.data.size=T.size:=rfl;have s2:b.data.size=b.size:=rfl;apply Array.ext
 ·simp only [Array.size_extract];omega
 ·intro i h1 h2;simp only [Array.size_extract] at h1 h2;simp only [Array.getElem_extract];have e:=h.get (j + i) (by omega);simp only [Array.getD,dif_pos (show o + (j + i) < T.data.size by omega),dif_pos (show j + i < b.data.size by omega)] at e;simpa [Nat.add_assoc] using e
theorem Win.quoted {T b:ByteArray} {o:Nat} (h:Win T b o):∀ (f i:Nat) (acc bs:List UInt8) (k:Nat),Z0f b f i acc=(bs,0,k)→i < k∧k≤b.size∧∀ f',k - i≤f'→Z0f T f' (o + i) acc=(bs,0,o + k):=by
 intro f;induction f with
 | zero=>intro i acc bs k h1; simp [Z0f] at h1
 | succ f ih =>
   intro i acc bs k h0;have hs:=h.size;simp only [Z0f] at h0;by_cases h1:b.size≤i∨Z9 b i=10;·rw [Y5 h1] at h0; simp at h0
   rw [Y3 h1] at h0;simp only [not_or,Nat.not_le] at h1;have hb:=h.byte h1.1;by_cases h2:Z9 b i=39
   ·rw [Y5 h2] at h0;by_cases h3 : 500 < acc.length;·rw [Y5 h3] at h0; simp at h0
    rw [Y3 h3] at h0;simp only [Prod.mk.injEq,true_and] at h0;obtain ⟨rfl,rfl⟩:=h0;refine ⟨by omega,by omega,fun f' hf=>?_⟩;obtain ⟨g,rfl⟩:∃ g,f'=g + 1:=⟨f' - 1,by omega⟩
    simp only [Z0f,hb];rw [Y3 (by omega),Y5 h2,Y3 h3,Nat.add_assoc]
   rw [Y3 h2] at h0;by_cases h3:Z9 b i=92
   ·rw [Y5 h3] at h0;by_cases h4 : i + 1 < b.size
    ·rw [Y5 h4] at h0;cases he : Z5v (Z9 b (i + 1)) with
     | none=>rw [he] at h0; simp at h0
     | some e =>
       rw [he] at h0;simp only at h0;obtain ⟨g1,g2,g3⟩:=ih (i + 2) _ bs k h0;refine ⟨by omega,g2,fun f' hf=>?_⟩;obtain ⟨g,rfl⟩:∃ g,f'=g + 1:=⟨f' - 1,by omega⟩
       have hb1:=h.byte h4;rw [← Nat.add_assoc] at hb1;simp only [Z0f,hb,hb1];rw [Y3 (by omega),Y3 h2,Y5 h3,Y5 (by omega),he];simp only;rw [Nat.add_assoc];exact g3 g (by omega)
    ·rw [Y3 h4] at h0; simp at h0
   ·rw [Y3 h3] at h0;obtain ⟨g1, g2, g3⟩ := ih (i + 1) _ bs k h0;refine ⟨by omega, g2, fun f' hf => ?_⟩;obtain ⟨g, rfl⟩ : ∃ g, f' = g + 1 := ⟨f' - 1, by omega⟩
    simp only [Z0f,hb,h.get i h1.1];rw [Y3 (by omega),Y3 h2,Y3 h3,Nat.add_assoc];exact g3 g (by omega)
theorem Win.signs {T b:ByteArray} {o:Nat} (h:Win T b o) {j:Nat} (hj:j < b.size):Z02 T (o + j)=Z02 b j:=by
 have hb:=h.byte hj;have hp:=h.past;unfold Z02;rw [hb];by_cases h1:j + 1 < b.size
 ·have hb1 := h.byte h1;rw [← Nat.add_assoc] at hb1;rw [hb1];by_cases h2 : j + 2 < b.size
  ·have hb2:=h.byte h2;rw [← Nat.add_assoc] at hb2;rw [hb2]
  ·have e : j + 2 = b.size := by omega
   have z:=Z2q (text:=b) (i:=j + 2) (by omega);rw [← e,← Nat.add_assoc] at hp;rw [z];have n61:Z9 T (o + j + 2)≠61:=by omega
   simp [n61]
 ·have e : j + 1 = b.size := by omega
  have z:=Z2q (text:=b) (i:=j + 1) (by omega);rw [← e,← Nat.add_assoc] at hp;rw [z];have n1:Z9 T (o + j + 1)≠61:=by omega
  have n2:Z9 T (o + j + 1)≠38:=by omega
  have n3:Z9 T (o + j + 1)≠124:=by omega
  simp [n1,n2,n3]
def Tok.shift (o:Nat) (t:Tok):Tok:={ t with at':=o + t.at' }
theorem Zal {c:Int} (h:Z05 c=true):Z1u c=false:=by
 cases hw:Z1u c with
 | false=>rfl
 | true=>rw [Z1c hw] at h; cases h
theorem Z87 {c:Int} (h:Z05 c=true):Z0l c=false:=by
 cases hw:Z0l c with
 | false=>rfl
 | true=>rw [Z1c (Z50 hw)] at h; cases h
theorem Win.tok {T b:ByteArray} {o:Nat} (h:Win T b o) {j k:Nat} {t:Tok} (hj:j < b.size) (ht:Z0w b j=.ok (t,k)):Z0w T (o + j)=.ok (t.shift o,o + k):=by
 have hb:=h.byte hj;obtain ⟨c1,c2,_⟩:=Z1e b hj ht;unfold Z0w at ht ⊢;rw [hb];by_cases hl:Z0p (Z9 b j)=true
 ·rw [Y5 hl] at ht ⊢;simp only at ht ⊢;rw [h.span Z1u (fun c => Zal) (by omega)];obtain ⟨K, hK⟩ : ∃ K, Zq Z1u b (b.size - j) j = K := ⟨_, rfl⟩
  obtain ⟨_,s2,_,_⟩:=Z0b Z1u b (b.size - j) j (Y0 _) (by omega);rw [hK] at ht s2 ⊢;rw [h.cut s2,show o + K - (o + j)=K - j by omega];split at ht
  ·simp only [Except.ok.injEq,Prod.mk.injEq] at ht;obtain ⟨rfl,rfl⟩:=ht;rw [Y5 (by assumption)];rfl
  ·split at ht;·cases ht
   ·simp only [Except.ok.injEq,Prod.mk.injEq] at ht;obtain ⟨rfl,rfl⟩:=ht;rw [Y3 (by assumption),Y3 (by assumption)];rfl
 rw [Y3 hl] at ht ⊢;by_cases hd:Z0l (Z9 b j)=true
 ·rw [Y5 hd] at ht ⊢;simp only at ht ⊢;rw [h.span Z0l (fun c => Z87) (by omega)];obtain ⟨K, hK⟩ : ∃ K, Zq Z0l b (b.size - j) j = K := ⟨_, rfl⟩
  obtain ⟨_,s2,_,_⟩:=Z0b Z0l b (b.size - j) j (Y0 _) (by omega);rw [hK] at ht s2 ⊢;rw [show o + K - (o + j)=K - j by omega,h.num s2];split at ht;·cases ht
  ·split at ht;·cases ht
   ·simp only [Except.ok.injEq,Prod.mk.injEq] at ht;obtain ⟨rfl,rfl⟩:=ht;rw [Y3 (by assumption),Y3 (by assumption)];rfl
 rw [Y3 hd] at ht ⊢;by_cases hq:Z9 b j=39
 ·rw [Y5 hq] at ht ⊢;obtain ⟨⟨bs, e, K⟩, hR⟩ : ∃ R, R = Z0x b (j + 1) := ⟨_, rfl⟩
  rw [← hR] at ht;simp only at ht;by_cases h4:e=4;·rw [Y5 h4] at ht; cases ht
  rw [Y3 h4] at ht;by_cases h0:e≠0;·rw [Y5 h0] at ht; cases ht
  rw [Y3 h0] at ht;simp only [ne_eq,Decidable.not_not] at h0;subst h0;simp only [Except.ok.injEq,Prod.mk.injEq] at ht;obtain ⟨rfl,rfl⟩:=ht;obtain ⟨g1,g2,g3⟩:=h.quoted _ _ _ _ _ hR.symm;have hqa:Z0x T (o + j + 1)=(bs,0,o + K):=by
   have:=g3 (T.size + 1 - (o + j + 1)) (by have:=h.size; omega);rw [← Nat.add_assoc] at this;exact this
  rw [hqa];rfl
 rw [Y3 hq] at ht ⊢;rw [h.signs hj];by_cases hs:Z02 b j=1∧Z4r (Z9 b j)=false;·rw [Y5 hs] at ht; cases ht
 rw [Y3 hs] at ht ⊢;simp only [Except.ok.injEq,Prod.mk.injEq] at ht;obtain ⟨rfl,rfl⟩:=ht;rw [Nat.add_assoc,h.cut c2];rfl
theorem Win.stand {T b:ByteArray} {o:Nat} (h:Win T b o) (he:T.size=o + b.size):∀ (r:List Tok) (i:Nat),i≤b.size→Z4a b i r→Z4a T (o + i) (r.map (Tok.shift o)):=by
 intro r;induction r with
 | nil=>intro i _ h1; exact h1.elim
 | cons t r ih =>
   intro i hi h1;obtain ⟨s1,s2,s3,s4⟩:=Z0b Z05 b (b.size - i) i (Y0 _) hi;cases r with
   | nil =>
     obtain ⟨h2,h3⟩:=h1;have e:Zq Z05 b (b.size - i) i=b.size:=by omega
     have e2:Zq Z05 T (T.size - (o + i)) (o + i)=T.size:=by
      refine Z1w Z05 T _ _ _ (Y0 _) (by omega) (Y0 _) (fun m h1 h2=>?_) fun h1=>by omega
      have e3:=h.byte (i:=m - o) (by omega);rw [show o + (m - o)=m by omega] at e3;rw [e3];exact s3 _ (by omega) (by omega)
     refine ⟨by rw [e2]; exact Y0 _,?_⟩;rw [e2,h3,e,he];rfl
   | cons u r =>
     obtain ⟨k,h2,h3,h4⟩:=h1;obtain ⟨c1,c2,_⟩:=Z1e b h2 h3;refine ⟨o + k,?_,?_,ih k c2 h4⟩;·rw [h.blank hi h2]; omega
     ·rw [h.blank hi h2];exact h.tok h2 h3
theorem Z4a.back {T:ByteArray} {i i':Nat} {r:List Tok} (h:Z4a T i' r) (hi:i≤i') (hi':i'≤T.size) (hb:∀ m,i≤m→m < i'→Z05 (Z9 T m)=true):Z4a T i r:=by
 have e:Zq Z05 T (T.size - i) i=Zq Z05 T (T.size - i') i':=by
  obtain ⟨s1,s2,s3,s4⟩:=Z0b Z05 T (T.size - i') i' (Y0 _) hi';refine Z1w Z05 T _ _ _ (Y0 _) (by omega) s2 (fun m h1 h2=>?_) s4;rcases Nat.lt_or_ge m i' with h3 | h3;·exact hb m h1 h3
  ·exact s3 m h3 h2
 match r,h with
 | [t],h=>exact ⟨by rw [e]; exact h.1,by rw [e]; exact h.2⟩
 | t :: u :: l,⟨k,h1,h2,h3⟩=>exact ⟨k,by rw [e]; exact h1,by rw [e]; exact h2,h3⟩
theorem Win.join {T a:ByteArray} (h:Win T a 0) {r:List Tok} (hr:Z4a T (a.size + 1) r) (hs:a.size + 1≤T.size):∀ (l:List Tok) (e:Tok) (i:Nat),i≤a.size→Z4a a i (l ++ [e])→Z4a T i (l ++ r):=by
 intro l;induction l with
 | nil =>
   intro e i hi h1;obtain ⟨s1,s2,s3,s4⟩:=Z0b Z05 a (a.size - i) i (Y0 _) hi;have h2:a.size≤Zq Z05 a (a.size - i) i:=h1.1;refine hr.back (by omega) hs (fun m h3 h4=>?_);rcases Nat.lt_or_ge m a.size with h5 | h5
   ·have e3:=h.byte h5;rw [Nat.zero_add] at e3;rw [e3];exact s3 m h3 (by omega)
   ·have e4 : m = a.size := by omega
    have:=h.stop (by omega);rw [Nat.zero_add] at this;rw [e4];exact this
 | cons t l ih =>
   intro e i hi h1;have key:∀ u q,l ++ [e]=u :: q→∃ k,Zq Z05 a (a.size - i) i < a.size∧Z0w a (Zq Z05 a (a.size - i) i)=.ok (t,k)∧Z4a a k (l ++ [e]):=by
    intro u q hq;rw [List.cons_append,hq] at h1;obtain ⟨k,h2,h3,h4⟩:=h1;exact ⟨k,h2,h3,by rw [hq]; exact h4⟩
   obtain ⟨u,q,hq⟩:∃ u q,l ++ [e]=u :: q:=by
    cases l with
    | nil=>exact ⟨_,_,rfl⟩
    | cons u q=>exact ⟨_,_,rfl⟩
   obtain ⟨k,h2,h3,h4⟩:=key u q hq;obtain ⟨c1,c2,_⟩:=Z1e a h2 h3;have hrec:=ih e k c2 h4;obtain ⟨u',q',hq'⟩:∃ u q,l ++ r=u :: q:=by
    cases l with
    | nil =>
      cases r with
      | nil=>exact hr.elim
      | cons u q=>exact ⟨_,_,rfl⟩
    | cons u q=>exact ⟨_,_,rfl⟩
   rw [List.cons_append,hq'];rw [hq'] at hrec;have hbl:=h.blank hi h2;simp only [Nat.zero_add] at hbl;have htk:=h.tok h2 h3;simp only [Nat.zero_add] at htk;have e5:t.shift 0=t:=by unfold Tok.shift; simp
   rw [e5] at htk;exact ⟨k,by rw [hbl]; have:=h.size; omega,by rw [hbl]; exact htk,hrec⟩
theorem Zbb (a s b:ByteArray) (hs:s.size=1) (hb:Z05 (Z9 s 0)=true):Win (a ++ s ++ b) a 0:=by
 have sz:(a ++ s ++ b).size=a.size + 1 + b.size:=by rw [ByteArray.size_append,ByteArray.size_append,hs]
 refine ⟨by omega,fun i hi=>?_,fun _=>?_⟩
 ·have h1:i < a.data.size:=hi;simp only [ByteArray.data_append,Nat.zero_add,Array.getD_eq_getD_getElem?];rw [Array.getElem?_append,Y5 (by simp; omega),Array.getElem?_append,Y5 h1]
 ·rw [Nat.zero_add];have e:Z9 (a ++ s ++ b) a.size=Z9 s 0:=by
   unfold Z9;have h1:a.data.size=a.size:=rfl;have h2:s.data.size=1:=hs;simp only [ByteArray.data_append,Array.getD_eq_getD_getElem?];rw [Array.getElem?_append,Y5 (by simp; omega),Array.getElem?_append,Y3 (by omega),h1,Nat.sub_self]
  rw [e];exact hb
theorem Zcz (a s b:ByteArray) (hs:s.size=1):Win (a ++ s ++ b) b (a.size + 1):=by
 have sz:(a ++ s ++ b).size=a.size + 1 + b.size:=by rw [ByteArray.size_append,ByteArray.size_append,hs]
 refine ⟨by omega,fun i hi=>?_,fun h=>by omega⟩;have h1:a.data.size=a.size:=rfl;have h2:s.data.size=1:=hs;simp only [ByteArray.data_append,Array.getD_eq_getD_getElem?];rw [Array.getElem?_append,Y3 (by simp; omega)];simp only [Array.size_append,h1,h2];rw [show a.size + 1 + i - (a.size + 1)=i by omega]
theorem Zdf {a s b:ByteArray} {l m:List Tok} {e:Tok} (hs:s.size=1) (hb:Z05 (Z9 s 0)=true) (h1:Z3q a=.ok (l ++ [e])) (h2:Z3q b=.ok m) :
 Z3q (a ++ s ++ b)=.ok (l ++ m.map (Tok.shift (a.size + 1))):=by
 have sz:(a ++ s ++ b).size=a.size + 1 + b.size:=by rw [ByteArray.size_append,ByteArray.size_append,hs]
 have hB:=(Zcz a s b hs).stand sz m 0 (Yh _) (Z3y h2);rw [Nat.add_zero] at hB;have hA:=(Zbb a s b hs hb).join hB (by omega) l e 0 (Yh _) (Z3y h1);have:=Zcp (a ++ s ++ b) _ ((a ++ s ++ b).size + 1) 0 [] (Yh _) (by omega) hA;simpa [Z3q] using this
def Sx (T:ByteArray) (i:Nat) (l:List UInt8):Prop:=i≤T.size∧T.data.toList.drop i=l
section
variable {T:ByteArray} {i:Nat} {l m r:List UInt8}
theorem Sx.size (h:Sx T i l):i + l.length=T.size:=by
 have h1:=h.1;have h2:l.length=T.data.toList.length - i:=by rw [← h.2,List.length_drop]
 have h3:T.data.toList.length=T.size:=by simp
 omega
theorem Sx.get (h:Sx T i l) (j:Nat):T.data.getD (i + j) 0=l.getD j 0:=by
 rw [← h.2,Array.getD_eq_getD_getElem?,List.getD_eq_getElem?_getD,List.getElem?_drop,Array.getElem?_toList]
theorem Sx.app (h:Sx T i (l ++ m)):Sx T (i + l.length) m:=by
 have h1:=h.size;rw [Yi] at h1;refine ⟨by omega,?_⟩;rw [← List.drop_drop,h.2,List.drop_append];simp
theorem Sx.byte (h:Sx T i l) (j:Nat):Z9 T (i + j)=((l.getD j 0).toNat:Int):=by
 unfold Z9; rw [h.get j]
def hB (l:List UInt8):Int:=((l.getD 0 0).toNat:Int)
theorem Sx.hd (h:Sx T i l):Z9 T i=hB l:=h.byte 0
theorem Sx.next (h:Sx T i (l ++ m)):Z9 T (i + l.length)=hB m:=h.app.hd
theorem Sx.span (p:Int→Bool) (h:Sx T i (l ++ r)) (hl:∀ j,j < l.length→p ((l.getD j 0).toNat:Int)=true) (hr:p (hB r)=false):Zq p T (T.size - i) i=i + l.length:=by
 have h1:=h.size;rw [Yi] at h1;refine Z1w p T _ _ _ (Y0 _) (by omega) (by omega) (fun m h2 h3=>?_) fun h2=>?_
 ·have:=h.byte (m - i);rw [show i + (m - i)=m by omega] at this;rw [this,show (l ++ r).getD (m - i) 0=l.getD (m - i) 0 by rw [List.getD_eq_getElem?_getD,List.getD_eq_getElem?_getD,List.getElem?_append_left (by omega)]];exact hl _ (by omega)
 ·rw [h.next]; exact hr
theorem Sx.cut {s:ByteArray} (h:Sx T i (s.data.toList ++ r)):T.extract i (i + s.size)=s:=by
 apply ByteArray.ext;rw [ByteArray.data_extract];have h1:=h.size;rw [Yi] at h1;have e1:s.data.toList.length=s.size:=by simp
 have e2:s.data.size=s.size:=rfl;have e3:T.data.size=T.size:=rfl;apply Array.ext;·simp only [Array.size_extract]; omega
 ·intro j h2 h3;have:=h.get j;rw [Array.getD_eq_getD_getElem?,List.getD_eq_getElem?_getD,List.getElem?_append_left (by omega),Array.getElem?_toList,Array.getElem?_eq_getElem (by omega),Array.getElem?_eq_getElem h3] at this;simpa using this
end
def Zfk (s:ByteArray):Prop:=1≤s.size∧Z0p (Z9 s 0)=true∧(∀ i,i < s.size→Z1u (Z9 s i)=true)∧Z29 s=true
section
variable {T:ByteArray} {i:Nat} {r:List UInt8}
end
def Tok.st (t:Tok):Int×ByteArray×Int:=(t.kind,t.text,t.n)
def Pc.tok:Pc→Option (Int×ByteArray×Int)
 | .sp _=>none
 | .t k s n=>some (k,s,n)
def Pv:Pc→Prop
 | .sp c=>c=32∨c=10
 | .t k s n=>(k=1∧n=0∧Z2b s)∨(k=2∧n=0∧Zfk s)∨(k=3∧s=ByteArray.empty∧0≤n∧n≤1000000000)∨(k=4∧n=0∧s.size≤500)∨(k=5∧n=0∧((∃ c:UInt8,s=⟨#[c]⟩∧Z4r (c.toNat:Int)=true)∨s=Z3k∨s=s_or∨s=Z5a))
def Nx:Pc→Int→Prop
 | .sp _,_=>True
 | .t k s _,c=>(k≤3→Z1u c=false)∧(k=5→s=s_eq→c≠61)
def Spd:List Pc→Prop
 | []=>True
 | p :: l=>Pv p∧Nx p (hB (Z5 l))∧Spd l
end Go.Proofs.YtjcgkdfeplbajaaGreatDoor
