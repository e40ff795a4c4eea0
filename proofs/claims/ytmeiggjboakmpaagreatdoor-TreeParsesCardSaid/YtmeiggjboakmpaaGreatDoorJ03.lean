/- Package lex: the tokens' shape. -/
import Derived.Test.YtmeiggjboakmpaaGreatDoorJ02
import Derived.Shelf.Small.Strs
namespace Go.Proofs.YtmeiggjboakmpaaGreatDoor
open Go Go.RowKit
set_option maxRecDepth 100000
set_option maxHeartbeats 20000000
set_option linter.unusedVariables false
theorem Z85 {text:ByteArray} {j k:Nat} {t:Tok} (h:Z1f text j=.ok (t,k)):t.kind≠6∧(t.kind=2→Z2z t.text=true)∧(t.kind=5→t.text=text.extract j (j + Z0a text j)∧Z13 (Zc text j)=false):=by
 unfold Z1f at h;simp only at h;split at h
 ·rename_i hl;split at h
  ·rename_i hw;simp only [Except.ok.injEq,Prod.mk.injEq] at h;obtain ⟨rfl,_⟩:=h;exact ⟨by simp,fun _=>hw,(fun h=>by simp at h)⟩
  ·split at h;·cases h
   ·simp only [Except.ok.injEq,Prod.mk.injEq] at h;obtain ⟨rfl,_⟩:=h;exact ⟨by simp,(fun h=>by simp at h),(fun h=>by simp at h)⟩
 ·rename_i hl;split at h
  ·split at h;·cases h
   ·split at h;·cases h
    ·simp only [Except.ok.injEq,Prod.mk.injEq] at h;obtain ⟨rfl,_⟩:=h;exact ⟨by simp,(fun h=>by simp at h),(fun h=>by simp at h)⟩
  ·split at h
   ·split at h;·cases h
    ·split at h;·cases h
     ·simp only [Except.ok.injEq,Prod.mk.injEq] at h;obtain ⟨rfl,_⟩:=h;exact ⟨by simp,(fun h=>by simp at h),(fun h=>by simp at h)⟩
   ·split at h;·cases h
    ·simp only [Except.ok.injEq,Prod.mk.injEq] at h;obtain ⟨rfl,_⟩:=h;exact ⟨by simp,(fun h=>by simp at h),fun _=>⟨rfl,by simpa using hl⟩⟩
theorem Zfz {s:ByteArray} (h:Z2z s=true):Z37 s=0:=by
 refine Decidable.byContradiction fun hs=>?_;have key:s=s_or∨s=Z5n∨s=Z3j∨s=Z4i∨s=Z51∨s=Z5p∨s=Z6n:=by
  unfold Z37 Z15 at hs;simp only [decide_eq_true_eq] at hs;by_cases h1:s=s_or;·exact .inl h1
  by_cases h2:s=Z5n;·exact .inr (.inl h2)
  by_cases h3:s=Z3j;·exact .inr (.inr (.inl h3))
  by_cases h4:s=Z4i;·exact .inr (.inr (.inr (.inl h4)))
  by_cases h5:s=Z51;·exact .inr (.inr (.inr (.inr (.inl h5))))
  by_cases h6:s=Z5p;·exact .inr (.inr (.inr (.inr (.inr (.inl h6)))))
  by_cases h7:s=Z6n;·exact .inr (.inr (.inr (.inr (.inr (.inr h7)))))
  simp [h1,h2,h3,h4,h5,h6,h7] at hs
 have no:∀ x,Z2z x=false→s=x→False:=fun x h1 h2=>by rw [h2,h1] at h; cases h
 rcases key with e | e | e | e | e | e | e;all_goals exact no _ (by kernel_rfl) e
theorem Zc5 {s:ByteArray} (h:Z33 s≠0):Z13 (Zc s 0)=true∧0 < s.size:=by
 unfold Z33 at h;by_cases h1:Z15 s Z49=true
 ·have : s = Z49 := by simpa [Z15] using h1
  subst this; exact ⟨by kernel_rfl,by decide⟩
 by_cases h2:Z15 s Z38=true
 ·have : s = Z38 := by simpa [Z15] using h2
  subst this; exact ⟨by kernel_rfl,by decide⟩
 by_cases h3:Z15 s Z4s=true
 ·have : s = Z4s := by simpa [Z15] using h3
  subst this; exact ⟨by kernel_rfl,by decide⟩
 by_cases h4:Z15 s Z1q=true
 ·have : s = Z1q := by simpa [Z15] using h4
  subst this; exact ⟨by kernel_rfl,by decide⟩
 simp [h1,h2,h3,h4] at h
theorem Zev {text:ByteArray} {j k:Nat} {t:Tok} (hj:j < text.size) (h:Z1f text j=.ok (t,k)):Zlp t:=by
 obtain ⟨_,h2,h5⟩:=Z85 h;refine ⟨fun hk=>Zfz (h2 hk),fun hk=>?_⟩;obtain ⟨ht,hl⟩:=h5 hk;refine Decidable.byContradiction fun hc=>?_;obtain ⟨hb,hs⟩:=Zc5 hc;have hsz:0 < Z0a text j:=by
  unfold Z0a;split;·omega
  ·split;·omega
   ·split <;> omega
 have hp:Zc t.text 0=Zc text j:=by
  rw [ht];have hle:(text.extract j (j + Z0a text j)).size≤Z0a text j:=by rw [ByteArray.size_extract]; omega
  by_cases hk:j + Z0a text j≤text.size;·rw [Z05 text (by omega) hk]; rfl
  ·have e:text.extract j (j + Z0a text j)=text.extract j text.size:=by
    apply ByteArray.ext;simp only [ByteArray.data_extract];apply Array.ext
    ·simp only [Array.size_extract];have:text.size=text.data.size:=rfl;omega
    ·intro i h1 h2; simp only [Array.getElem_extract]
   rw [e,Z05 text (by omega) (Y5 _)]; rfl
 rw [hp,hl] at hb;cases hb
theorem Z73 {text:ByteArray}:∀ (r:List Tok) (i:Nat),i≤text.size→Z6u text i r→(∃ l e,r=l ++ [e]∧e.kind=6∧∀ t∈l,t.kind≠6)∧r.length + i≤text.size + 1∧Z0c r:=by
 intro r;induction r with
 | nil=>intro i _ h; exact h.elim
 | cons t r ih =>
   intro i hi h;cases r with
   | nil =>
     obtain ⟨h1,h2⟩:=h;refine ⟨⟨[],t,rfl,by rw [h2],fun t ht=>by cases ht⟩,by simp; omega,fun x hx=>?_⟩;simp only [List.mem_singleton] at hx;subst hx;rw [h2];exact ⟨fun h=>by simp at h,fun h=>by simp at h⟩
   | cons u r =>
     obtain ⟨k,h1,h2,h3⟩:=h;obtain ⟨c1,c2,_⟩:=Z2k text h1 h2;obtain ⟨s1,_,_,_⟩:=Z12 Z0x text (text.size - i) i (Y5 _) hi;obtain ⟨⟨l,e,h4,h5,h6⟩,h7,h8⟩:=ih k c2 h3;refine ⟨⟨t :: l,e,by rw [h4]; rfl,h5,fun x hx=>?_⟩,?_,fun x hx=>?_⟩
     ·rcases List.mem_cons.1 hx with rfl | hx;·exact (Z85 h2).1
      ·exact h6 x hx
     ·simp only [List.length_cons] at h7 ⊢; omega
     ·rcases List.mem_cons.1 hx with rfl | hx;·exact Zev h1 h2
      ·exact h8 x hx
def Z3o (s:ByteArray):Prop:=1≤s.size∧s.size≤20∧Z13 (Zc s 0)=true∧(∀ i,i < s.size→Z2r (Zc s i)=true)∧Z2z s=false
def MAr (k:Int) (s:ByteArray) (l:List Tree):Prop:=k≠1∧(k=23→Z3o s∧l=[])
theorem MAr.any {k:Int} {s:ByteArray} {l:List Tree} (h:k≠1∧k≠23):MAr k s l:=⟨h.1,fun h'=>absurd h' h.2⟩
mutual
def MT:Tree→Prop
 | .mk k s _ l=>MAr k s l∧MTL l
def MTL:List Tree→Prop
 | []=>True
 | t :: l=>MT t∧MTL l
end
theorem MT.kids {t:Tree} (h:MT t):MTL t.kids:=by cases t; exact h.2
theorem MT.leaf {k:Int} {s:ByteArray} {n:Int} (h:k≠1∧k≠23):MT (.mk k s n []):=⟨MAr.any h,trivial⟩
theorem MT.nm {s:ByteArray} {n:Int} (h:Z3o s):MT (.mk 23 s n []):=⟨⟨by omega,fun _=>⟨h,rfl⟩⟩,trivial⟩
def GTn (ts:List Tok):Prop:=∀ t∈ts,t.kind=1→Z3o t.text
theorem GTn.tail {ts:List Tok} (h:GTn ts):GTn ts.tail:=fun t ht=>h t (List.mem_of_mem_tail ht)
theorem GTn.hd {ts:List Tok} (h:GTn ts) (hk:(hdT ts).kind=1):Z3o (hdT ts).text:=by
 cases ts with
 | nil=>simp [hdT] at hk
 | cons t l=>exact h t (by simp) hk
def Mh (P:Tree→Prop) (p:PR):Prop:=∀ t ts,p=some (.ok (t,ts))→P t∧GTn ts
theorem Mh.fail {P:Tree→Prop} {e:Int} {ts:List Tok}:Mh P (Z30 e ts):=by intro t ts' h; cases h
theorem Mh.none {P:Tree→Prop}:Mh P none:=by intro t ts' h; cases h
theorem Mh.err {P:Tree→Prop} {e:Int×Nat}:Mh P (some (.error e)):=by intro t ts' h; cases h
theorem Mh.ok {P:Tree→Prop} {t:Tree} {ts:List Tok} (h:P t) (g:GTn ts:=by first | assumption | exact GTn.tail (by assumption) | exact GTn.tail (GTn.tail (by assumption))):Mh P (okT t ts):=by
 intro t' ts' h';simp only [okT,Option.some.injEq,Except.ok.injEq,Prod.mk.injEq] at h';rw [← h'.1,← h'.2]; exact ⟨h,g⟩
theorem Mh.bind {P Q:Tree→Prop} {p:PR} {k:Tree→List Tok→PR} (hp:Mh P p) (hk:∀ t ts,P t→GTn ts→Mh Q (k t ts)):Mh Q (Z0g p k):=by
 cases p with
 | none=>exact Mh.none
 | some r =>
   cases r with
   | error e=>exact Mh.err
   | ok x=>obtain ⟨t,ts⟩:=x; exact hk t ts (hp t ts rfl).1 (hp t ts rfl).2
theorem Mh.want {P:Tree→Prop} {s:ByteArray} {ts:List Tok} {k:List Tok→PR} (hk:GTn ts.tail→Mh P (k ts.tail)) (g:GTn ts:=by first | assumption | exact GTn.tail (by assumption) | exact GTn.tail (GTn.tail (by assumption))):Mh P (Z1e s ts k):=by
 unfold Z1e;by_cases h:isT s ts=true;·rw [Yb h]; exact hk g.tail
 ·rw [Y9 h]; exact Mh.fail
theorem Mh.name {P:Tree→Prop} {ts:List Tok} {k:ByteArray→List Tok→PR} (hk:∀ s,Z3o s→GTn ts.tail→Mh P (k s ts.tail)) (g:GTn ts:=by first | assumption | exact GTn.tail (by assumption) | exact GTn.tail (GTn.tail (by assumption))):Mh P (Z3f ts k):=by
 unfold Z3f;by_cases h:(hdT ts).kind=1;·rw [Yb h]; exact hk _ (g.hd h) g.tail
 ·rw [Y9 h]; exact Mh.fail
theorem Mh.within {P:Tree→Prop} {d:Nat} {ts:List Tok} {p:PR} (h:Mh P p):Mh P (Z1a d ts p):=by
 unfold Z1a;by_cases h':30 < d + 1;·rw [Yb h']; exact Mh.fail
 ·rw [Y9 h']; exact h
theorem Mh.ite {P:Tree→Prop} {c:Prop} [Decidable c] {p q:PR} (hp:c→Mh P p) (hq:¬ c→Mh P q):Mh P (if c then p else q):=by
 by_cases h:c;·rw [Yb h]; exact hp h
 ·rw [Y9 h]; exact hq h
theorem Mh.comma {P:Tree→Prop} {c:Prop} [Decidable c] {ts:List Tok} {k:List Tok→PR} (hk:∀ ts',GTn ts'→Mh P (k ts')) (g:GTn ts:=by first | assumption | exact GTn.tail (by assumption) | exact GTn.tail (GTn.tail (by assumption))):Mh P ((if c then Z1e Z1b ts else fun k=>k ts) k):=by
 by_cases h:c;·rw [Yb h]; exact Mh.want (hk _)
 ·rw [Y9 h]; exact hk _ g
theorem Mh.end' {P:Tree→Prop} {t:Tree} {ts:List Tok} (h:P t) (g:GTn ts:=by first | assumption | exact GTn.tail (by assumption) | exact GTn.tail (GTn.tail (by assumption))):Mh P (endT t ts):=Mh.want fun _=>Mh.ok h
theorem Mh.weak {P Q:Tree→Prop} {p:PR} (h:Mh P p) (g:∀ t,P t→Q t):Mh Q p:=fun t ts e=>⟨g t (h t ts e).1,(h t ts e).2⟩
theorem Zbl (lv:Nat) (ts:List Tok):Z2i lv ts=0∨(25≤Z2i lv ts∧Z2i lv ts≤31):=by
 unfold Z2i;split <;> (try split) <;> (try split) <;> omega
theorem Zbx (ts:List Tok):Z3g ts=0∨(32≤Z3g ts∧Z3g ts≤34):=by
 unfold Z3g;split <;> (try split) <;> (try split) <;> omega
theorem Zbz (ts:List Tok):Z3s ts=0∨(19≤Z3s ts∧Z3s ts≤22):=by
 unfold Z3s;split <;> (try split) <;> (try split) <;> (try split) <;> omega
theorem Zit {text:ByteArray} {j k:Nat} {t:Tok} (hj:j < text.size) (h:Z1f text j=.ok (t,k)):t.kind=1→Z3o t.text:=by
 intro h1;unfold Z1f at h;simp only at h;split at h
 ·rename_i hl;obtain ⟨K, hK⟩ : ∃ K, Z03 Z2r text (text.size - j) j = K := ⟨_, rfl⟩
  obtain ⟨s1,s2,s3,s4⟩:=Z12 Z2r text (text.size - j) j (Y5 _) (by omega);rw [hK] at h s1 s2 s3 s4;have hjK:j < K:=by
   rcases Nat.lt_or_ge j K with h' | h';·exact h'
   ·have:=s4 (by omega);rw [show K=j by omega,Z2w hl] at this;cases this
  split at h
  ·simp only [Except.ok.injEq,Prod.mk.injEq] at h;obtain ⟨rfl,_⟩:=h;simp at h1
  ·rename_i hw;split at h;·cases h
   ·simp only [Except.ok.injEq, Prod.mk.injEq] at h;obtain ⟨rfl, rfl⟩ := h;have hs := Z3n text (j := j) s2;refine ⟨by rw [hs]; omega, by rw [hs]; omega, ?_, fun i hi => ?_, by simpa using hw⟩;·rw [Z05 text (by omega) s2, Nat.add_zero]; exact hl
    ·rw [hs] at hi;rw [Z05 text hi s2];exact s3 _ (by omega) (by omega)
 ·exfalso;split at h
  ·split at h;·cases h
   ·split at h;·cases h
    ·simp only [Except.ok.injEq,Prod.mk.injEq] at h;obtain ⟨rfl,_⟩:=h;simp at h1
  ·split at h
   ·split at h;·cases h
    ·split at h;·cases h
     ·simp only [Except.ok.injEq,Prod.mk.injEq] at h;obtain ⟨rfl,_⟩:=h;simp at h1
   ·split at h;·cases h
    ·simp only [Except.ok.injEq,Prod.mk.injEq] at h;obtain ⟨rfl,_⟩:=h;simp at h1
inductive Srt | v | vl | ol | pl | b | k | s | sl
mutual
def dang:Tree→Bool
 | .mk k _ _ ks=>if k=7∧ks.length=2 then true else if k=7∨k=8∨k=9 then Zdc ks else false
def Zdc:List Tree→Bool
 | []=>false
 | x :: l=>if l.isEmpty then dang x else Zdc l
end
def strT (l:List Tree):ByteArray:=if Z1w l then Z1d else ByteArray.empty
inductive Wf:Srt→List Tree→Prop
 | num {n:Int}:0≤n→n≤1000000000→Wf .v [.mk 17 ByteArray.empty n []]
 | str {s:ByteArray}:s.size≤500→Wf .v [.mk 18 s 0 []]
 | con {k:Int}:19≤k→k≤22→Wf .v [.mk k ByteArray.empty 0 []]
 | name {s:ByteArray}:Z3o s→Wf .v [.mk 23 s 0 []]
 | set {x y:Tree}:x.kind=23∨x.kind=36→Wf .v [x]→Wf .v [y]→Wf .v [.mk 24 ByteArray.empty 0 [x,y]]
 | two {k:Int} {x y:Tree}:25≤k→k≤31→Wf .v [x]→Wf .v [y]→Wf .v [.mk k ByteArray.empty 0 [x,y]]
 | one {k:Int} {x:Tree}:32≤k→k≤34→Wf .v [x]→Wf .v [.mk k ByteArray.empty 0 [x]]
 | mem {s:ByteArray} {x:Tree}:Z3o s→Wf .v [x]→Wf .v [.mk 36 s 0 [x]]
 | call {x:Tree} {l:List Tree}:Wf .v [x]→Wf .vl l→Wf .v [.mk 35 ByteArray.empty 0 (x :: l)]
 | lam {s:ByteArray} {l:List Tree} {b:Tree}:s=ByteArray.empty∨Z3o s→Wf .pl l→Wf .b [b]→Wf .v [.mk 37 s 0 [.mk 40 ByteArray.empty 0 l,b]]
 | obj {l:List Tree}:Wf .ol l→Wf .v [.mk 38 ByteArray.empty 0 l]
 | vnil:Wf .vl []
 | vcons {x:Tree} {l:List Tree}:Wf .v [x]→Wf .vl l→Wf .vl (x :: l)
 | onil:Wf .ol []
 | ocons {s:ByteArray} {x:Tree} {l:List Tree}:Z3o s→Wf .v [x]→Wf .ol l→Wf .ol (.mk 39 s 0 [x] :: l)
 | pnil:Wf .pl []
 | pcons {s:ByteArray} {l:List Tree}:Z3o s→Wf .pl l→Wf .pl (.mk 23 s 0 [] :: l)
 | body {l:List Tree}:Wf .sl l→Wf .b [.mk 6 (strT l) 0 l]
 | block {l:List Tree}:Wf .sl l→Wf .k [.mk 6 ByteArray.empty 0 l]
 | decl0 {k:Int} {s:ByteArray}:k=2∨k=3→Z3o s→Wf .s [.mk k s 0 []]
 | decl1 {k:Int} {s:ByteArray} {x:Tree}:k=2∨k=3∨k=4→Z3o s→Wf .v [x]→Wf .s [.mk k s 0 [x]]
 | func {s:ByteArray} {l:List Tree} {b:Tree}:Z3o s→Wf .pl l→Wf .b [b]→Wf .s [.mk 5 s 0 [.mk 40 ByteArray.empty 0 l,b]]
 | blk {b:Tree}:Wf .k [b]→Wf .s [b]
 | if2 {x y:Tree}:Wf .v [x]→Wf .s [y]→Wf .s [.mk 7 ByteArray.empty 0 [x,y]]
 | if3 {x y z:Tree}:Wf .v [x]→Wf .s [y]→Wf .s [z]→dang y=false→Wf .s [.mk 7 ByteArray.empty 0 [x,y,z]]
 | loop {k:Int} {x y:Tree}:k=8∨k=9→Wf .v [x]→Wf .s [y]→Wf .s [.mk k ByteArray.empty 0 [x,y]]
 | ret0:Wf .s [.mk 10 ByteArray.empty 0 []]
 | ret1 {k:Int} {x:Tree}:k=10∨k=11→Wf .v [x]→Wf .s [.mk k ByteArray.empty 0 [x]]
 | tryc {s:ByteArray} {b c:Tree}:Wf .k [b]→Z3o s→Wf .k [c]→Wf .s [.mk 12 ByteArray.empty 0 [b,.mk 13 s 0 [c]]]
 | tryf {b c:Tree}:Wf .k [b]→Wf .k [c]→Wf .s [.mk 12 ByteArray.empty 0 [b,.mk 14 ByteArray.empty 0 [c]]]
 | trycf {s:ByteArray} {b c e:Tree}:Wf .k [b]→Z3o s→Wf .k [c]→Wf .k [e]→Wf .s [.mk 12 ByteArray.empty 0 [b,.mk 13 s 0 [c],.mk 14 ByteArray.empty 0 [e]]]
 | empty:Wf .s [.mk 16 ByteArray.empty 0 []]
 | expr {x:Tree}:Wf .v [x]→Wf .s [.mk 15 ByteArray.empty 0 [x]]
 | snil:Wf .sl []
 | scons {x:Tree} {l:List Tree}:Wf .s [x]→Wf .sl l→Wf .sl (x :: l)
theorem Wf.vapp {l:List Tree} {x:Tree} (h:Wf .vl l) (g:Wf .v [x]):Wf .vl (l ++ [x]):=by
 induction l with
 | nil=>exact .vcons g .vnil
 | cons y l ih=>cases h with | vcons h1 h2=>exact .vcons h1 (ih h2)
theorem Wf.oapp {l:List Tree} {s:ByteArray} {x:Tree} (h:Wf .ol l) (hs:Z3o s) (g:Wf .v [x]):Wf .ol (l ++ [.mk 39 s 0 [x]]):=by
 induction l with
 | nil=>exact .ocons hs g .onil
 | cons y l ih=>cases h with | ocons h1 h2 h3=>exact .ocons h1 h2 (ih h3)
theorem Wf.papp {l:List Tree} {s:ByteArray} (h:Wf .pl l) (hs:Z3o s):Wf .pl (l ++ [.mk 23 s 0 []]):=by
 induction l with
 | nil=>exact .pcons hs .pnil
 | cons y l ih=>cases h with | pcons h1 h2=>exact .pcons h1 (ih h2)
theorem Wf.sapp {l:List Tree} {x:Tree} (h:Wf .sl l) (g:Wf .s [x]):Wf .sl (l ++ [x]):=by
 induction l with
 | nil=>exact .scons g .snil
 | cons y l ih=>cases h with | scons h1 h2=>exact .scons h1 (ih h2)
def GW (ts:List Tok):Prop:=∀ t∈ts,(t.kind=1→Z3o t.text)∧(t.kind=3→0≤t.n∧t.n≤1000000000)∧(t.kind=4→t.text.size≤500)
theorem GW.tail {ts:List Tok} (h:GW ts):GW ts.tail:=fun t ht=>h t (List.mem_of_mem_tail ht)
theorem GW.hd {ts:List Tok} (h:GW ts):((hdT ts).kind=1→Z3o (hdT ts).text)∧((hdT ts).kind=3→0≤(hdT ts).n∧(hdT ts).n≤1000000000)∧((hdT ts).kind=4→(hdT ts).text.size≤500):=by
 cases ts with
 | nil=>refine ⟨fun hk=>?_,fun hk=>?_,fun hk=>?_⟩ <;> simp [hdT] at hk
 | cons t l=>exact h t (by simp)
def Wh (P:Tree→List Tok→Prop) (p:PR):Prop:=∀ t ts,p=some (.ok (t,ts))→P t ts∧GW ts
section
variable {P Q:Tree→List Tok→Prop}
theorem Wh.fail {e:Int} {ts:List Tok}:Wh P (Z30 e ts):=by intro t ts' h; cases h
theorem Wh.none:Wh P none:=by intro t ts' h; cases h
theorem Wh.err {e:Int×Nat}:Wh P (some (.error e)):=by intro t ts' h; cases h
theorem Wh.ok {t:Tree} {ts:List Tok} (h:P t ts) (g:GW ts:=by first | assumption | exact GW.tail (by assumption) | exact GW.tail (GW.tail (by assumption))):Wh P (okT t ts):=by
 intro t' ts' h';simp only [okT,Option.some.injEq,Except.ok.injEq,Prod.mk.injEq] at h';rw [← h'.1,← h'.2]; exact ⟨h,g⟩
theorem Wh.bind {p:PR} {k:Tree→List Tok→PR} (hp:Wh P p) (hk:∀ t ts,P t ts→GW ts→Wh Q (k t ts)):Wh Q (Z0g p k):=by
 cases p with
 | none=>exact Wh.none
 | some r =>
   cases r with
   | error e=>exact Wh.err
   | ok x=>obtain ⟨t,ts⟩:=x; exact hk t ts (hp t ts rfl).1 (hp t ts rfl).2
theorem Wh.want {s:ByteArray} {ts:List Tok} {k:List Tok→PR} (hk:GW ts.tail→Wh P (k ts.tail)) (g:GW ts:=by first | assumption | exact GW.tail (by assumption) | exact GW.tail (GW.tail (by assumption))):Wh P (Z1e s ts k):=by
 unfold Z1e;by_cases h:isT s ts=true;·rw [Yb h]; exact hk g.tail
 ·rw [Y9 h]; exact Wh.fail
theorem Wh.name {ts:List Tok} {k:ByteArray→List Tok→PR} (hk:∀ s,Z3o s→GW ts.tail→Wh P (k s ts.tail)) (g:GW ts:=by first | assumption | exact GW.tail (by assumption) | exact GW.tail (GW.tail (by assumption))):Wh P (Z3f ts k):=by
 unfold Z3f;by_cases h:(hdT ts).kind=1;·rw [Yb h]; exact hk _ (g.hd.1 h) g.tail
 ·rw [Y9 h]; exact Wh.fail
theorem Wh.within {d:Nat} {ts:List Tok} {p:PR} (h:Wh P p):Wh P (Z1a d ts p):=by
 unfold Z1a;by_cases h':30 < d + 1;·rw [Yb h']; exact Wh.fail
 ·rw [Y9 h']; exact h
theorem Wh.ite {c:Prop} [Decidable c] {p q:PR} (hp:c→Wh P p) (hq:¬ c→Wh P q):Wh P (if c then p else q):=by
 by_cases h:c;·rw [Yb h]; exact hp h
 ·rw [Y9 h]; exact hq h
theorem Wh.comma {c:Prop} [Decidable c] {ts:List Tok} {k:List Tok→PR} (hk:∀ ts',GW ts'→Wh P (k ts')) (g:GW ts:=by first | assumption | exact GW.tail (by assumption) | exact GW.tail (GW.tail (by assumption))):Wh P ((if c then Z1e Z1b ts else fun k=>k ts) k):=by
 by_cases h:c;·rw [Yb h]; exact Wh.want (hk _)
 ·rw [Y9 h]; exact hk _ g
theorem Wh.end' {t:Tree} {ts:List Tok} (h:P t ts.tail) (g:GW ts:=by first | assumption | exact GW.tail (by assumption) | exact GW.tail (GW.tail (by assumption))):Wh P (endT t ts):=Wh.want fun _=>Wh.ok h
theorem Wh.weak {p:PR} (h:Wh P p) (g:∀ t ts,P t ts→Q t ts):Wh Q p:=fun t ts e=>⟨g t ts (h t ts e).1,(h t ts e).2⟩
end
def StW (t:Tree) (ts:List Tok):Prop:=Wf .s [t]∧(dang t=true→isT Z1y ts=false)
def Job.resW:Job→Tree→List Tok→Prop
 | .stmts kind _=>fun t _=>∃ l,Wf .sl l∧t=.mk kind (strT l) 0 l
 | .block body=>fun t _=>if body then Wf .b [t] else Wf .k [t]
 | .func kind _=>fun t _=>(kind=5→Wf .s [t]∧dang t=false)∧(kind=37→Wf .v [t])
 | .params _=>fun t _=>∃ l,Wf .pl l∧t=.mk 40 ByteArray.empty 0 l
 | .stmt=>StW
 | .decl _ _=>fun t _=>Wf .s [t]∧dang t=false
 | .try_=>fun t _=>Wf .s [t]∧dang t=false
 | _=>fun t _=>Wf .v [t]
def Job.goodW:Job→Prop
 | .stmts _ acc=>Wf .sl acc
 | .func kind s=>(kind=5∧Z3o s)∨(kind=37∧(s=ByteArray.empty∨Z3o s))
 | .params acc=>Wf .pl acc
 | .decl kind must=>(kind=2∨kind=3)∨(kind=4∧must=true)
 | .binLoop _ x=>Wf .v [x]
 | .postLoop x=>Wf .v [x]
 | .args acc=>∃ x l,acc=x :: l∧Wf .v [x]∧Wf .vl l
 | .object acc=>Wf .ol acc
 | _=>True
theorem Z4e {k:Int} {s:ByteArray} {n:Int} {l:List Tree} (h:k≠7∧k≠8∧k≠9):dang (.mk k s n l)=false:=by
 unfold dang;rw [Y9 (by omega),Y9 (by omega)]
theorem Zby {x y:Tree}:Zdc [x,y]=dang y:=by
 rw [Zdc.eq_def]; simp only;rw [Y9 (by simp),Zdc.eq_def]; simp only;rw [Yb (by simp)]
theorem Zbs {k:Int} {s:ByteArray} {n:Int} {x y:Tree} (h:k=8∨k=9):dang (.mk k s n [x,y])=dang y:=by
 rw [dang.eq_def (.mk k s n [x,y])]; simp only;rw [Y9 (by omega),Yb (by omega),Zby]
theorem Zjx {s:ByteArray} {n:Int} {x y z:Tree}:dang (.mk 7 s n [x,y,z])=dang z:=by
 rw [dang.eq_def (.mk 7 s n [x,y,z])];show (if (7:Int)=7∧[x,y,z].length=2 then true else if (7:Int)=7∨(7:Int)=8∨(7:Int)=9 then Zdc [x,y,z] else false)=dang z;rw [Y9 (by simp),Yb (.inl rfl),Zdc.eq_def]; simp only;rw [Y9 (by simp),Zby]
theorem Zi7:∀ (f:Nat) (job:Job) (d:Nat) (ts:List Tok),job.goodW→GW ts→Wh job.resW (Z0 f job d ts):=by
 intro f;induction f with
 | zero=>intro job d ts _ _; unfold Z0; exact Wh.none
 | succ f ih0 =>
   intro job d ts hg g0;have ih:∀ (job:Job) (d:Nat) (ts:List Tok),job.goodW→∀ (g:GW ts:=by first | assumption | exact GW.tail (by assumption) | exact GW.tail (GW.tail (by assumption))),Wh job.resW (Z0 f job d ts):=fun job d ts h g=>ih0 job d ts h g;have kk:∀ {t:Tree},Wf .k [t]→Wf .s [t]∧dang t=false:=fun h=>⟨.blk h,by cases h; exact Z4e (by omega)⟩;cases job with
   | stmts kind acc =>
     unfold Z0;refine Wh.ite (fun _=>Wh.ok ⟨acc,hg,rfl⟩) fun _=>?_;exact Wh.bind (Wh.within (ih .stmt _ _ trivial)) fun t ts' h _=>(ih (.stmts kind (acc ++ [t])) _ _ (Wf.sapp hg h.1))
   | block body =>
     unfold Z0;refine Wh.want (fun _=>Wh.bind (ih (.stmts 6 []) _ _ .snil) fun t ts' h' _=>Wh.want (fun _=>Wh.ok ?_));obtain ⟨l,h1,rfl⟩:=h';cases body with
     | true=>exact .body h1
     | false=>exact .block h1
   | func kind text =>
     unfold Z0;refine Wh.want (fun _=>Wh.bind (ih (.params []) _ _ .pnil) fun t ts' h' _=>Wh.want (fun _=>Wh.bind (ih (.block true) _ _ trivial) fun t ts' h3 _=>Wh.ok ?_));obtain ⟨l,h1,rfl⟩:=h';refine ⟨fun hk=>?_,fun hk=>?_⟩
     ·subst hk;rcases hg with ⟨_, hg⟩ | ⟨hg, _⟩;·exact ⟨.func hg h1 h3, Z4e (by omega)⟩
      ·cases hg
     ·subst hk;rcases hg with ⟨hg, _⟩ | ⟨_, hg⟩;·cases hg
      ·exact .lam hg h1 h3
   | params acc =>
     unfold Z0;refine Wh.ite (fun _=>Wh.ok ⟨acc,hg,rfl⟩) fun _=>?_;exact Wh.comma fun ts' _=>Wh.ite (fun _=>Wh.fail) fun _=>Wh.name fun s hs _=>ih (.params (acc ++ [Tree.mk 23 s 0 []])) _ _ (Wf.papp hg hs)
   | around =>
     unfold Z0;exact Wh.want (fun _=>Wh.bind (ih .value _ _ trivial) fun t ts' h' _=>Wh.want (fun _=>Wh.ok h'))
   | stmt =>
     unfold Z0;show Wh StW _;have nd:∀ {t:Tree} {ts:List Tok},Wf .s [t]∧dang t=false→StW t ts:=fun h=>⟨h.1,fun e=>by rw [h.2] at e; cases e⟩;refine Wh.ite (fun h=>(ih (.block false) _ _ trivial).weak fun _ _ h=>nd (kk h)) fun _=>?_;refine Wh.ite (fun h=>Wh.ok (nd ⟨.empty,Z4e (by omega)⟩)) fun _=>?_;refine Wh.ite (fun h=>Wh.bind (ih (.decl 2 false) _ _ (.inl (.inl rfl))) fun t us h2 _=>Wh.end' (nd h2)) fun _=>?_;refine Wh.ite (fun h=>Wh.bind (ih (.decl 3 false) _ _ (.inl (.inr rfl))) fun t us h2 _=>Wh.end' (nd h2)) fun _=>?_
     refine Wh.ite (fun h=>Wh.bind (ih (.decl 4 true) _ _ (.inr ⟨rfl,rfl⟩)) fun t us h2 _=>Wh.end' (nd h2)) fun _=>?_;refine Wh.ite (fun h=>Wh.name fun s hs _=>(ih (.func 5 s) _ _ (.inl ⟨rfl,hs⟩)).weak fun _ _ h=>nd (h.1 rfl)) fun _=>?_;refine Wh.ite (fun h=>Wh.bind (ih .around _ _ trivial) fun x us h2 _=>Wh.bind (Wh.within (ih .stmt _ _ trivial)) fun y vs h3 _=>Wh.ite (fun h4=>Wh.bind (Wh.within (ih .stmt _ _ trivial)) fun z xs h5 _=>Wh.ok ?_) fun h4=>Wh.ok ?_) fun _=>?_
     ·refine ⟨.if3 h2 h3.1 h5.1 ?_, by rw [Zjx]; exact h5.2⟩;cases hd : dang y with
      | false=>rfl
      | true=>rw [h3.2 hd] at h4; cases h4
     ·exact ⟨.if2 h2 h3.1,fun _=>by simpa using h4⟩
     refine Wh.ite (fun h=>Wh.bind (ih .around _ _ trivial) fun t us h2 _=>Wh.bind (Wh.within (ih .stmt _ _ trivial)) fun t vs h3 _=>Wh.ok ⟨.loop (.inl rfl) h2 h3.1,by rw [Zbs (.inl rfl)]; exact h3.2⟩) fun _=>?_;refine Wh.ite (fun h=>Wh.bind (ih .around _ _ trivial) fun t us h2 _=>Wh.bind (Wh.within (ih .stmt _ _ trivial)) fun t vs h3 _=>Wh.ok ⟨.loop (.inr rfl) h2 h3.1,by rw [Zbs (.inr rfl)]; exact h3.2⟩) fun _=>?_
     refine Wh.ite (fun h=>Wh.ite (fun h1=>Wh.end' (nd ⟨.ret0,Z4e (by omega)⟩)) (fun _=>Wh.bind (ih .value _ _ trivial) fun t us h2 _=>Wh.end' (nd ⟨.ret1 (.inl rfl) h2,Z4e (by omega)⟩))) fun _=>?_;refine Wh.ite (fun h=>Wh.bind (ih .value _ _ trivial) fun t us h2 _=>Wh.end' (nd ⟨.ret1 (.inr rfl) h2,Z4e (by omega)⟩)) fun _=>?_;refine Wh.ite (fun h=>(ih .try_ _ _ trivial).weak fun _ _ h=>nd h) fun _=>?_;exact Wh.bind (ih .value _ _ trivial) fun t us h2 _=>Wh.end' (nd ⟨.expr h2,Z4e (by omega)⟩)
   | decl kind must =>
     have hk:(kind=2∨kind=3)∨(kind=4∧must=true):=hg;unfold Z0;refine Wh.name fun s hs _=>Wh.ite (fun _=>Wh.fail) fun hm=>Wh.ite (fun h2=>Wh.bind (ih .value _ _ trivial) fun t us h3 _=>Wh.ok ?_) fun hn=>Wh.ok ?_;·exact ⟨.decl1 (by omega) hs h3,Z4e (by omega)⟩
     ·refine ⟨.decl0 ?_ hs, Z4e (by omega)⟩;rcases hk with h | ⟨h, hmu⟩;·exact h
      ·subst hmu;simp [hn] at hm
   | try_ =>
     unfold Z0;refine Wh.bind (ih (.block false) _ _ trivial) fun b us h _=>?_;replace h:Wf .k [b]:=h
     refine Wh.ite (fun h1=>?_) fun _=>?_
     ·refine Wh.want (fun _=>Wh.name fun s hs _=>Wh.want (fun _=>Wh.bind (ih (.block false) _ _ trivial) fun c vs h5 _=>?_));exact Wh.ite (fun _=>Wh.bind (ih (.block false) _ _ trivial) fun t xs h3 _=>Wh.ok ⟨.trycf h hs h5 h3,Z4e (by omega)⟩) fun _=>Wh.ite (fun _=>Wh.fail) fun _=>Wh.ok ⟨.tryc h hs h5,Z4e (by omega)⟩
     ·exact Wh.ite (fun _=>Wh.bind (ih (.block false) _ _ trivial) fun t xs h3 _=>Wh.ok ⟨.tryf h h3,Z4e (by omega)⟩) fun _=>Wh.ite (fun _=>Wh.fail) fun h=>absurd rfl h
   | value=>unfold Z0; exact Wh.within (ih .assign _ _ trivial)
   | assign =>
     unfold Z0;exact Wh.bind (ih (.bin 0) _ _ trivial) fun x us h _=>Wh.ite (fun h1=>Wh.ite (fun hk=>Wh.bind (ih .value _ _ trivial) fun y vs h2 _=>Wh.ok (.set hk h h2)) fun _=>Wh.err) fun _=>Wh.ok h
   | bin level =>
     unfold Z0;exact Wh.ite (fun _=>ih .unary _ _ trivial) fun _=>Wh.bind (ih (.bin (level + 1)) _ _ trivial) fun x us h _=>ih (.binLoop level x) _ _ h
   | binLoop level x =>
     unfold Z0;exact Wh.ite (fun _=>Wh.ok hg) fun h0=>Wh.bind (ih (.bin (level + 1)) _ _ trivial) fun y us h _=>ih (.binLoop level (.mk (Z2i level ts) ByteArray.empty 0 [x,y])) _ _ (.two (by have:=Zbl level ts; omega) (by have:=Zbl level ts; omega) hg h)
   | unary =>
     unfold Z0;exact Wh.ite (fun _=>ih .postfix_ _ _ trivial) fun h0=>Wh.bind (Wh.within (ih .unary _ _ trivial)) fun x us h _=>Wh.ok (.one (by have:=Zbx ts; omega) (by have:=Zbx ts; omega) h)
   | postfix_ =>
     unfold Z0;exact Wh.bind (ih .primary _ _ trivial) fun x us h _=>ih (.postLoop x) _ _ h
   | postLoop x =>
     unfold Z0;exact Wh.ite (fun _=>Wh.name fun s hs _=>ih (.postLoop (.mk 36 s 0 [x])) _ _ (.mem hs hg)) fun _=>Wh.ite (fun _=>Wh.bind (ih (.args [x]) _ _ ⟨x,[],rfl,hg,.vnil⟩) fun n us h _=>ih (.postLoop n) _ _ h) fun _=>Wh.ok hg
   | args acc =>
     unfold Z0;obtain ⟨x,l,rfl,hx,hl⟩:=hg;refine Wh.ite (fun _=>Wh.ok (.call hx hl)) fun _=>?_;exact Wh.comma fun ts' _=>Wh.ite (fun _=>Wh.fail) fun _=>Wh.bind (ih .value _ _ trivial) fun v us h _=>ih (.args (x :: l ++ [v])) _ _ ⟨x,l ++ [v],rfl,hx,Wf.vapp hl h⟩
   | primary =>
     unfold Z0;obtain ⟨g1,g2,g3⟩:=g0.hd;refine Wh.ite (fun h=>Wh.ok (.name (g1 h))) fun _=>?_;refine Wh.ite (fun h=>Wh.ok (.num (g2 h).1 (g2 h).2)) fun _=>?_;refine Wh.ite (fun h=>Wh.ok (.str (g3 h))) fun _=>?_;refine Wh.ite (fun h=>Wh.ok (.con (by have:=Zbz ts; omega) (by have:=Zbz ts; omega))) fun _=>?_;refine Wh.ite (fun h=>ih .around _ _ trivial) fun _=>?_
     refine Wh.ite (fun h=>Wh.ite (fun hk=>(ih (.func 37 (hdT ts.tail).text) _ _ (.inr ⟨rfl,.inr (g0.tail.hd.1 hk)⟩)).weak fun _ _ h=>h.2 rfl) fun _=>(ih (.func 37 ByteArray.empty) _ _ (.inr ⟨rfl,.inl rfl⟩)).weak fun _ _ h=>h.2 rfl) fun _=>?_;exact Wh.ite (fun h=>ih (.object []) _ _ .onil) fun _=>Wh.fail
   | object acc =>
     unfold Z0;refine Wh.ite (fun _=>Wh.ok (.obj hg)) fun _=>?_;exact Wh.comma fun ts' _=>Wh.ite (fun _=>Wh.fail) fun _=>Wh.name fun s hs _=>Wh.want (fun _=>Wh.bind (ih .value _ _ trivial) fun v us h _=>ih (.object (acc ++ [Tree.mk 39 s 0 [v]])) _ _ (Wf.oapp hg hs h))
theorem Zl2 {text:ByteArray} {k:Nat}:∀ (f i:Nat) (n:Int),(∀ m,i≤m→m < k→Z0q (Zc text m)=true)→0≤n→0≤numF text k f i n:=by
 intro f;induction f with
 | zero=>intro i n _ h; exact h
 | succ f ih =>
   intro i n hd h;simp only [numF];by_cases hi:i < k
   ·rw [Yb hi];have:=hd i (Y5 _) hi;simp only [Z0q,Bool.and_eq_true,decide_eq_true_eq] at this;exact ih _ _ (fun m h1 h2=>hd m (by omega) h2) (by omega)
   ·rw [Y9 hi]; exact h
theorem Zcl {text:ByteArray}:∀ (f i:Nat) (acc bs:List UInt8) (k:Nat),Z0o text f i acc=(bs,0,k)→bs.length≤500:=by
 intro f;induction f with
 | zero=>intro i acc bs k h; simp [Z0o] at h
 | succ f ih =>
   intro i acc bs k h;simp only [Z0o] at h;by_cases h1:text.size≤i∨Zc text i=10;·rw [Yb h1] at h; simp at h
   rw [Y9 h1] at h;by_cases h2:Zc text i=39
   ·rw [Yb h2] at h;by_cases h3 : 500 < acc.length;·rw [Yb h3] at h; simp at h
    rw [Y9 h3] at h;simp only [Prod.mk.injEq,true_and] at h;obtain ⟨rfl,_⟩:=h;omega
   rw [Y9 h2] at h;by_cases h3:Zc text i=92
   ·rw [Yb h3] at h;by_cases h4 : i + 1 < text.size
    ·rw [Yb h4] at h;cases he : Z64 (Zc text (i + 1)) with
     | none=>rw [he] at h; simp at h
     | some e=>rw [he] at h; exact ih _ _ _ _ h
    ·rw [Y9 h4] at h; simp at h
   ·rw [Y9 h3] at h;exact ih _ _ _ _ h
theorem Zib {text:ByteArray} {j k:Nat} {t:Tok} (hj:j < text.size) (h:Z1f text j=.ok (t,k)):(t.kind=1→Z3o t.text)∧(t.kind=3→0≤t.n∧t.n≤1000000000)∧(t.kind=4→t.text.size≤500):=by
 refine ⟨Zit hj h,fun hk=>?_,fun hk=>?_⟩
 ·unfold Z1f at h;simp only at h;split at h
  ·split at h;·simp only [Except.ok.injEq, Prod.mk.injEq] at h; obtain ⟨rfl, _⟩ := h; simp at hk
   ·split at h;·cases h
    ·simp only [Except.ok.injEq,Prod.mk.injEq] at h; obtain ⟨rfl,_⟩:=h; simp at hk
  ·split at h
   ·split at h;·cases h
    ·split at h;·cases h
     ·simp only [Except.ok.injEq,Prod.mk.injEq] at h;obtain ⟨rfl,_⟩:=h;obtain ⟨s1,s2,s3,s4⟩:=Z12 Z0q text (text.size - j) j (Y5 _) (by omega);exact ⟨Zl2 _ _ _ s3 (by omega),by simp only; omega⟩
   ·split at h
    ·split at h;·cases h
     ·split at h;·cases h
      ·simp only [Except.ok.injEq,Prod.mk.injEq] at h; obtain ⟨rfl,_⟩:=h; simp at hk
    ·split at h;·cases h
     ·simp only [Except.ok.injEq,Prod.mk.injEq] at h; obtain ⟨rfl,_⟩:=h; simp at hk
 ·unfold Z1f at h;simp only at h;split at h
  ·split at h;·simp only [Except.ok.injEq, Prod.mk.injEq] at h; obtain ⟨rfl, _⟩ := h; simp at hk
   ·split at h;·cases h
    ·simp only [Except.ok.injEq,Prod.mk.injEq] at h; obtain ⟨rfl,_⟩:=h; simp at hk
  ·split at h
   ·split at h;·cases h
    ·split at h;·cases h
     ·simp only [Except.ok.injEq,Prod.mk.injEq] at h; obtain ⟨rfl,_⟩:=h; simp at hk
   ·split at h
    ·obtain ⟨⟨bs, e, K⟩, hR⟩ : ∃ R, R = Z0z text (j + 1) := ⟨_, rfl⟩
     rw [← hR] at h;simp only at h;split at h;·cases h
     ·split at h;·cases h
      ·rename_i h0;simp only [ne_eq,Decidable.not_not] at h0;subst h0;simp only [Except.ok.injEq,Prod.mk.injEq] at h;obtain ⟨rfl,_⟩:=h;have:=Zcl _ _ _ _ _ hR.symm;exact this
    ·split at h;·cases h
     ·simp only [Except.ok.injEq,Prod.mk.injEq] at h; obtain ⟨rfl,_⟩:=h; simp at hk
theorem Ziz {text:ByteArray}:∀ (r:List Tok) (i:Nat),i≤text.size→Z6u text i r→GW r:=by
 intro r;induction r with
 | nil=>intro i _ h; exact h.elim
 | cons t r ih =>
   intro i hi h;cases r with
   | nil =>
     obtain ⟨h1,h2⟩:=h;intro x hx;simp only [List.mem_singleton] at hx;subst hx;rw [h2];refine ⟨fun h=>?_,fun h=>?_,fun h=>?_⟩ <;> simp at h
   | cons u r =>
     obtain ⟨k,h1,h2,h3⟩:=h;obtain ⟨c1,c2,_⟩:=Z2k text h1 h2;intro x hx;rcases List.mem_cons.1 hx with rfl | hx;·exact Zib h1 h2
     ·exact ih k c2 h3 x hx
theorem Z9c {text:ByteArray} {t:Tree} (h:Z1o text=.ok t):∃ l,Wf .sl l∧t=.mk 1 (strT l) 0 l∧t.many≤1500:=by
 unfold Z1o at h;split at h;·cases h
 ·split at h;·cases h
  ·rename_i ts _;split at h;·cases h
   ·cases h
   ·rename_i t' ts' hp;split at h;·cases h
    ·have e : t' = t := by simpa using h
     subst e;obtain ⟨⟨l,h1,h2⟩,_⟩:=Zi7 _ _ _ _ (show Job.goodW (.stmts 1 []) from .snil) (Ziz _ _ (Yp _) (Z6f (by assumption))) _ _ hp;exact ⟨l,h1,h2,by omega⟩
structure Win (T b:ByteArray) (o:Nat):Prop where
 size:o + b.size≤T.size
 get:∀ i,i < b.size→T.data.getD (o + i) 0=b.data.getD i 0
 stop:o + b.size < T.size→Z0x (Zc T (o + b.size))=true
theorem Win.byte {T b:ByteArray} {o:Nat} (h:Win T b o) {i:Nat} (hi:i < b.size):Zc T (o + i)=Zc b i:=by
 unfold Zc;rw [h.get i hi]
theorem Win.past {T b:ByteArray} {o:Nat} (h:Win T b o):Zc T (o + b.size)=0∨Zc T (o + b.size)=32∨Zc T (o + b.size)=10:=by
 rcases Nat.lt_or_ge (o + b.size) T.size with h1 | h1
 ·have:=h.stop h1;simp only [Z0x,Bool.or_eq_true,decide_eq_true_eq] at this;exact .inr this
 ·exact .inl (Z4n h1)
theorem Win.span {T b:ByteArray} {o:Nat} (h:Win T b o) (p:Int→Bool) (hp:∀ c,Z0x c=true→p c=false) {i:Nat} (hi:i≤b.size) :
 Z03 p T (T.size - (o + i)) (o + i)=o + Z03 p b (b.size - i) i:=by
 obtain ⟨s1,s2,s3,s4⟩:=Z12 p b (b.size - i) i (Y5 _) hi;have hs:=h.size;refine Z3h p T _ _ _ (Y5 _) (by omega) (by omega) (fun m h1 h2=>?_) fun h1=>?_
 ·have e:=h.byte (i:=m - o) (by omega);rw [show o + (m - o)=m by omega] at e;rw [e];exact s3 _ (by omega) (by omega)
 ·rcases Nat.lt_or_ge (Z03 p b (b.size - i) i) b.size with h2 | h2
  ·rw [h.byte h2];exact s4 h2
  ·have e : Z03 p b (b.size - i) i = b.size := by omega
   rw [e] at h1 ⊢;exact hp _ (h.stop h1)
theorem Win.blank {T b:ByteArray} {o:Nat} (h:Win T b o) {i:Nat} (hi:i≤b.size) (hk:Z03 Z0x b (b.size - i) i < b.size) :
 Z03 Z0x T (T.size - (o + i)) (o + i)=o + Z03 Z0x b (b.size - i) i:=by
 obtain ⟨s1,s2,s3,s4⟩:=Z12 Z0x b (b.size - i) i (Y5 _) hi;have hs:=h.size;refine Z3h Z0x T _ _ _ (Y5 _) (by omega) (by omega) (fun m h1 h2=>?_) fun h1=>?_
 ·have e:=h.byte (i:=m - o) (by omega);rw [show o + (m - o)=m by omega] at e;rw [e];exact s3 _ (by omega) (by omega)
 ·rw [h.byte hk];exact s4 hk
theorem Win.num {T b:ByteArray} {o k:Nat} (h:Win T b o) (hk:k≤b.size):∀ (f i:Nat) (n:Int),numF T (o + k) f (o + i) n=numF b k f i n:=by
 intro f;induction f with
 | zero=>intro i n; rfl
 | succ f ih =>
   intro i n;simp only [numF];by_cases h1:i < k
   ·rw [Yb (by omega),Yb h1,h.byte (by omega),show o + i + 1=o + (i + 1) by omega];exact ih (i + 1) _
   ·rw [Y9 (by omega),Y9 h1]
theorem Win.cut {T b:ByteArray} {o j k:Nat} (h:Win T b o) (hk:k≤b.size):T.extract (o + j) (o + k)=b.extract j k:=by
 have hs:=h.size;apply ByteArray.ext;rw [ByteArray.data_extract,ByteArray.data_extract];have s1:T.data.size=T.size:=rfl;have s2:b.data.size=b.size:=rfl;apply Array.ext
 ·simp only [Array.size_extract];omega
 ·intro i h1 h2;simp only [Array.size_extract] at h1 h2;simp only [Array.getElem_extract];have e:=h.get (j + i) (by omega);simp only [Array.getD,dif_pos (show o + (j + i) < T.data.size by omega),dif_pos (show j + i < b.data.size by omega)] at e;simpa [Nat.add_assoc] using e
theorem Win.quoted {T b:ByteArray} {o:Nat} (h:Win T b o):∀ (f i:Nat) (acc bs:List UInt8) (k:Nat),Z0o b f i acc=(bs,0,k)→i < k∧k≤b.size∧∀ f',k - i≤f'→Z0o T f' (o + i) acc=(bs,0,o + k):=by
 intro f;induction f with
 | zero=>intro i acc bs k h1; simp [Z0o] at h1
 | succ f ih =>
   intro i acc bs k h0;have hs:=h.size;simp only [Z0o] at h0;by_cases h1:b.size≤i∨Zc b i=10;·rw [Yb h1] at h0; simp at h0
   rw [Y9 h1] at h0;simp only [not_or,Nat.not_le] at h1;have hb:=h.byte h1.1;by_cases h2:Zc b i=39
   ·rw [Yb h2] at h0;by_cases h3 : 500 < acc.length;·rw [Yb h3] at h0; simp at h0
    rw [Y9 h3] at h0;simp only [Prod.mk.injEq,true_and] at h0;obtain ⟨rfl,rfl⟩:=h0;refine ⟨by omega,by omega,fun f' hf=>?_⟩;obtain ⟨g,rfl⟩:∃ g,f'=g + 1:=⟨f' - 1,by omega⟩
    simp only [Z0o,hb];rw [Y9 (by omega),Yb h2,Y9 h3,Nat.add_assoc]
   rw [Y9 h2] at h0;by_cases h3:Zc b i=92
   ·rw [Yb h3] at h0;by_cases h4 : i + 1 < b.size
    ·rw [Yb h4] at h0;cases he : Z64 (Zc b (i + 1)) with
     | none=>rw [he] at h0; simp at h0
     | some e =>
       rw [he] at h0;simp only at h0;obtain ⟨g1,g2,g3⟩:=ih (i + 2) _ bs k h0;refine ⟨by omega,g2,fun f' hf=>?_⟩;obtain ⟨g,rfl⟩:∃ g,f'=g + 1:=⟨f' - 1,by omega⟩
       have hb1:=h.byte h4;rw [← Nat.add_assoc] at hb1;simp only [Z0o,hb,hb1];rw [Y9 (by omega),Y9 h2,Yb h3,Yb (by omega),he];simp only;rw [Nat.add_assoc];exact g3 g (by omega)
    ·rw [Y9 h4] at h0; simp at h0
   ·rw [Y9 h3] at h0;obtain ⟨g1, g2, g3⟩ := ih (i + 1) _ bs k h0;refine ⟨by omega, g2, fun f' hf => ?_⟩;obtain ⟨g, rfl⟩ : ∃ g, f' = g + 1 := ⟨f' - 1, by omega⟩
    simp only [Z0o,hb,h.get i h1.1];rw [Y9 (by omega),Y9 h2,Y9 h3,Nat.add_assoc];exact g3 g (by omega)
theorem Win.signs {T b:ByteArray} {o:Nat} (h:Win T b o) {j:Nat} (hj:j < b.size):Z0a T (o + j)=Z0a b j:=by
 have hb:=h.byte hj;have hp:=h.past;unfold Z0a;rw [hb];by_cases h1:j + 1 < b.size
 ·have hb1 := h.byte h1;rw [← Nat.add_assoc] at hb1;rw [hb1];by_cases h2 : j + 2 < b.size
  ·have hb2:=h.byte h2;rw [← Nat.add_assoc] at hb2;rw [hb2]
  ·have e : j + 2 = b.size := by omega
   have z:=Z4n (text:=b) (i:=j + 2) (by omega);rw [← e,← Nat.add_assoc] at hp;rw [z];have n61:Zc T (o + j + 2)≠61:=by omega
   simp [n61]
 ·have e : j + 1 = b.size := by omega
  have z:=Z4n (text:=b) (i:=j + 1) (by omega);rw [← e,← Nat.add_assoc] at hp;rw [z];have n1:Zc T (o + j + 1)≠61:=by omega
  have n2:Zc T (o + j + 1)≠38:=by omega
  have n3:Zc T (o + j + 1)≠124:=by omega
  simp [n1,n2,n3]
def Tok.shift (o:Nat) (t:Tok):Tok:={ t with at':=o + t.at' }
theorem Zek {c:Int} (h:Z0x c=true):Z2r c=false:=by
 cases hw:Z2r c with
 | false=>rfl
 | true=>rw [Z2g hw] at h; cases h
theorem Zcz {c:Int} (h:Z0x c=true):Z0q c=false:=by
 cases hw:Z0q c with
 | false=>rfl
 | true=>rw [Z2g (Z7y hw)] at h; cases h
theorem Win.tok {T b:ByteArray} {o:Nat} (h:Win T b o) {j k:Nat} {t:Tok} (hj:j < b.size) (ht:Z1f b j=.ok (t,k)):Z1f T (o + j)=.ok (t.shift o,o + k):=by
 have hb:=h.byte hj;obtain ⟨c1,c2,_⟩:=Z2k b hj ht;unfold Z1f at ht ⊢;rw [hb];by_cases hl:Z13 (Zc b j)=true
 ·rw [Yb hl] at ht ⊢;simp only at ht ⊢;rw [h.span Z2r (fun c => Zek) (by omega)];obtain ⟨K, hK⟩ : ∃ K, Z03 Z2r b (b.size - j) j = K := ⟨_, rfl⟩
  obtain ⟨_,s2,_,_⟩:=Z12 Z2r b (b.size - j) j (Y5 _) (by omega);rw [hK] at ht s2 ⊢;rw [h.cut s2,show o + K - (o + j)=K - j by omega];split at ht
  ·simp only [Except.ok.injEq,Prod.mk.injEq] at ht;obtain ⟨rfl,rfl⟩:=ht;rw [Yb (by assumption)];rfl
  ·split at ht;·cases ht
   ·simp only [Except.ok.injEq,Prod.mk.injEq] at ht;obtain ⟨rfl,rfl⟩:=ht;rw [Y9 (by assumption),Y9 (by assumption)];rfl
 rw [Y9 hl] at ht ⊢;by_cases hd:Z0q (Zc b j)=true
 ·rw [Yb hd] at ht ⊢;simp only at ht ⊢;rw [h.span Z0q (fun c => Zcz) (by omega)];obtain ⟨K, hK⟩ : ∃ K, Z03 Z0q b (b.size - j) j = K := ⟨_, rfl⟩
  obtain ⟨_,s2,_,_⟩:=Z12 Z0q b (b.size - j) j (Y5 _) (by omega);rw [hK] at ht s2 ⊢;rw [show o + K - (o + j)=K - j by omega,h.num s2];split at ht;·cases ht
  ·split at ht;·cases ht
   ·simp only [Except.ok.injEq,Prod.mk.injEq] at ht;obtain ⟨rfl,rfl⟩:=ht;rw [Y9 (by assumption),Y9 (by assumption)];rfl
 rw [Y9 hd] at ht ⊢;by_cases hq:Zc b j=39
 ·rw [Yb hq] at ht ⊢;obtain ⟨⟨bs, e, K⟩, hR⟩ : ∃ R, R = Z0z b (j + 1) := ⟨_, rfl⟩
  rw [← hR] at ht;simp only at ht;by_cases h4:e=4;·rw [Yb h4] at ht; cases ht
  rw [Y9 h4] at ht;by_cases h0:e≠0;·rw [Yb h0] at ht; cases ht
  rw [Y9 h0] at ht;simp only [ne_eq,Decidable.not_not] at h0;subst h0;simp only [Except.ok.injEq,Prod.mk.injEq] at ht;obtain ⟨rfl,rfl⟩:=ht;obtain ⟨g1,g2,g3⟩:=h.quoted _ _ _ _ _ hR.symm;have hqa:Z0z T (o + j + 1)=(bs,0,o + K):=by
   have:=g3 (T.size + 1 - (o + j + 1)) (by have:=h.size; omega);rw [← Nat.add_assoc] at this;exact this
  rw [hqa];rfl
 rw [Y9 hq] at ht ⊢;rw [h.signs hj];by_cases hs:Z0a b j=1∧Z5f (Zc b j)=false;·rw [Yb hs] at ht; cases ht
 rw [Y9 hs] at ht ⊢;simp only [Except.ok.injEq,Prod.mk.injEq] at ht;obtain ⟨rfl,rfl⟩:=ht;rw [Nat.add_assoc,h.cut c2];rfl
theorem Win.stand {T b:ByteArray} {o:Nat} (h:Win T b o) (he:T.size=o + b.size):∀ (r:List Tok) (i:Nat),i≤b.size→Z6u b i r→Z6u T (o + i) (r.map (Tok.shift o)):=by
 intro r;induction r with
 | nil=>intro i _ h1; exact h1.elim
 | cons t r ih =>
   intro i hi h1;obtain ⟨s1,s2,s3,s4⟩:=Z12 Z0x b (b.size - i) i (Y5 _) hi;cases r with
   | nil =>
     obtain ⟨h2,h3⟩:=h1;have e:Z03 Z0x b (b.size - i) i=b.size:=by omega
     have e2:Z03 Z0x T (T.size - (o + i)) (o + i)=T.size:=by
      refine Z3h Z0x T _ _ _ (Y5 _) (by omega) (Y5 _) (fun m h1 h2=>?_) fun h1=>by omega
      have e3:=h.byte (i:=m - o) (by omega);rw [show o + (m - o)=m by omega] at e3;rw [e3];exact s3 _ (by omega) (by omega)
     refine ⟨by rw [e2]; exact Y5 _,?_⟩;rw [e2,h3,e,he];rfl
   | cons u r =>
     obtain ⟨k,h2,h3,h4⟩:=h1;obtain ⟨c1,c2,_⟩:=Z2k b h2 h3;refine ⟨o + k,?_,?_,ih k c2 h4⟩;·rw [h.blank hi h2]; omega
     ·rw [h.blank hi h2];exact h.tok h2 h3
theorem Z6u.back {T:ByteArray} {i i':Nat} {r:List Tok} (h:Z6u T i' r) (hi:i≤i') (hi':i'≤T.size) (hb:∀ m,i≤m→m < i'→Z0x (Zc T m)=true):Z6u T i r:=by
 have e:Z03 Z0x T (T.size - i) i=Z03 Z0x T (T.size - i') i':=by
  obtain ⟨s1,s2,s3,s4⟩:=Z12 Z0x T (T.size - i') i' (Y5 _) hi';refine Z3h Z0x T _ _ _ (Y5 _) (by omega) s2 (fun m h1 h2=>?_) s4;rcases Nat.lt_or_ge m i' with h3 | h3;·exact hb m h1 h3
  ·exact s3 m h3 h2
 match r,h with
 | [t],h=>exact ⟨by rw [e]; exact h.1,by rw [e]; exact h.2⟩
 | t :: u :: l,⟨k,h1,h2,h3⟩=>exact ⟨k,by rw [e]; exact h1,by rw [e]; exact h2,h3⟩
theorem Win.join {T a:ByteArray} (h:Win T a 0) {r:List Tok} (hr:Z6u T (a.size + 1) r) (hs:a.size + 1≤T.size):∀ (l:List Tok) (e:Tok) (i:Nat),i≤a.size→Z6u a i (l ++ [e])→Z6u T i (l ++ r):=by
 intro l;induction l with
 | nil =>
   intro e i hi h1;obtain ⟨s1,s2,s3,s4⟩:=Z12 Z0x a (a.size - i) i (Y5 _) hi;have h2:a.size≤Z03 Z0x a (a.size - i) i:=h1.1;refine hr.back (by omega) hs (fun m h3 h4=>?_);rcases Nat.lt_or_ge m a.size with h5 | h5
   ·have e3:=h.byte h5;rw [Nat.zero_add] at e3;rw [e3];exact s3 m h3 (by omega)
   ·have e4 : m = a.size := by omega
    have:=h.stop (by omega);rw [Nat.zero_add] at this;rw [e4];exact this
 | cons t l ih =>
   intro e i hi h1;have key:∀ u q,l ++ [e]=u :: q→∃ k,Z03 Z0x a (a.size - i) i < a.size∧Z1f a (Z03 Z0x a (a.size - i) i)=.ok (t,k)∧Z6u a k (l ++ [e]):=by
    intro u q hq;rw [List.cons_append,hq] at h1;obtain ⟨k,h2,h3,h4⟩:=h1;exact ⟨k,h2,h3,by rw [hq]; exact h4⟩
   obtain ⟨u,q,hq⟩:∃ u q,l ++ [e]=u :: q:=by
    cases l with
    | nil=>exact ⟨_,_,rfl⟩
    | cons u q=>exact ⟨_,_,rfl⟩
   obtain ⟨k,h2,h3,h4⟩:=key u q hq;obtain ⟨c1,c2,_⟩:=Z2k a h2 h3;have hrec:=ih e k c2 h4;obtain ⟨u',q',hq'⟩:∃ u q,l ++ r=u :: q:=by
    cases l with
    | nil =>
      cases r with
      | nil=>exact hr.elim
      | cons u q=>exact ⟨_,_,rfl⟩
    | cons u q=>exact ⟨_,_,rfl⟩
   rw [List.cons_append,hq'];rw [hq'] at hrec;have hbl:=h.blank hi h2;simp only [Nat.zero_add] at hbl;have htk:=h.tok h2 h3;simp only [Nat.zero_add] at htk;have e5:t.shift 0=t:=by unfold Tok.shift; simp
   rw [e5] at htk;exact ⟨k,by rw [hbl]; have:=h.size; omega,by rw [hbl]; exact htk,hrec⟩
def Sx (T:ByteArray) (i:Nat) (l:List UInt8):Prop:=i≤T.size∧T.data.toList.drop i=l
section
variable {T:ByteArray} {i:Nat} {l m r:List UInt8}
theorem Sx.size (h:Sx T i l):i + l.length=T.size:=by
 have h1:=h.1;have h2:l.length=T.data.toList.length - i:=by rw [← h.2,List.length_drop]
 have h3:T.data.toList.length=T.size:=by simp
 omega
theorem Sx.get (h:Sx T i l) (j:Nat):T.data.getD (i + j) 0=l.getD j 0:=by
 rw [← h.2,Array.getD_eq_getD_getElem?,List.getD_eq_getElem?_getD,List.getElem?_drop,Array.getElem?_toList]
theorem Sx.app (h:Sx T i (l ++ m)):Sx T (i + l.length) m:=by
 have h1:=h.size;rw [Yq] at h1;refine ⟨by omega,?_⟩;rw [← List.drop_drop,h.2,List.drop_append];simp
theorem Sx.byte (h:Sx T i l) (j:Nat):Zc T (i + j)=((l.getD j 0).toNat:Int):=by
 unfold Zc; rw [h.get j]
def hB (l:List UInt8):Int:=((l.getD 0 0).toNat:Int)
theorem Sx.hd (h:Sx T i l):Zc T i=hB l:=h.byte 0
theorem Sx.next (h:Sx T i (l ++ m)):Zc T (i + l.length)=hB m:=h.app.hd
theorem Sx.span (p:Int→Bool) (h:Sx T i (l ++ r)) (hl:∀ j,j < l.length→p ((l.getD j 0).toNat:Int)=true) (hr:p (hB r)=false):Z03 p T (T.size - i) i=i + l.length:=by
 have h1:=h.size;rw [Yq] at h1;refine Z3h p T _ _ _ (Y5 _) (by omega) (by omega) (fun m h2 h3=>?_) fun h2=>?_
 ·have:=h.byte (m - i);rw [show i + (m - i)=m by omega] at this;rw [this,show (l ++ r).getD (m - i) 0=l.getD (m - i) 0 by rw [List.getD_eq_getElem?_getD,List.getD_eq_getElem?_getD,List.getElem?_append_left (by omega)]];exact hl _ (by omega)
 ·rw [h.next]; exact hr
theorem Sx.cut {s:ByteArray} (h:Sx T i (s.data.toList ++ r)):T.extract i (i + s.size)=s:=by
 apply ByteArray.ext;rw [ByteArray.data_extract];have h1:=h.size;rw [Yq] at h1;have e1:s.data.toList.length=s.size:=by simp
 have e2:s.data.size=s.size:=rfl;have e3:T.data.size=T.size:=rfl;apply Array.ext;·simp only [Array.size_extract]; omega
 ·intro j h2 h3;have:=h.get j;rw [Array.getD_eq_getD_getElem?,List.getD_eq_getElem?_getD,List.getElem?_append_left (by omega),Array.getElem?_toList,Array.getElem?_eq_getElem (by omega),Array.getElem?_eq_getElem h3] at this;simpa using this
end
def Zlz (s:ByteArray):Prop:=1≤s.size∧Z13 (Zc s 0)=true∧(∀ i,i < s.size→Z2r (Zc s i)=true)∧Z2z s=true
section
variable {T:ByteArray} {i:Nat} {r:List UInt8}
end
def Tok.st (t:Tok):Int×ByteArray×Int:=(t.kind,t.text,t.n)
def Pc.tok:Pc→Option (Int×ByteArray×Int)
 | .sp _=>none
 | .t k s n=>some (k,s,n)
def Pv:Pc→Prop
 | .sp c=>c=32∨c=10
 | .t k s n=>(k=1∧n=0∧Z3o s)∨(k=2∧n=0∧Zlz s)∨(k=3∧s=ByteArray.empty∧0≤n∧n≤1000000000)∨(k=4∧n=0∧s.size≤500)∨(k=5∧n=0∧((∃ c:UInt8,s=⟨#[c]⟩∧Z5f (c.toNat:Int)=true)∨s=Z3j∨s=s_or∨s=Z5n))
def Nx:Pc→Int→Prop
 | .sp _,_=>True
 | .t k s _,c=>(k≤3→Z2r c=false)∧(k=5→s=s_eq→c≠61)
def Spd:List Pc→Prop
 | []=>True
 | p :: l=>Pv p∧Nx p (hB (Zd l))∧Spd l
section
variable {k:Int} {t:ByteArray} {n:Int} {x y b:Tree} {l r:List Tree}
theorem Zl1 (need:Int):vP (.mk k t n r) need=Z9o (decide (Zo k < need)) (vbP k t n r):=by rw [vP.eq_def]
theorem Zdy:vbP 17 t n r=[.t 3 ByteArray.empty n]:=by rw [vbP.eq_def]; simp
theorem Zdi:vbP 18 t n r=[.t 4 t 0]:=by rw [vbP.eq_def]; simp
theorem Z95 (h:19≤k) (h2:k≤22):vbP k t n r=[wd (Z9z k)]:=by
 rw [vbP.eq_def,Y9 (by omega),Y9 (by omega),Yb (by omega)]
theorem Z7v:vbP 23 t n r=[nm t]:=by rw [vbP.eq_def]; simp
theorem Zdq:vbP 24 t n (x :: y :: r)=vP x 8 ++ sp :: sg 61 :: sp :: vP y 0:=by rw [vbP.eq_def]; simp
theorem Za0 (h:32≤k) (h2:k≤34):vbP k t n (x :: r)=sgnP k ++ vP x 7:=by
 rw [vbP.eq_def,Y9 (by omega),Y9 (by omega),Y9 (by omega),Y9 (by omega),Y9 (by omega),Yb (by omega)]
theorem Zdl:vbP 36 t n (x :: r)=vP x 8 ++ [sg 46,nm t]:=by rw [vbP.eq_def]; simp
theorem Z8z:vbP 35 t n (x :: r)=vP x 8 ++ sg 40 :: (lP true r ++ [sg 41]):=by rw [vbP.eq_def]; simp
theorem Zc3 {k' n':Int} {t':ByteArray}:vbP 37 t n (.mk k' t' n' l :: b :: r)=fnP t (lP true l) (sP b):=by rw [vbP.eq_def]; simp
theorem Zdw:vbP 38 t n r=sg 123 :: (lP true r ++ [sg 125]):=by rw [vbP.eq_def]; simp
theorem Zda:vbP 39 t n (x :: r)=nm t :: sg 58 :: sp :: vP x 0:=by rw [vbP.eq_def]; simp
theorem Zdp (h:25≤k) (h2:k≤31):vbP k t n (x :: y :: r)=vP x (Zo k) ++ (sgnP k ++ vP y (Zo k + 1)):=by
 rw [vbP.eq_def,Y9 (by omega),Y9 (by omega),Y9 (by omega),Y9 (by omega),Y9 (by omega),Y9 (by omega),Y9 (by omega),Y9 (by omega),Y9 (by omega),Y9 (by omega),Y9 (by omega)]
theorem Z7f (f:Bool):lP f []=[]:=by rw [lP.eq_def]
theorem Z5e (f:Bool):lP f (x :: r)=sepP f [sg 44,sp] ++ (vP x 0 ++ lP false r):=by rw [lP.eq_def]
theorem Z94 (f:Bool):bP f []=[]:=by rw [bP.eq_def]
theorem Z6d (f:Bool):bP f (x :: r)=sepP f [sp] ++ (sP x ++ bP false r):=by rw [bP.eq_def]
theorem Zal (h:k=2∨k=3∨k=4):sP (.mk k t n [])=Z2y k ++ nm t :: [sg 59]:=by rw [sP.eq_def]; simp only; rw [Yb h]
theorem Z8u (h:k=2∨k=3∨k=4):sP (.mk k t n (x :: r))=Z2y k ++ nm t :: sp :: sg 61 :: sp :: (vP x 0 ++ [sg 59]):=by rw [sP.eq_def]; simp only; rw [Yb h]
theorem Zgr {k' n':Int} {t':ByteArray}:sP (.mk 5 t n (.mk k' t' n' l :: b :: r))=fnP t (lP true l) (sP b):=by rw [sP.eq_def]; simp
theorem Z99:sP (.mk 6 t n r)=sg 123 :: (bP true r ++ [sg 125]):=by rw [sP.eq_def]; simp
theorem Zb8 (h:k=7∨k=8∨k=9):sP (.mk k t n [x,y])=Z2y k ++ sg 40 :: (vP x 0 ++ sg 41 :: sp :: sP y):=by
 rw [sP.eq_def]; simp only; rw [Y9 (by omega),Y9 (by omega),Y9 (by omega),Yb h,List.append_nil]
theorem Zll {z:Tree}:sP (.mk 7 t n [x,y,z])=Z2y 7 ++ sg 40 :: (vP x 0 ++ sg 41 :: sp :: (sP y ++ sp :: wd Z1y :: sp :: sP z)):=by rw [sP.eq_def]; simp
theorem Zgl (h:k=10∨k=11):sP (.mk k t n [])=Z2y k ++ [sg 59]:=by
 rw [sP.eq_def]; simp only; rw [Y9 (by omega),Y9 (by omega),Y9 (by omega),Y9 (by omega),Yb h]
theorem Zc0 (h:k=10∨k=11):sP (.mk k t n (x :: r))=Z2y k ++ sp :: (vP x 0 ++ [sg 59]):=by
 rw [sP.eq_def]; simp only; rw [Y9 (by omega),Y9 (by omega),Y9 (by omega),Y9 (by omega),Yb h]
theorem Z9d:sP (.mk 12 t n (b :: r))=wd Z1j :: sp :: (sP b ++ cP r):=by rw [sP.eq_def]; simp
theorem Zcw:sP (.mk 16 t n r)=[sg 59]:=by rw [sP.eq_def]; simp
theorem Zgh:sP (.mk 15 t n (x :: r))=Zfm (vP x 0) ++ [sg 59]:=by rw [sP.eq_def]; simp
theorem Z9l:cP []=[]:=by rw [cP.eq_def]
theorem Z8t:cP (.mk 13 t n [x] :: r)=sp :: wd Z0r :: sp :: sg 40 :: nm t :: sg 41 :: sp :: (sP x ++ cP r):=by rw [cP.eq_def]; simp
theorem Z5z:cP (.mk 14 t n [x] :: r)=sp :: wd Zt :: sp :: (sP x ++ cP r):=by rw [cP.eq_def]; simp
end
def NWr (l:List Pc):Prop:=Z2r (hB (Zd l))=false∧hB (Zd l)≠61
section
variable {l:List Pc}
theorem NWr.sg {c:UInt8} (h:Z2r (c.toNat:Int)=false:=by decide) (h2:(c.toNat:Int)≠61:=by decide):NWr (sg c :: l):=⟨h,h2⟩
theorem NWr.sp {c:UInt8} (h:Z2r (c.toNat:Int)=false:=by decide) (h2:(c.toNat:Int)≠61:=by decide):NWr (.sp c :: l):=⟨h,h2⟩
theorem Ziw {c:UInt8} (h:c≠61):(⟨#[c]⟩:ByteArray)≠s_eq:=by
 intro e;have e2:(#[c]:Array UInt8)=#[61]:=congrArg ByteArray.data e;simp at e2;exact h e2
theorem Spd.sg {c:UInt8} (h:Spd l) (hc:Z5f (c.toNat:Int)=true:=by decide) (h2:c≠61:=by decide):Spd (sg c :: l):=
 ⟨.inr (.inr (.inr (.inr ⟨rfl,rfl,.inl ⟨c,rfl,hc⟩⟩))),⟨fun h=>by omega,fun _ e=>absurd e (Ziw h2)⟩,h⟩
theorem Spd.sp (h:Spd l):Spd (sp :: l):=⟨.inl rfl,trivial,h⟩
theorem Spd.three {s:ByteArray} (hs:s=Z3j∨s=s_or∨s=Z5n) (h:Spd l):Spd (.t 5 s 0 :: l):=
 ⟨.inr (.inr (.inr (.inr ⟨rfl,rfl,.inr hs⟩))),⟨fun h=>by omega,fun _ e=>by subst e; rcases hs with h | h | h <;> exact absurd h (by decide)⟩,h⟩
theorem Spd.nm {s:ByteArray} (hs:Z3o s) (h:Spd l) (hn:NWr l):Spd (nm s :: l):=⟨.inl ⟨rfl,rfl,hs⟩,⟨fun _=>hn.1,fun h=>by omega⟩,h⟩
theorem Spd.wd {s:ByteArray} (hs:Zlz s) (h:Spd l) (hn:NWr l):Spd (wd s :: l):=⟨.inr (.inl ⟨rfl,rfl,hs⟩),⟨fun _=>hn.1,fun h=>by omega⟩,h⟩
theorem Spd.num {n:Int} (h0:0≤n) (h1:n≤1000000000) (h:Spd l) (hn:NWr l):Spd (.t 3 ByteArray.empty n :: l):=⟨.inr (.inr (.inl ⟨rfl,rfl,h0,h1⟩)),⟨fun _=>hn.1,fun h=>by omega⟩,h⟩
theorem Spd.str {s:ByteArray} (h0:s.size≤500) (h:Spd l):Spd (.t 4 s 0 :: l):=⟨.inr (.inr (.inr (.inl ⟨rfl,rfl,h0⟩))),⟨fun h=>by omega,fun h=>by omega⟩,h⟩
end
end Go.Proofs.YtmeiggjboakmpaaGreatDoor
namespace Go.Proofs
set_option maxRecDepth 100000
set_option maxHeartbeats 20000000
set_option linter.unusedVariables false
def Tryz.lays137_ren:Go.Shelf.Ren:=⟨fun | 137=>49 | 217=>71 | 266=>99 | n=>n,fun | 9=>9 | 5=>5 | 3=>3 | n=>n,fun | n=>n⟩
theorem Tryz.lays137:Go.Proofs.Lays.n137 Tryz.prog Tryz.lays137_ren:={
 mixed:=by kernel_rfl
 f137:=Tryz.func49.trans (congrArg some (by kernel_rfl))
 f217:=Tryz.func71.trans (congrArg some (by kernel_rfl))
 f266:=Tryz.func99.trans (congrArg some (by kernel_rfl))
 t3:=Tryz.underlying3
 a3:=Tryz.isAgg3
 z3:=Tryz.sizeOf3
 v3:=Tryz.zeroValue3
 t5:=Tryz.underlying5
 a5:=Tryz.isAgg5
 z5:=Tryz.sizeOf5
 v5:=Tryz.zeroValue5
 t9:=Tryz.underlying9
 a9:=Tryz.isAgg9
 z9:=Tryz.sizeOf9
 v9:=Tryz.zeroValue9 }
open Go.RowKit in
theorem Tryz.strings_IndexByte (s:ByteArray) (c:Int) (w:World) :
 Calls Tryz.prog 49 #[.string s,.int .u8 c] w fun e w'=>e=.returned (.int .i64 (Lib.indexByte s.data.toList c.toNat.toUInt8))∧w'=w:=Any.strings_IndexByte Tryz.lays137 s c w
end Go.Proofs
namespace Go.Proofs.YtmeiggjboakmpaaGreatDoor
open Go Go.RowKit
set_option maxRecDepth 100000
set_option maxHeartbeats 20000000
set_option linter.unusedVariables false
theorem ScanAt.bfr {w0 w w':World} {sb b B a:Nat} {text:ByteArray} {p v v':Value} {bs:List Value} (h:ScanAt w0 w sb text a) (hb:BAt B w b p v bs) (hs:sb < B) (h0:w0.heap.size≤B) (f:BFr w w' b v v'):ScanAt w0 w' sb text a:=by
 have hr:∀ k,k < B→v.ownBlock≠some k:=fun k hk e=>by have:=(hb.own.lt k e).1; omega
 have hle:=hb.le
 exact ⟨(f.block sb h.lt (by omega) (hr sb hs)).trans h.blk,f.os.trans h.os,f.tape.trans h.tape,f.output.trans h.output,Ya h.size f.size,
  fun k hk hn=>(f.block k (Ye hk h.size) (by omega) (hr k (by omega))).trans (h.block k hk hn)⟩
theorem BAt.set {B:Nat} {w:World} {b sb:Nat} {p v:Value} {bs:List Value} (h:BAt B w b p v bs) (hs:sb < B) (x:Value):BAt B (w.setCell ⟨sb,1,none⟩ x) b p v bs:=by
 have hle:=h.le;exact ⟨(Yg _ _ _ _ (by simp; omega)).trans h.blk,h.ptr,Zq h.own fun g hg=>Yg _ _ _ _ (by have:=(h.own.lt g hg).1; simp; omega),h.ne,h.le⟩
theorem BAt.drew {B:Nat} {w:World} {b:Nat} {p v:Value} {bs:List Value} (h:BAt B w b p v bs):BAt B w.drew b p v bs:=⟨h.blk,h.ptr,h.own,h.ne,h.le⟩
theorem BAt.new (w:World):BAt w.heap.size (w.alloc (.cells #[.pointer none,.slice none 0 0] 69)) w.heap.size (.pointer none) (.slice none 0 0) []:=
 ⟨heap_alloc_new w _,.inl rfl,World.ownsRow_nil _ _ _ _,by simp [Value.ownBlock],Y5 _⟩
theorem Z75 (B:Nat) (w:World) (b:Nat) (p v:Value) (bs:List Value) (c:Int) (h:BAt B w b p v bs) (hn:bs.length < 1099511627776) :
 Calls Tryz.prog 24 #[.pointer (some ⟨b,0,none⟩),.int .u8 c] w fun e w'=>e=.returned .nilIface∧∃ v',BAt B w' b (.pointer (some ⟨b,0,none⟩)) v' (bs ++ [.int .u8 c])∧BFr w w' b v v':=by
 rcases h.ptr with rfl | rfl;·exact Z8l B w b v bs c h hn
 ·exact Z9p B w b v bs c h hn
theorem ScanAt.set' {w0 w:World} {sb a b:Nat} {text:ByteArray} {x:Int} (h:ScanAt w0 w sb text a) (hx:x=b):ScanAt w0 (w.setCell ⟨sb,1,none⟩ (.int .i64 x)) sb text b:=by
 subst hx; exact h.set b
theorem ScanAt.c1' {w0 w:World} {sb a:Nat} {text:ByteArray} {x:Int} (h:ScanAt w0 w sb text a) (hx:x=a):w.cell? ⟨sb,1,none⟩=some (.int .i64 x):=by
 subst hx; exact h.c1
theorem ScanAt.belowB {w0 w w':World} {B sb a:Nat} {text:ByteArray} (h:ScanAt w0 w sb text a) (hs:sb < B) (h0:w0.heap.size≤B) (hB:Below B w w'):ScanAt w0 w' sb text a:=
 ⟨(hB.block sb hs).trans h.blk,hB.os.trans h.os,hB.tape.trans h.tape,hB.output.trans h.output,Ya h.size hB.size,fun k hk hn=>(hB.block k (Ye hk h0)).trans (h.block k hk hn)⟩
theorem Zh6 (c:Int) (u:UInt8) (hu:(u.toNat:Int)=c):(Z64 c=none∧Lib.indexByte [110,39,92] c.toNat.toUInt8=-1)∨(c=110∧Z64 c=some 10∧Lib.indexByte [110,39,92] c.toNat.toUInt8=0)∨(c=39∧Z64 c=some 39∧Lib.indexByte [110,39,92] c.toNat.toUInt8=1)∨(c=92∧Z64 c=some 92∧Lib.indexByte [110,39,92] c.toNat.toUInt8=2):=by
 subst hu;have hx:((u.toNat:Int)).toNat.toUInt8=u:=by simp
 rw [hx];by_cases h1:u=110;·subst h1; exact .inr (.inl ⟨rfl,rfl,rfl⟩)
 by_cases h2:u=39;·subst h2; exact .inr (.inr (.inl ⟨rfl,rfl,rfl⟩))
 by_cases h3:u=92;·subst h3; exact .inr (.inr (.inr ⟨rfl,rfl,rfl⟩))
 refine .inl ⟨?_,?_⟩
 ·have k1:¬ (u.toNat:Int)=110:=fun h=>h1 (UInt8.toNat_inj.1 (by simp; omega));have k2:¬ (u.toNat:Int)=39:=fun h=>h2 (UInt8.toNat_inj.1 (by simp; omega));have k3:¬ (u.toNat:Int)=92:=fun h=>h3 (UInt8.toNat_inj.1 (by simp; omega));unfold Z64;rw [Y9 k1,Y9 k2,Y9 k3]
 ·have k1 : ((110 : UInt8) == u) = false := by simpa using fun h => h1 h.symm
  have k2:((39:UInt8) == u)=false:=by simpa using fun h=>h2 h.symm
  have k3:((92:UInt8) == u)=false:=by simpa using fun h=>h3 h.symm
  simp [Lib.indexByte,k1,k2,k3]
theorem Zeg (w:World) (sb a:Nat) (text:ByteArray) (h:w.heap[sb]?=some (.cells #[.string text,.int .i64 a] 85 (0,0))) (ha:a < text.size) (hm:text.size≤1000000) :
 Calls Tryz.prog 48 #[.pointer (some ⟨sb,0,none⟩)] w fun e w'=>e=.returned (.tuple #[.string ⟨(Z0z text (a + 1)).1.toArray⟩,.int .i64 (Z0z text (a + 1)).2.1,.int .i64 (Z0z text (a + 1)).2.2])∧ScanAt w w' sb text (Z0z text (a + 1)).2.2:=by
 obtain ⟨R,hR⟩:=zX (Z0z text (a + 1))
 rw [← hR];have HR:=lh hR;clear hR;have S0:=lh (ScanAt.refl h);have hsb:sb < w.heap.size:=(Y6.1 h).1;have B0:=lh (BAt.new w);have S1:=lh (S0.out.below (w':=w.alloc (.cells #[.pointer none,.slice none 0 0] 69)) ((Y8 _ _).alloc (Y5 _) _));have c0:=S1.out.c0;have c1:=S1.out.c1;have z1:=S1.out.fz 1;clear h;go_enter Tryz.func48,Tryz.ntmps48
 go_wp2;have S2:=lh ((S0.out.set (a + 1)).below (w':=(w.setCell ⟨sb,1,none⟩ (.int .i64 ((a:Int) + 1))).alloc (.cells #[.pointer none,.slice none 0 0] 69)) ((Y8 _ _).alloc (Y5 _) _));have hsz:(w.setCell ⟨sb,1,none⟩ (.int .i64 ((a:Int) + 1))).heap.size=w.heap.size:=Yn ..;have b2:=BAt.new (w.setCell ⟨sb,1,none⟩ (.int .i64 ((a:Int) + 1)));rw [hsz] at b2;have B2:=lh b2;clear b2 hsz;clear S1 B0 c0 c1 z1
 go_loopw [] (fun wr=>∃ (i f:Nat) (acc:List UInt8) (p v:Value),ScanAt w wr sb text i∧BAt w.heap.size wr w.heap.size p v (Lib.byteCells acc)∧Z0o text f i acc=R∧text.size + 1≤i + f∧i≤text.size∧acc.length≤i) (fun wr=>text.size + 1 - (intOf ((wr.cell? ⟨sb,1,none⟩).getD .nilIface)).toNat)
 case atStart=>exact ⟨a + 1,text.size + 1 - (a + 1),[],_,_,S2.out,B2.out,HR.out.symm,by omega,by omega,by simp⟩
 case round=>
  obtain ⟨i,f,acc,p,v,hS,hB,hq,hf,hi,hl⟩:=hrel;have q0:=hS.c0;have q1:=hS.c1;have z1:=hS.fz 1;have SI:=lh hS;have BI:=lh hB;have HQ:=lh hq;obtain ⟨f,rfl⟩:∃ g,f=g + 1:=⟨f - 1,by omega⟩
  clear hS hB hq S2 B2;by_cases hlt:i < text.size
  ·have hd : decide (text.size ≤ i) = false := by simp; omega
   have hby:=Z2a (text:=text) hlt;obtain ⟨c,hc⟩:=zX (Zc text i)
   rw [← hc] at hby;by_cases e10:c=10
   ·subst e10;have hR : R = ([], 3, i) := by rw [← HQ.out]; simp [Z0o, ← hc]
    have hb2:=hby.symm;have HR2:=lh hR;clear hby hR hc;go_wp2_with fail
    refine Zf [0,2,4,6,8,10,12,14,16,18,20,22,24,26,28,30,32,34,36] [19,20,21] (fun W=>W.cell? ⟨sb,0,none⟩=some (.string text)∧W.cell? ⟨sb,1,none⟩=some (.int .i64 i)) ⟨q0,q1⟩ fun _=>?_;simp only [Zh,pD,zD,zE,zF,zG,zH,zI,zJ,zK]
    iterate 19
     first | refine Za _ ?_ | refine Zb ?_
     simp only [Act.put,zA,zB,zC]
    refine Z6 ?_;go_wp2;refine Zf [0,2,4,6,8,10] [6] (fun W=>W.cell? ⟨sb,1,none⟩=some (.int .i64 i)) q1 fun _=>?_;simp only [Zh,pD,zD,zE,zF,zG,zH,zI,zJ,zK]
    iterate 6
     first | refine Za _ ?_ | refine Zb ?_
     simp only [Act.put,zA,zB,zC]
    refine Z6 ?_;go_wp2;go_ret3
    rw [HR2.out];exact ⟨rfl,SI.out.drew.drew⟩
   have n10:(c == 10)=false:=by simp [e10]
   have hlen:(Lib.byteCells acc).length=acc.length:=by simp [Lib.byteCells]
   have HLN:=lh hlen;clear hlen;by_cases e39:c=39
   ·subst e39;have hR : R = if 500 < acc.length then ([], 4, i + 1) else (acc, 0, i + 1) := by rw [← HQ.out]; simp [Z0o, ← hc]; omega
    have hb2:=hby.symm;have HR2:=lh hR;clear hby hR hc e10 n10;have z1:=SI.out.drew.drew.fz 1;go_wp2_with fail
    refine Zf [0,2,4,6,8,10,12,14,16,18,20,22,24,26,28,30,32,34,36] [19,20,21] (fun W=>W.cell? ⟨sb,0,none⟩=some (.string text)∧W.cell? ⟨sb,1,none⟩=some (.int .i64 i)) ⟨q0,q1⟩ fun _=>?_;simp only [Zh,pD,zD,zE,zF,zG,zH,zI,zJ,zK]
    iterate 19
     first | refine Za _ ?_ | refine Zb ?_
     simp only [Act.put,zA,zB,zC]
    refine Z6 ?_;go_wp2;refine Zf [0,2,4,6,8,10,12,14] [8,9] (fun W=>W.cell? ⟨sb,0,none⟩=some (.string text)∧W.cell? ⟨sb,1,none⟩=some (.int .i64 i)) ⟨q0,q1⟩ fun _=>?_;simp only [Zh,pD,zD,zE,zF,zG,zH,zI,zJ,zK]
    iterate 8
     first | refine Za _ ?_ | refine Zb ?_
     simp only [Act.put,zA,zB,zC]
    refine Z6 ?_;go_wp2_with fail
    have SN:=(SI.out.set' (b:=i + 1) (x:=(i:Int) + 1) (by omega)).drew.drew;have BN:=(BI.out.set hsb (.int .i64 ((i:Int) + 1))).drew.drew;have HL:=Zkz BN;rw [HLN.out] at HL;have HL:=lh HL;have q1':=SN.c1' (x:=(i:Int) + 1) (by omega);have hlS:=SN.lt;have BN:=lh BN;have SN:=lh SN;refine HL.out.mono ?_;rintro e w1 ⟨rfl,hw⟩;rw [← hw] at BN SN q1' hlS;clear hw HL z1 q0 q1;by_cases h5:500 < acc.length
    ·go_wp2;refine Zf [0, 2, 4, 6, 8, 10] [6] (fun W => W.cell? ⟨sb, 1, none⟩ = some (.int .i64 ((i : Int) + 1))) q1' fun _ => ?_;simp only [Zh, pD, zD, zE, zF, zG, zH, zI, zJ, zK]
     iterate 6
      first | refine Za _ ?_ | refine Zb ?_
      simp only [Act.put,zA,zB,zC]
     refine Z6 ?_;go_wp2;go_ret3
     rw [HR2.out,Yb h5];exact ⟨rfl,SN.out.drew⟩
    ·go_wp2;refine Zf [2, 4, 6, 8, 1, 10, 12] [7] (fun W => W.cell? ⟨sb, 1, none⟩ = some (.int .i64 ((i : Int) + 1))) q1' fun _ => ?_;simp only [Zh, pD, zD, zE, zF, zG, zH, zI, zJ, zK]
     iterate 4
      first | refine Za _ ?_ | refine Zb ?_
      simp only [Act.put,zA,zB,zC]
     refine Z5 (fun K hK=>?_);go_simp
     refine (Zf9 acc BN.out.drew (by have:=(Y6.1 BN.out.blk).1; simp; omega)).mono ?_;rintro e w2 ⟨rfl,hB⟩;have S2:=SN.out.drew.belowB hsb (Y5 _) hB;refine hK _ _ (S2.c1' (by omega)) ?_;have S2:=lh S2;clear hK K hB
     iterate 2
      first | refine Za _ ?_ | refine Zb ?_
      simp only [Act.put,zA,zB,zC]
     refine Z6 ?_;go_wp2;go_ret3
     rw [HR2.out,Y9 h5];exact ⟨rfl,S2.out⟩
   have n39:(c == 39)=false:=by simp [e39]
   by_cases e92:c=92
   ·subst e92;have hb2 := hby.symm;clear hby e10 n10 e39 n39;have HC := lh hc;clear hc;go_wp2_with fail
    refine Zf [0,2,4,6,8,10,12,14,16,18,20,22,24,26,28,30,32,34,36] [19,20,21] (fun W=>W.cell? ⟨sb,0,none⟩=some (.string text)∧W.cell? ⟨sb,1,none⟩=some (.int .i64 i)) ⟨q0,q1⟩ fun _=>?_;simp only [Zh,pD,zD,zE,zF,zG,zH,zI,zJ,zK]
    iterate 19
     first | refine Za _ ?_ | refine Zb ?_
     simp only [Act.put,zA,zB,zC]
    refine Z6 ?_;go_wp2;refine Zf [0,2,4,6,8,10,12,14] [8,9] (fun W=>W.cell? ⟨sb,0,none⟩=some (.string text)∧W.cell? ⟨sb,1,none⟩=some (.int .i64 i)) ⟨q0,q1⟩ fun _=>?_;simp only [Zh,pD,zD,zE,zF,zG,zH,zI,zJ,zK]
    iterate 8
     first | refine Za _ ?_ | refine Zb ?_
     simp only [Act.put,zA,zB,zC]
    refine Z6 ?_;go_wp2_with fail
    have SN:=(SI.out.set' (b:=i + 1) (x:=(i:Int) + 1) (by omega)).drew.drew;have BN:=(BI.out.set hsb (.int .i64 ((i:Int) + 1))).drew.drew;obtain ⟨w1,hw⟩:=zX ((wr.setCell ⟨sb,1,none⟩ (.int .i64 ((i:Int) + 1))).drew.drew)
    rw [← hw] at BN SN ⊢;have p0:=SN.c0;have p1:=SN.c1' (x:=(i:Int) + 1) (by omega);have pz:=SN.fz 1;have BN:=lh BN;have SN:=lh SN;clear hw q0 q1 z1 hb2;by_cases h4:i + 1 < text.size
    ·have hby := Z2a (text := text) h4;have hd4 : decide ((i : Int) + 1 < text.size) = true := by simp; omega
     obtain ⟨k,hk⟩:∃ k,k=Lib.indexByte [110,39,92] ((text[i + 1].toNat:Int)).toNat.toUInt8:=⟨_,rfl⟩
     have hesc:=Zh6 (Zc text (i + 1)) text[i + 1] hby.symm;rw [hby,← hk] at hesc;have HX:Hid (∀ w,Calls Tryz.prog 49 #[.string ⟨#[110,39,92]⟩,.int .u8 (text[i + 1].toNat:Int)] w fun e w'=>e=.returned (.int .i64 k)∧w'=w):=
      lh fun w=>(Tryz.strings_IndexByte ⟨#[110,39,92]⟩ (text[i + 1].toNat:Int) w).mono fun e w' h=>⟨by rw [hk]; exact h.1,h.2⟩
     have HBY:=lh hby;have HE:=lh hesc;clear hby hesc hk;go_wp2_with fail
     refine Zf [0,2,4,6,8,10,12,14,16] [9] (fun W=>W.cell? ⟨sb,0,none⟩=some (.string text)∧W.cell? ⟨sb,1,none⟩=some (.int .i64 ((i:Int) + 1))) ⟨p0,p1⟩ fun _=>?_;simp only [Zh,pD,zD,zE,zF,zG,zH,zI,zJ,zK]
     iterate 9
      first | refine Za _ ?_ | refine Zb ?_
      simp only [Act.put,zA,zB,zC]
     refine Z6 ?_;go_wp2;refine Zf [0,2,4,6,8,10,12,14] [8,9,10] (fun W=>W.cell? ⟨sb,0,none⟩=some (.string text)∧W.cell? ⟨sb,1,none⟩=some (.int .i64 ((i:Int) + 1))) ⟨p0,p1⟩ fun _=>?_;simp only [Zh,pD,zD,zE,zF,zG,zH,zI,zJ,zK]
     iterate 8
      first | refine Za _ ?_ | refine Zb ?_
      simp only [Act.put,zA,zB,zC]
     refine Z6 ?_;go_wp2_with fail
     refine (HX.out _).mono ?_;rintro e w2 ⟨rfl,hw⟩;have BN2:=BN.out.drew.drew;have SN2:=SN.out.drew.drew;rw [← hw] at BN2 SN2;have p1':=SN2.c1' (x:=(i:Int) + 1) (by omega);have pz':=SN2.fz 1;have BN2:=lh BN2;have SN2:=lh SN2;clear hw BN SN p0 p1 pz HX;have fin:∀ (x:UInt8),Hid (Z64 (text[i + 1].toNat:Int)=some x)→Z0o text f (i + 2) (acc ++ [x])=R:=by
      intro x hx;rw [← HQ.out];simp only [Z0o];rw [Y9 (by rw [← HC.out]; omega),Y9 (by rw [← HC.out]; omega),Yb HC.out.symm,Yb h4,HBY.out,hx.out]
     have FIN:=lh fin;have HLb:Hid ((Lib.byteCells acc).length < 1099511627776):=lh (by rw [HLN.out]; omega);clear fin;rcases HE.out with ⟨he,rfl⟩ | ⟨_,he,rfl⟩ | ⟨_,he,rfl⟩ | ⟨_,he,rfl⟩
     ·have hR:R=([],3,i + 1):=by
       rw [← HQ.out];simp only [Z0o];rw [Y9 (by rw [← HC.out]; omega),Y9 (by rw [← HC.out]; omega),Yb HC.out.symm,Yb h4,HBY.out,he]
      have HR2:=lh hR;clear hR he HE;go_wp2;refine Zf [0,2,4,6,8,10] [6] (fun W=>W.cell? ⟨sb,1,none⟩=some (.int .i64 ((i:Int) + 1))) p1' fun _=>?_;simp only [Zh,pD,zD,zE,zF,zG,zH,zI,zJ,zK]
      iterate 6
       first | refine Za _ ?_ | refine Zb ?_
       simp only [Act.put,zA,zB,zC]
      refine Z6 ?_;go_wp2;go_ret3
      rw [HR2.out];exact ⟨rfl,SN2.out.drew⟩
     all_goals
      have FI:=lh (FIN.out _ (lh he));clear he HE FIN;go_wp2_with fail
      refine (Z75 _ _ _ _ _ _ _ BN2.out HLb.out).mono ?_;rintro e w3 ⟨rfl,v',hB3,hF3⟩;have S3:=SN2.out.bfr BN2.out hsb (Y5 _) hF3;have r1:=S3.c1' (x:=(i:Int) + 1) (by omega);have rz:=S3.fz 1;have B3:=lh hB3;have S3:=lh S3;clear hB3 hF3 p1' pz';go_wp2;go_roundw
      case rel=>exact ⟨i + 2,f,_,_,_,S3.out.set' (by omega),(by rw [Lib.byteCells,Yu]; exact B3.out.set hsb _),FI.out,by omega,by omega,by simp; omega⟩
      case measure=>
       have e1:=(S3.out.set' (b:=i + 2) (x:=(i:Int) + 1 + 1) (by omega)).c1;have e2:=SI.out.c1;rw [e1,e2];simp [intOf];omega
    ·have hd4 : decide ((i : Int) + 1 < text.size) = false := by simp; omega
     have hR:R=([],3,i + 1):=by
      rw [← HQ.out];simp only [Z0o];rw [Y9 (by rw [← HC.out]; omega),Y9 (by rw [← HC.out]; omega),Yb HC.out.symm,Y9 h4]
     have HR2:=lh hR;clear hR;go_wp2_with fail
     refine Zf [0,2,4,6,8,10,12,14,16] [9] (fun W=>W.cell? ⟨sb,0,none⟩=some (.string text)∧W.cell? ⟨sb,1,none⟩=some (.int .i64 ((i:Int) + 1))) ⟨p0,p1⟩ fun _=>?_;simp only [Zh,pD,zD,zE,zF,zG,zH,zI,zJ,zK]
     iterate 9
      first | refine Za _ ?_ | refine Zb ?_
      simp only [Act.put,zA,zB,zC]
     refine Z6 ?_;go_wp2;refine Zf [0,2,4,6,8,10] [6] (fun W=>W.cell? ⟨sb,1,none⟩=some (.int .i64 ((i:Int) + 1))) p1 fun _=>?_;simp only [Zh,pD,zD,zE,zF,zG,zH,zI,zJ,zK]
     iterate 6
      first | refine Za _ ?_ | refine Zb ?_
      simp only [Act.put,zA,zB,zC]
     refine Z6 ?_;go_wp2;go_ret3
     rw [HR2.out];exact ⟨rfl,SN.out.drew.drew⟩
   have n92:(c == 92)=false:=by simp [e92]
   have FI:Hid (Z0o text f (i + 1) (acc ++ [text.data.getD i 0])=R):=by
    refine lh ?_;rw [← HQ.out];simp only [Z0o];rw [Y9 (by rw [← hc]; omega),Y9 (by rw [← hc]; omega),Y9 (by rw [← hc]; omega)]
   have HLb:Hid ((Lib.byteCells acc).length < 1099511627776):=lh (by rw [HLN.out]; omega);have HCB:Hid (Lib.byteCells acc ++ [.int .u8 c]=Lib.byteCells (acc ++ [text.data.getD i 0])):=lh (by rw [Lib.byteCells,Lib.byteCells,Yu,hc]; rfl);have hb2:=hby.symm;clear hby hc e10 e39 e92;go_wp2_with fail
   refine Zf [0,2,4,6,8,10,12,14,16,18,20,22,24,26,28,30,32,34,36] [19,20,21] (fun W=>W.cell? ⟨sb,0,none⟩=some (.string text)∧W.cell? ⟨sb,1,none⟩=some (.int .i64 i)) ⟨q0,q1⟩ fun _=>?_;simp only [Zh,pD,zD,zE,zF,zG,zH,zI,zJ,zK]
   iterate 19
    first | refine Za _ ?_ | refine Zb ?_
    simp only [Act.put,zA,zB,zC]
   refine Z6 ?_;go_wp2;refine Zf [0,2,4,6,8,10,12,14] [8,9] (fun W=>W.cell? ⟨sb,0,none⟩=some (.string text)∧W.cell? ⟨sb,1,none⟩=some (.int .i64 i)) ⟨q0,q1⟩ fun _=>?_;simp only [Zh,pD,zD,zE,zF,zG,zH,zI,zJ,zK]
   iterate 8
    first | refine Za _ ?_ | refine Zb ?_
    simp only [Act.put,zA,zB,zC]
   refine Z6 ?_;go_wp2_with fail
   refine (Z75 _ _ _ _ _ _ c BI.out.drew.drew HLb.out).mono ?_;rintro e w3 ⟨rfl,v',hB3,hF3⟩;have S3:=SI.out.drew.drew.bfr BI.out.drew.drew hsb (Y5 _) hF3;rw [HCB.out] at hB3;have r1:=S3.c1;have rz:=S3.fz 1;have B3:=lh hB3;have S3:=lh S3;clear hB3 hF3 q0 q1 z1;go_wp2;go_roundw
   case rel=>exact ⟨i + 1,f,_,_,_,S3.out.set' (by omega),B3.out.set hsb _,FI.out,by omega,by omega,by simp; omega⟩
   case measure=>
    have e1:=(S3.out.set' (b:=i + 1) (x:=(i:Int) + 1) (by omega)).c1;have e2:=SI.out.c1;rw [e1,e2];simp [intOf];omega
  ·have hge : (text.size : Int) ≤ i := by omega
   have hge2:text.size≤i:=by omega
   have hR:R=([],3,i):=by rw [← HQ.out]; simp [Z0o,show text.size≤i by omega]
   have HR2:=lh hR;clear hR;go_wp2_with fail
   refine Zf [0,2,4,6,8,10,12,14,16,18,20,22,24,26,28,30,32,34,36] [19,20,21] (fun W=>W.cell? ⟨sb,0,none⟩=some (.string text)∧W.cell? ⟨sb,1,none⟩=some (.int .i64 i)) ⟨q0,q1⟩ fun _=>?_;simp only [Zh,pD,zD,zE,zF,zG,zH,zI,zJ,zK]
   iterate 19
    first | refine Za _ ?_ | refine Zb ?_
    simp only [Act.put,zA,zB,zC]
   refine Z6 ?_;go_wp2;refine Zf [0,2,4,6,8,10] [6] (fun W=>W.cell? ⟨sb,1,none⟩=some (.int .i64 i)) q1 fun _=>?_;simp only [Zh,pD,zD,zE,zF,zG,zH,zI,zJ,zK]
   iterate 6
    first | refine Za _ ?_ | refine Zb ?_
    simp only [Act.put,zA,zB,zC]
   refine Z6 ?_;go_wp2;go_ret3
   rw [HR2.out];exact ⟨rfl,SI.out.drew.drew⟩
end Go.Proofs.YtmeiggjboakmpaaGreatDoor
