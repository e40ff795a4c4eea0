/- Package tree: what is left is an end of what there was. -/
import Derived.Test.YtjcgkdfeplbajaaGreatDoorJ09
import Derived.Test.YtjcgkdfeplbajaaGreatDoorJ24
import Derived.Lib.OwnKind
import Derived.LaidEql
namespace Go.Proofs.YtjcgkdfeplbajaaGreatDoor
open Go Go.RowKit
set_option maxRecDepth 100000
set_option maxHeartbeats 20000000
set_option linter.unusedVariables false
variable {T0:List Tok}
def Su (T0 ts:List Tok):Prop:=ts <:+ T0
theorem Su.tl {ts:List Tok} (g:Su T0 ts):Su T0 ts.tail:=List.IsSuffix.trans (List.tail_suffix ts) g
def Uh (T0:List Tok) (P:Tree→Prop) (p:PR):Prop:=∀ t ts,p=some (.ok (t,ts))→Su T0 ts
theorem Uh.fail {P:Tree→Prop} {e:Int} {ts:List Tok}:Uh T0 P (Z1k e ts):=by intro t ts' h; cases h
theorem Uh.none {P:Tree→Prop}:Uh T0 P none:=by intro t ts' h; cases h
theorem Uh.err {P:Tree→Prop} {e:Int×Nat}:Uh T0 P (some (.error e)):=by intro t ts' h; cases h
theorem Uh.ok {P:Tree→Prop} {t:Tree} {ts:List Tok} (g:Su T0 ts:=by first | assumption | exact Su.tl (by assumption) | exact Su.tl (Su.tl (by assumption))):Uh T0 P (okT t ts):=by
 intro t' ts' h';simp only [okT,Option.some.injEq,Except.ok.injEq,Prod.mk.injEq] at h';rw [← h'.2]; exact g
theorem Uh.bind {P Q:Tree→Prop} {p:PR} {k:Tree→List Tok→PR} (hp:Uh T0 P p) (hk:∀ t ts,Su T0 ts→Uh T0 Q (k t ts)):Uh T0 Q (Zz p k):=by
 cases p with
 | none=>exact Uh.none
 | some r =>
   cases r with
   | error e=>exact Uh.err
   | ok x=>obtain ⟨t,ts⟩:=x; exact hk t ts (hp t ts rfl)
theorem Uh.want {P:Tree→Prop} {s:ByteArray} {ts:List Tok} {k:List Tok→PR} (hk:Su T0 ts.tail→Uh T0 P (k ts.tail)) (g:Su T0 ts:=by first | assumption | exact Su.tl (by assumption) | exact Su.tl (Su.tl (by assumption))):Uh T0 P (Z0i s ts k):=by
 unfold Z0i;by_cases h:isT s ts=true;·rw [Y5 h]; exact hk g.tl
 ·rw [Y3 h]; exact Uh.fail
theorem Uh.name {P:Tree→Prop} {ts:List Tok} {k:ByteArray→List Tok→PR} (hk:∀ s,Su T0 ts.tail→Uh T0 P (k s ts.tail)) (g:Su T0 ts:=by first | assumption | exact Su.tl (by assumption) | exact Su.tl (Su.tl (by assumption))):Uh T0 P (Z1m ts k):=by
 unfold Z1m;by_cases h:(hdT ts).kind=1;·rw [Y5 h]; exact hk _ g.tl
 ·rw [Y3 h]; exact Uh.fail
theorem Uh.within {P:Tree→Prop} {d:Nat} {ts:List Tok} {p:PR} (h:Uh T0 P p):Uh T0 P (Z00 d ts p):=by
 unfold Z00;by_cases h':30 < d + 1;·rw [Y5 h']; exact Uh.fail
 ·rw [Y3 h']; exact h
theorem Uh.ite {P:Tree→Prop} {c:Prop} [Decidable c] {p q:PR} (hp:c→Uh T0 P p) (hq:¬ c→Uh T0 P q):Uh T0 P (if c then p else q):=by
 by_cases h:c;·rw [Y5 h]; exact hp h
 ·rw [Y3 h]; exact hq h
theorem Uh.comma {P:Tree→Prop} {c:Prop} [Decidable c] {ts:List Tok} {k:List Tok→PR} (hk:∀ ts',Su T0 ts'→Uh T0 P (k ts')) (g:Su T0 ts:=by first | assumption | exact Su.tl (by assumption) | exact Su.tl (Su.tl (by assumption))):Uh T0 P ((if c then Z0i Z0n ts else fun k=>k ts) k):=by
 by_cases h:c;·rw [Y5 h]; exact Uh.want (hk _)
 ·rw [Y3 h]; exact hk _ g
theorem Uh.end' {P:Tree→Prop} {t:Tree} {ts:List Tok} (g:Su T0 ts:=by first | assumption | exact Su.tl (by assumption) | exact Su.tl (Su.tl (by assumption))):Uh T0 P (endT t ts):=Uh.want fun _=>Uh.ok
theorem Z7v:∀ (f:Nat) (job:Job) (d:Nat) (ts:List Tok),Su T0 ts→Uh T0 (fun _=>True) (Z0 f job d ts):=by
 intro f;induction f with
 | zero=>intro job d ts _; unfold Z0; exact Uh.none
 | succ f ih =>
   intro job d ts g0;cases job with
   | stmts kind acc =>
     unfold Z0;refine Uh.ite (fun _=>Uh.ok) fun _=>?_;exact Uh.bind (Uh.within (ih .stmt _ _ (by first | assumption | exact Su.tl (by assumption) | exact Su.tl (Su.tl (by assumption))))) fun t ts' h=>ih _ _ _ (by first | assumption | exact Su.tl (by assumption) | exact Su.tl (Su.tl (by assumption)))
   | block body =>
     unfold Z0;exact Uh.want (fun _=>Uh.bind (ih (.stmts 6 []) _ _ (by first | assumption | exact Su.tl (by assumption) | exact Su.tl (Su.tl (by assumption)))) fun t ts' h'=>Uh.want (fun _=>Uh.ok))
   | func kind text =>
     unfold Z0;exact Uh.want (fun _=>Uh.bind (ih (.params []) _ _ (by first | assumption | exact Su.tl (by assumption) | exact Su.tl (Su.tl (by assumption)))) fun t ts' h'=>Uh.want (fun _=>Uh.bind (ih (.block true) _ _ (by first | assumption | exact Su.tl (by assumption) | exact Su.tl (Su.tl (by assumption)))) fun t ts' h3=>Uh.ok))
   | params acc =>
     unfold Z0;refine Uh.ite (fun _=>Uh.ok) fun _=>?_;exact Uh.comma fun ts' _=>Uh.ite (fun _=>Uh.fail) fun _=>Uh.name fun s _=>ih _ _ _ (by first | assumption | exact Su.tl (by assumption) | exact Su.tl (Su.tl (by assumption)))
   | around =>
     unfold Z0;exact Uh.want (fun _=>Uh.bind (ih .value _ _ (by first | assumption | exact Su.tl (by assumption) | exact Su.tl (Su.tl (by assumption)))) fun t ts' h'=>Uh.want (fun _=>Uh.ok))
   | stmt =>
     unfold Z0;refine Uh.ite (fun h=>ih (.block false) _ _ (by first | assumption | exact Su.tl (by assumption) | exact Su.tl (Su.tl (by assumption)))) fun _=>?_;refine Uh.ite (fun h=>Uh.ok) fun _=>?_;refine Uh.ite (fun h=>Uh.bind (ih (.decl 2 false) _ _ (by first | assumption | exact Su.tl (by assumption) | exact Su.tl (Su.tl (by assumption)))) fun t us h2=>Uh.end') fun _=>?_;refine Uh.ite (fun h=>Uh.bind (ih (.decl 3 false) _ _ (by first | assumption | exact Su.tl (by assumption) | exact Su.tl (Su.tl (by assumption)))) fun t us h2=>Uh.end') fun _=>?_
     refine Uh.ite (fun h=>Uh.bind (ih (.decl 4 true) _ _ (by first | assumption | exact Su.tl (by assumption) | exact Su.tl (Su.tl (by assumption)))) fun t us h2=>Uh.end') fun _=>?_;refine Uh.ite (fun h=>Uh.name fun s _=>ih _ _ _ (by first | assumption | exact Su.tl (by assumption) | exact Su.tl (Su.tl (by assumption)))) fun _=>?_
     refine Uh.ite (fun h=>Uh.bind (ih .around _ _ (by first | assumption | exact Su.tl (by assumption) | exact Su.tl (Su.tl (by assumption)))) fun x us h2=>Uh.bind (Uh.within (ih .stmt _ _ (by first | assumption | exact Su.tl (by assumption) | exact Su.tl (Su.tl (by assumption))))) fun y vs h3=>Uh.ite (fun h4=>Uh.bind (Uh.within (ih .stmt _ _ (by first | assumption | exact Su.tl (by assumption) | exact Su.tl (Su.tl (by assumption))))) fun z xs h5=>Uh.ok) fun _=>Uh.ok) fun _=>?_
     refine Uh.ite (fun h=>Uh.bind (ih .around _ _ (by first | assumption | exact Su.tl (by assumption) | exact Su.tl (Su.tl (by assumption)))) fun t us h2=>Uh.bind (Uh.within (ih .stmt _ _ (by first | assumption | exact Su.tl (by assumption) | exact Su.tl (Su.tl (by assumption))))) fun t vs h3=>Uh.ok) fun _=>?_
     refine Uh.ite (fun h=>Uh.bind (ih .around _ _ (by first | assumption | exact Su.tl (by assumption) | exact Su.tl (Su.tl (by assumption)))) fun t us h2=>Uh.bind (Uh.within (ih .stmt _ _ (by first | assumption | exact Su.tl (by assumption) | exact Su.tl (Su.tl (by assumption))))) fun t vs h3=>Uh.ok) fun _=>?_;refine Uh.ite (fun h=>Uh.ite (fun h1=>Uh.end') (fun _=>Uh.bind (ih .value _ _ (by first | assumption | exact Su.tl (by assumption) | exact Su.tl (Su.tl (by assumption)))) fun t us h2=>Uh.end')) fun _=>?_
     refine Uh.ite (fun h=>Uh.bind (ih .value _ _ (by first | assumption | exact Su.tl (by assumption) | exact Su.tl (Su.tl (by assumption)))) fun t us h2=>Uh.end') fun _=>?_;refine Uh.ite (fun h=>ih _ _ _ (by first | assumption | exact Su.tl (by assumption) | exact Su.tl (Su.tl (by assumption)))) fun _=>?_;exact Uh.bind (ih .value _ _ (by first | assumption | exact Su.tl (by assumption) | exact Su.tl (Su.tl (by assumption)))) fun t us h2=>Uh.end'
   | decl kind must =>
     unfold Z0;exact Uh.name fun s _=>Uh.ite (fun _=>Uh.fail) fun _=>Uh.ite (fun h2=>Uh.bind (ih .value _ _ (by first | assumption | exact Su.tl (by assumption) | exact Su.tl (Su.tl (by assumption)))) fun t us h3=>Uh.ok) fun _=>Uh.ok
   | try_ =>
     unfold Z0;refine Uh.bind (ih (.block false) _ _ (by first | assumption | exact Su.tl (by assumption) | exact Su.tl (Su.tl (by assumption)))) fun b us h=>?_;have hk:∀ (l:List Tree) (vs:List Tok),Su T0 vs→Uh T0 (fun _=>True) (if isT Zs vs then Zz (Z0 f (.block false) d vs.tail) fun c ts=>okT (.mk 12 ByteArray.empty 0 (l ++ [.mk 14 ByteArray.empty 0 [c]])) ts else if l.length=1 then Z1k 3 vs else okT (.mk 12 ByteArray.empty 0 l) vs):=by
      intro l vs h2;exact Uh.ite (fun _=>Uh.bind (ih (.block false) _ _ (by first | assumption | exact Su.tl (by assumption) | exact Su.tl (Su.tl (by assumption)))) fun t xs h3=>Uh.ok) fun _=>Uh.ite (fun _=>Uh.fail) fun _=>Uh.ok
     refine Uh.ite (fun h1=>?_) fun _=>hk _ _ (by first | assumption | exact Su.tl (by assumption) | exact Su.tl (Su.tl (by assumption)));exact Uh.want (fun _=>Uh.name fun s _=>Uh.want (fun _=>Uh.bind (ih (.block false) _ _ (by first | assumption | exact Su.tl (by assumption) | exact Su.tl (Su.tl (by assumption)))) fun c vs h5=>hk _ _ (by first | assumption | exact Su.tl (by assumption) | exact Su.tl (Su.tl (by assumption)))))
   | value=>unfold Z0; exact Uh.within (ih _ _ _ (by first | assumption | exact Su.tl (by assumption) | exact Su.tl (Su.tl (by assumption))))
   | assign =>
     unfold Z0;exact Uh.bind (ih (.bin 0) _ _ (by first | assumption | exact Su.tl (by assumption) | exact Su.tl (Su.tl (by assumption)))) fun x us h=>Uh.ite (fun h1=>Uh.ite (fun _=>Uh.bind (ih .value _ _ (by first | assumption | exact Su.tl (by assumption) | exact Su.tl (Su.tl (by assumption)))) fun y vs h2=>Uh.ok) fun _=>Uh.err) fun _=>Uh.ok
   | bin level =>
     unfold Z0;exact Uh.ite (fun _=>ih _ _ _ (by first | assumption | exact Su.tl (by assumption) | exact Su.tl (Su.tl (by assumption)))) fun _=>Uh.bind (ih (.bin (level + 1)) _ _ (by first | assumption | exact Su.tl (by assumption) | exact Su.tl (Su.tl (by assumption)))) fun x us h=>ih _ _ _ (by first | assumption | exact Su.tl (by assumption) | exact Su.tl (Su.tl (by assumption)))
   | binLoop level x =>
     unfold Z0;exact Uh.ite (fun _=>Uh.ok) fun h0=>Uh.bind (ih (.bin (level + 1)) _ _ (by first | assumption | exact Su.tl (by assumption) | exact Su.tl (Su.tl (by assumption)))) fun y us h=>ih _ _ _ (by first | assumption | exact Su.tl (by assumption) | exact Su.tl (Su.tl (by assumption)))
   | unary =>
     unfold Z0;exact Uh.ite (fun _=>ih _ _ _ (by first | assumption | exact Su.tl (by assumption) | exact Su.tl (Su.tl (by assumption)))) fun h0=>Uh.bind (Uh.within (ih .unary _ _ (by first | assumption | exact Su.tl (by assumption) | exact Su.tl (Su.tl (by assumption))))) fun x us h=>Uh.ok
   | postfix_ =>
     unfold Z0;exact Uh.bind (ih .primary _ _ (by first | assumption | exact Su.tl (by assumption) | exact Su.tl (Su.tl (by assumption)))) fun x us h=>ih _ _ _ (by first | assumption | exact Su.tl (by assumption) | exact Su.tl (Su.tl (by assumption)))
   | postLoop x =>
     unfold Z0;exact Uh.ite (fun _=>Uh.name fun s _=>ih _ _ _ (by first | assumption | exact Su.tl (by assumption) | exact Su.tl (Su.tl (by assumption)))) fun _=>Uh.ite (fun _=>Uh.bind (ih (.args [x]) _ _ (by first | assumption | exact Su.tl (by assumption) | exact Su.tl (Su.tl (by assumption)))) fun n us h=>ih _ _ _ (by first | assumption | exact Su.tl (by assumption) | exact Su.tl (Su.tl (by assumption)))) fun _=>Uh.ok
   | args acc =>
     unfold Z0;refine Uh.ite (fun _=>Uh.ok) fun _=>?_;exact Uh.comma fun ts' _=>Uh.ite (fun _=>Uh.fail) fun _=>Uh.bind (ih .value _ _ (by first | assumption | exact Su.tl (by assumption) | exact Su.tl (Su.tl (by assumption)))) fun v us h=>ih _ _ _ (by first | assumption | exact Su.tl (by assumption) | exact Su.tl (Su.tl (by assumption)))
   | primary =>
     unfold Z0;refine Uh.ite (fun h=>Uh.ok) fun _=>?_;refine Uh.ite (fun h=>Uh.ok) fun _=>?_;refine Uh.ite (fun h=>Uh.ok) fun _=>?_;refine Uh.ite (fun h=>Uh.ok) fun _=>?_;refine Uh.ite (fun h=>ih _ _ _ (by first | assumption | exact Su.tl (by assumption) | exact Su.tl (Su.tl (by assumption)))) fun _=>?_;refine Uh.ite (fun h=>Uh.ite (fun _=>ih _ _ _ (by first | assumption | exact Su.tl (by assumption) | exact Su.tl (Su.tl (by assumption)))) fun _=>ih _ _ _ (by first | assumption | exact Su.tl (by assumption) | exact Su.tl (Su.tl (by assumption)))) fun _=>?_
     exact Uh.ite (fun h=>ih _ _ _ (by first | assumption | exact Su.tl (by assumption) | exact Su.tl (Su.tl (by assumption)))) fun _=>Uh.fail
   | object acc =>
     unfold Z0;refine Uh.ite (fun _=>Uh.ok) fun _=>?_;exact Uh.comma fun ts' _=>Uh.ite (fun _=>Uh.fail) fun _=>Uh.name fun s _=>Uh.want (fun _=>Uh.bind (ih .value _ _ (by first | assumption | exact Su.tl (by assumption) | exact Su.tl (Su.tl (by assumption)))) fun v us h=>ih _ _ _ (by first | assumption | exact Su.tl (by assumption) | exact Su.tl (Su.tl (by assumption))))
def K6 (ts:List Tok):Prop:=(ts.filter fun t=>t.kind == 6).length≤1
theorem K6.suf {ts us:List Tok} (h:K6 ts) (g:us <:+ ts):K6 us:=Y4 (List.Sublist.length_le (List.Sublist.filter _ g.sublist)) h
theorem Zeu {p:PR} {k:Tree→List Tok→PR} {t:Tree} {ts:List Tok} (h:Zz p k=some (.ok (t,ts))):∃ t2 ts2,p=some (.ok (t2,ts2))∧k t2 ts2=some (.ok (t,ts)):=by
 cases p with
 | none=>cases h
 | some r =>
   cases r with
   | error x=>cases h
   | ok x=>obtain ⟨t2,ts2⟩:=x; exact ⟨t2,ts2,rfl,h⟩
theorem Z5w {d:Nat} {ts:List Tok} {p:PR} {t:Tree} {ts':List Tok} (h:Z00 d ts p=some (.ok (t,ts'))):p=some (.ok (t,ts')):=by
 unfold Z00 at h;split at h;·cases h
 ·exact h
theorem Z6n {e:Tok} {us:List Tok} (he:e.kind=6) (hu1:isT Z2o us=false) (hu2:isT Z10 us=false) (hu3:isT Zs us=false) :
 ∀ (f g : Nat) (acc : List Tree) (d : Nat) (ts vs : List Tok) (t : Tree) (ts' : List Tok), f ≤ g → K6 ts → Ex e us ts vs → Z0 f (.stmts 1 acc) d ts = some (.ok (t, ts')) →
   ∃ ks,t.kids=acc ++ ks∧ks.length + 1≤ts.length∧∀ acc',Z0 g (.stmts 1 acc') d vs=Z0 (g - ks.length) (.stmts 1 (acc' ++ ks)) d us:=by
 intro f;induction f with
 | zero=>intro g acc d ts vs t ts' _ _ _ h; unfold Z0 at h; cases h
 | succ f ih =>
   intro g acc d ts vs t ts' hfg h6 hx h;obtain ⟨g,rfl⟩:∃ q,g=q + 1:=⟨g - 1,by omega⟩
   unfold Z0 at h;simp only [if_true] at h;by_cases hl:2≤ts.length
   ·obtain ⟨⟨kd,_,_⟩,ht⟩:=hx.step hl;have hn6:(hdT ts).kind≠6:=by
     intro hk;obtain ⟨p,p',h1,_,_⟩:=hx;cases p with
     | nil=>rw [h1] at hl; simp at hl
     | cons x p =>
       rw [h1] at h6 hk;have hk2:x.kind=6:=hk;unfold K6 at h6;simp [List.filter_append,hk2,he] at h6
    rw [Y3 (by simpa using hn6)] at h;obtain ⟨x,ts2,h1,h2⟩:=Zeu h;have hsuf:=Z7v (T0:=ts) f .stmt (d + 1) ts (List.suffix_refl _) x ts2 (Z5w h1);have hlv:=Z0c f .stmt (d + 1) ts x ts2 (Z5w h1);simp only [Job.least,Nat.add_zero] at hlv;obtain ⟨vs2,h3,h4⟩:=(Jr.within (Za5 he hu1 hu2 hu3 f .stmt (d + 1) ts vs g (by omega) hx trivial)) x ts2 h1 (fun h=>by cases h);obtain ⟨ks,h5,h7,h8⟩:=ih g (acc ++ [x]) d ts2 vs2 t ts' (by omega) (h6.suf hsuf) h4 h2;refine ⟨x :: ks,by rw [h5,List.append_assoc]; rfl,by simp only [List.length_cons]; omega,fun acc'=>?_⟩
    have e1:Z0 (g + 1) (.stmts 1 acc') d vs=Z0 g (.stmts 1 (acc' ++ [x])) d vs2:=by
     conv=>lhs; unfold Z0
     simp only [if_true];rw [Y3 (by rw [← kd]; simpa using hn6),h3];rfl
    rw [e1,h8,List.append_assoc,List.length_cons,Nat.add_sub_add_right];rfl
   ·obtain ⟨e1,e2⟩:=hx.last hl;rw [e1,Y5 (by simp [hdT,he])] at h;simp only [okT,Option.some.injEq,Except.ok.injEq,Prod.mk.injEq] at h;refine ⟨[],by rw [← h.1]; simp [Tree.kids],by rw [e1]; simp,fun acc'=>?_⟩;rw [e2,List.append_nil];rfl
theorem Zba {ts:List Tok} {s r:ByteArray} (h:isT s ts=true) (hr:s≠r):isT r ts=false:=by
 unfold isT at h ⊢;simp only [Bool.and_eq_true,Z7m] at h;rw [h.2];have:Z1f s r=false:=by
  cases hs:Z1f s r with
  | false=>rfl
  | true=>exact absurd (Z7m.1 hs) hr
 rw [this,Bool.and_false]
theorem Zag {ts:List Tok} {s:ByteArray} (h:isT s ts=true) (hs:s=Z2o∨s=Z10∨s=Zs):∀ (f d:Nat) (t:Tree) (ts':List Tok),Z0 f .stmt d ts≠some (.ok (t,ts')):=by
 have ne:∀ r∈[Z0u,Z03,Z15,Z1x,Z5f,Z63,Z32,Z0g,s_if,Z2v,Z3t,Z26,Z2t,Z4e,Z42,Z1d,Z1g,Z2n,Z1s,Z34,Z0v],isT r ts=false:=by
  intro r hr;refine Zba h ?_;rintro rfl;simp only [List.mem_cons,List.not_mem_nil,or_false] at hr;rcases hs with rfl | rfl | rfl
  all_goals
   have key:∀ (a b:ByteArray),a.data.toList≠b.data.toList→a≠b:=fun a b h e=>h (by rw [e]);rcases hr with h | h | h | h | h | h | h | h | h | h | h | h | h | h | h | h | h | h | h | h | h <;> exact key _ _ (by decide) h
 have hk:(hdT ts).kind=5∨(hdT ts).kind=2:=by
  unfold isT at h;simp only [Bool.and_eq_true,Bool.or_eq_true,decide_eq_true_eq] at h;exact h.1
 have un:Z1l ts=0:=by unfold Z1l; simp [ne Z42 (by simp),ne Z1d (by simp),ne Z1g (by simp)]
 have cn:Z1n ts=0:=by unfold Z1n; simp [ne Z2n (by simp),ne Z1s (by simp),ne Z34 (by simp),ne Z0v (by simp)]
 have pr:∀ f d t ts',Z0 f .primary d ts≠some (.ok (t,ts')):=by
  intro f d t ts' h1;cases f with
  | zero=>unfold Z0 at h1; cases h1
  | succ f =>
    unfold Z0 at h1;rw [Y3 (by omega),Y3 (by omega),Y3 (by omega),Y3 (by rw [cn]; simp),Y3 (by rw [ne Z15 (by simp)]; simp),Y3 (by rw [ne Z0g (by simp)]; simp),Y3 (by rw [ne Z0u (by simp)]; simp)] at h1;cases h1
 have po:∀ f d t ts',Z0 f .postfix_ d ts≠some (.ok (t,ts')):=by
  intro f d t ts' h1;cases f with
  | zero=>unfold Z0 at h1; cases h1
  | succ f=>unfold Z0 at h1; exact Z1j (pr f d) t ts' h1
 have ua:∀ f d t ts',Z0 f .unary d ts≠some (.ok (t,ts')):=by
  intro f d t ts' h1;cases f with
  | zero=>unfold Z0 at h1; cases h1
  | succ f=>unfold Z0 at h1; rw [Y5 un] at h1; exact po f d t ts' h1
 have bn:∀ f l d t ts',Z0 f (.bin l) d ts≠some (.ok (t,ts')):=by
  intro f;induction f with
  | zero=>intro l d t ts' h1; unfold Z0 at h1; cases h1
  | succ f ih =>
    intro l d t ts' h1;unfold Z0 at h1;split at h1;·exact ua f d t ts' h1
    ·exact Z1j (ih (l + 1) d) t ts' h1
 have va:∀ f d t ts',Z0 f .value d ts≠some (.ok (t,ts')):=by
  intro f d t ts' h1;cases f with
  | zero=>unfold Z0 at h1; cases h1
  | succ f =>
    unfold Z0 at h1;have h2:=Z5w h1;cases f with
    | zero=>unfold Z0 at h2; cases h2
    | succ f=>unfold Z0 at h2; exact Z1j (bn f 0 (d + 1)) t ts' h2
 intro f d t ts' h1;cases f with
 | zero=>unfold Z0 at h1; cases h1
 | succ f =>
   unfold Z0 at h1;simp only [ne Z0u (by simp),ne Z1x (by simp),ne Z5f (by simp),ne Z63 (by simp),ne Z32 (by simp),ne Z0g (by simp),ne s_if (by simp),ne Z2v (by simp),ne Z3t (by simp),ne Z26 (by simp),ne Z2t (by simp),ne Z4e (by simp),Bool.false_eq_true,if_false] at h1;exact Z1j (va f d) t ts' h1
theorem Z4c {f d:Nat} {acc:List Tree} {ts ts':List Tok} {t:Tree} {s:ByteArray} (h:Z0 f (.stmts 1 acc) d ts=some (.ok (t,ts'))) (hs:s=Z2o∨s=Z10∨s=Zs):isT s ts=false:=by
 cases hi:isT s ts with
 | false=>rfl
 | true =>
   exfalso;cases f with
   | zero=>unfold Z0 at h; cases h
   | succ f =>
     unfold Z0 at h;simp only [if_true] at h;have hk:(hdT ts).kind≠6:=by
      unfold isT at hi;simp only [Bool.and_eq_true,Bool.or_eq_true,decide_eq_true_eq] at hi;omega
     rw [Y3 (by simpa using hk)] at h;exact Z1j (Z2e (Zag hi hs f (d + 1))) t ts' h
theorem Z60 (o:Nat) (ts:List Tok) (s:ByteArray):isT s (ts.map (Tok.shift o))=isT s ts:=by cases ts <;> rfl
theorem Zaz:∀ p:List Tok,A2 p p
 | []=>trivial
 | x :: p=>⟨⟨rfl,rfl,rfl⟩,Zaz p⟩
theorem Z9f (o:Nat):∀ p:List Tok,A2 p (p.map (Tok.shift o))
 | []=>trivial
 | x :: p=>⟨⟨rfl,rfl,rfl⟩,Z9f o p⟩
theorem Z44 {text:ByteArray} {t:Tree} (h:Z0h text=.ok t):∃ l e ts',Z3q text=.ok (l ++ [e])∧e.kind=6∧K6 (l ++ [e])∧Z0 (40 * (l.length + 1) + 31) (.stmts 1 []) 0 (l ++ [e])=some (.ok (t,ts')):=by
 unfold Z0h at h;split at h;·cases h
 ·split at h;·cases h
  ·rename_i ts hts;obtain ⟨⟨l, e, h1, h2, h3⟩, _, _⟩ := Z5e ts 0 (Yh _) (Z3y hts);subst h1;split at h;·cases h
   ·cases h
   ·rename_i t' ts' hp;split at h;·cases h
    ·have e1 : t' = t := by simpa using h
     subst e1;refine ⟨l,e,ts',hts,h2,?_,by simpa using hp⟩;unfold K6;rw [List.filter_append,List.filter_eq_nil_iff.2 (fun x hx=>by simpa using h3 x hx)];simp [List.filter_cons];split <;> simp
def Zdd (x y:Tree):Tree:=.mk 1 (if Z1y (x.kids ++ y.kids) then Z33 else ByteArray.empty) 0 (x.kids ++ y.kids)
theorem Z6s {a s b:ByteArray} {x y:Tree} (hs:s.size=1) (hb:Z05 (Z9 s 0)=true) (ha:Z0h a=.ok x) (hb2:Z0h b=.ok y) :
 Z0h (a ++ s ++ b)=if 3000 < (a ++ s ++ b).size then .error (4,-1) else if 1500 < (Zdd x y).many then .error (4,-1) else .ok (Zdd x y):=by
 obtain ⟨l,e,q1,h1,h2,h3,h4⟩:=Z44 ha;obtain ⟨m,e',q2,g1,g2,g3,g4⟩:=Z44 hb2;have hlex:=Zdf hs hb h1 g1;obtain ⟨us,hus⟩:=zX ((m ++ [e']).map (Tok.shift (a.size + 1)))
 rw [← hus] at hlex;have n1:isT Z2o us=false:=by rw [hus,Z60]; exact Z4c g4 (.inl rfl)
 have n2:isT Z10 us=false:=by rw [hus,Z60]; exact Z4c g4 (.inr (.inl rfl))
 have n3:isT Zs us=false:=by rw [hus,Z60]; exact Z4c g4 (.inr (.inr rfl))
 have hul:us.length=m.length + 1:=by rw [hus]; simp
 obtain ⟨G,hG⟩:=zX (40 * (l ++ us).length + 31)
 have hGl:G=40 * (l.length + (m.length + 1)) + 31:=by rw [hG,Yi,hul]
 obtain ⟨ks,k1,k2,k3⟩:=Z6n h2 n1 n2 n3 _ G [] 0 (l ++ [e]) (l ++ us) x q1 (by omega) h3 ⟨l,l,rfl,rfl,Zaz l⟩ h4;have hE:Ex e' [e'.shift (a.size + 1)] (m ++ [e']) us:=⟨m,m.map (Tok.shift (a.size + 1)),rfl,by rw [hus,List.map_append]; rfl,Z9f _ m⟩
 have z:∀ r,isT r [e'.shift (a.size + 1)]=false:=fun r=>Z24 (show (e'.shift (a.size + 1)).kind=6 from g2) r;obtain ⟨ms,m1,m2,m3⟩:=Z6n g2 (z _) (z _) (z _) _ (G - ks.length) [] 0 (m ++ [e']) us y q2 (by simp at k2; omega) g3 hE g4;simp only [List.length_append,List.length_singleton] at k2 m2;have hfin:Z0 G (.stmts 1 []) 0 (l ++ us)=some (.ok (.mk 1 (if Z1y (x.kids ++ y.kids) then Z33 else ByteArray.empty) 0 (x.kids ++ y.kids),[e'.shift (a.size + 1)])):=by
  rw [k3,m3];obtain ⟨g,hg⟩:∃ g,G - ks.length - ms.length=g + 1:=⟨G - ks.length - ms.length - 1,by omega⟩
  rw [hg];unfold Z0;simp only [if_true];rw [Y5 (by simp [hdT]; exact g2)];simp only [List.nil_append] at k1 m1 ⊢;rw [k1,m1];rfl
 unfold Z0h;by_cases hz:3000 < (a ++ s ++ b).size;·rw [Y5 hz,Y5 hz]
 rw [Y3 hz,Y3 hz,hlex];simp only [← hG];rw [hfin];rfl
theorem Z3v.base {w:World} {B B':Nat} {v:Value} {l:List ByteArray} (h:Z3v w B v l) (hB:B'≤B):Z3v w B' v l:=by
 refine ⟨h.1,?_⟩;rcases h.2 with hn | ⟨g,cap,cur,h1,h2,rest⟩;·exact .inl hn
 ·exact .inr ⟨g,cap,cur,h1,by omega,rest⟩
theorem Z59.far {w w':World} {B B':Nat} {v v':Value} {l:List ATree} {ks:List ByteArray} (h:Z59 w B v l) (ht:Z3v w B' v' ks) (hf:∀ k,k < w.heap.size→v'.ownBlock≠some k→w'.heap[k]?=w.heap[k]?):Z59 w' B v l:=by
 refine Zr h fun k hk=>hf k (Y9 h k hk).2 fun e=>?_;obtain ⟨c1,f1,h1⟩:=Lib.ownsRow_kind h k hk;obtain ⟨c2,f2,h2⟩:=Lib.ownsRow_kind ht k e;rw [h1] at h2;simp only [Option.some.injEq,Obj.cells.injEq] at h2;exact absurd h2.2.1 (by decide)
end Go.Proofs.YtjcgkdfeplbajaaGreatDoor
namespace Go.Proofs.YtjcgkdfeplbajaaGreatDoor
open Go Go.RowKit Go.ChangeMaps Go.MapKept
set_option maxRecDepth 100000
set_option maxHeartbeats 20000000
set_option linter.unusedVariables false
def Ze9 (w:World) (k:Nat):Prop:=∃ c t,w.heap[k]?=some (.cells c t (0,0))
end Go.Proofs.YtjcgkdfeplbajaaGreatDoor
namespace Go.Proofs.YtjcgkdfeplbajaaGreatDoor
open Go Go.RowKit
set_option maxRecDepth 100000
set_option maxHeartbeats 20000000
set_option linter.unusedVariables false
theorem Ze9.bel {w0 w:World} {k:Nat} (h:Ze9 w0 k) (g:Below w0.heap.size w0 w):Ze9 w k:=by
 obtain ⟨c,t,h⟩:=h;exact ⟨c,t,(g.block k (Y1.1 h).1).trans h⟩
theorem TreeAt.cellsOf {w:World} {B:Nat} {a:ATree} (h:TreeAt w B a):Ze9 w a.b:=⟨_,_,h.blkOf⟩
structure QC where
 rb:Nat
 tb:Nat
 off:Nat
 cap:Nat
 L:List Tok
section
variable {w w':World} {C:QC} {i:Nat} {f:Option (Int×Nat)} {σ:RS}
end
structure KidsAt (w0:World) (B:Nat) (w:World) (kids:List ATree) (ts:List Tree):Prop where
 tree:Zg kids=ts
 at':∀ a∈kids,TreeAt w B a
 nodup:(Z08 kids).Nodup
 new:∀ x∈Z08 kids,w0.heap.size≤x∧x < w.heap.size
structure ListAt (w0:World) (B:Nat) (w:World) (v:Value) (kids:List ATree) (ts:List Tree):Prop where
 ks:KidsAt w0 B w kids ts
 row:w.ownsRow B 22 1 v kids.length (kids.map ATree.ptr)
 own:∀ g,v.ownBlock=some g→w0.heap.size≤g∧g < w.heap.size∧g ∉ Z08 kids
section
variable {w0 w w' w1 w2 wA:World} {B rb:Nat} {v:Value} {kids:List ATree} {ts:List Tree} {a:ATree} {t:Tree} {k n:Int} {tx:ByteArray} {b:Nat}
theorem KidsAt.nil:KidsAt w0 B w [] []:=⟨rfl,fun a ha=>(by cases ha),by simp [Z08],fun x hx=>by simp [Z08] at hx⟩
theorem KidsAt.rfr (h:KidsAt w0 B w kids ts) (hr:rb < B) (f:RFr w w' rb):KidsAt w0 B w' kids ts:=
 ⟨h.tree,fun a ha=>(h.at' a ha).rfr hr f,h.nodup,fun x hx=>⟨(h.new x hx).1,Y7 (h.new x hx).2 f.size⟩⟩
theorem KidsAt.pre (h:KidsAt w1 B w kids ts) (f:w0.heap.size≤w1.heap.size):KidsAt w0 B w kids ts:=
 ⟨h.tree,h.at',h.nodup,fun x hx=>⟨Y4 f (h.new x hx).1,(h.new x hx).2⟩⟩
theorem KidsAt.add (h:KidsAt w0 B w kids ts) (hA:∀ x∈Z08 kids,x < wA.heap.size) (A:Got wA B w a t) (h0:w0.heap.size≤wA.heap.size):KidsAt w0 B w (kids ++ [a]) (ts ++ [t]):=by
 refine ⟨by rw [Z1z,h.tree]; simp [Zg,A.tree],fun x hx=>?_,?_,fun x hx=>?_⟩
 ·rcases List.mem_append.1 hx with hx | hx;·exact h.at' x hx
  ·simp only [List.mem_singleton] at hx; subst hx; exact A.at'
 ·rw [Z1t];simp only [Z08,List.append_nil,List.nodup_append];exact ⟨h.nodup,A.nodup,fun x hx y hy e=>by have h1:=hA x hx; have h2:=A.new y hy; omega⟩
 ·rw [Z1t] at hx;simp only [Z08, List.append_nil, List.mem_append] at hx;rcases hx with hx | hx;·exact h.new x hx
  ·have:=A.new x hx; omega
theorem KidsAt.one (A:Got w0 B w a t):KidsAt w0 B w [a] [t]:=KidsAt.nil.add (kids:=[]) (ts:=[]) (wA:=w0) (fun x hx=>by simp [Z08] at hx) A (Y0 _)
theorem KidsAt.two {a2:ATree} {t2:Tree} (A:Got w0 B w a t) (hA:∀ x∈a.blocks,x < wA.heap.size) (h0:w0.heap.size≤wA.heap.size) (A2:Got wA B w a2 t2):KidsAt w0 B w [a,a2] [t,t2]:=
 (KidsAt.one A).add (wA:=wA) (fun x hx=>hA x (by simpa [Z08] using hx)) A2 h0
theorem ListAt.nil:ListAt w0 B w (.slice none 0 0) [] []:=⟨KidsAt.nil,World.ownsRow_nil _ _ _ _,fun g hg=>by simp [Value.ownBlock] at hg⟩
theorem ListAt.rfr (h:ListAt w0 B w v kids ts) (hr:rb < B) (f:RFr w w' rb):ListAt w0 B w' v kids ts:=
 ⟨h.ks.rfr hr f,Zr h.row fun g hg=>f.block g (h.own g hg).2.1 (by have:=(h.row.lt g hg).1; omega),fun g hg=>⟨(h.own g hg).1,Y7 (h.own g hg).2.1 f.size,(h.own g hg).2.2⟩⟩
theorem ListAt.pre (h:ListAt w1 B w v kids ts) (f:w0.heap.size≤w1.heap.size):ListAt w0 B w v kids ts:=
 ⟨h.ks.pre f,h.row,fun g hg=>⟨Y4 f (h.own g hg).1,(h.own g hg).2⟩⟩
theorem KidsAt.lit (h:KidsAt w0 B w kids ts) (hBw:B≤w.heap.size) (h0:w0.heap.size≤w.heap.size) (hl:kids.length≤1000) :
 ListAt w0 B (w.alloc (.cells (kids.map ATree.ptr).toArray 22)) (.slice (some ⟨w.heap.size,0,none⟩) kids.length kids.length) kids ts:=by
 have hal:Below w.heap.size w (w.alloc (.cells (kids.map ATree.ptr).toArray 22)):=(Y2 _ _).alloc (Y0 _) _;refine ⟨⟨h.tree,fun a ha=>(h.at' a ha).bel hal,h.nodup,fun x hx=>⟨(h.new x hx).1,Y7 (h.new x hx).2 hal.size⟩⟩,Zc6 hBw hl,fun g hg=>?_⟩;simp only [Value.ownBlock,Option.some.injEq] at hg;subst hg;exact ⟨h0,by simp,fun hm=>by have:=(h.new _ hm).2; omega⟩
theorem ListAt.push {g cap:Nat} (L:ListAt w0 B w v kids ts) (hLA:∀ x∈Z08 kids,x < wA.heap.size) (hvA:∀ x,v.ownBlock=some x→x < wA.heap.size) (A:Got wA B w a t) (h0:w0.heap.size≤wA.heap.size) (hAw:wA.heap.size≤w.heap.size)
 (hB1:Below w.heap.size w w1) (hg:w1.grownBy w2 v.ownBlock) (hown:w2.ownsRow B 22 1 (.slice (some ⟨g,0,none⟩) (kids.length + 1) cap) (kids.length + 1) (kids.map ATree.ptr ++ [a.ptr]))
 (hat:v.ownBlock=some g∨w.heap.size≤g) (hgl:g < w2.heap.size) (hF:RFr w0 w rb) :
 ListAt w0 B w2 (.slice (some ⟨g,0,none⟩) (kids.length + 1) cap) (kids ++ [a]) (ts ++ [t])∧(∀ x,x < w.heap.size→v.ownBlock≠some x→w2.heap[x]?=w.heap[x]?)∧w.heap.size≤w2.heap.size ∧
  RFr w0 w2 rb:=by
 have hs1:w.heap.size≤w2.heap.size:=Y4 hB1.size hg.size;have far:∀ x,x < w.heap.size→v.ownBlock≠some x→w2.heap[x]?=w.heap[x]?:=fun x hx hn=>(hg.block x (Y7 hx hB1.size) (fun e=>hn e.symm)).trans (hB1.block x hx);have hv:∀ x,v.ownBlock=some x→w0.heap.size≤x∧x < wA.heap.size:=fun x hx=>⟨(L.own x hx).1,hvA x hx⟩;have hgk:g ∉ Z08 kids:=fun hm=>by
  rcases hat with h | h;·exact (L.own g h).2.2 hm
  ·have:=(L.ks.new g hm).2; omega
 have hga:g ∉ a.blocks:=fun hm=>by
  have h1:=A.new g hm;rcases hat with h | h;·have:=hv g h; omega
  ·omega
 have hg0:w0.heap.size≤g:=by
  rcases hat with h | h;·exact (hv g h).1
  ·have:=hF.size; omega
 have hkeep:∀ x∈Z08 kids,w2.heap[x]?=w.heap[x]?:=fun x hx=>far x (L.ks.new x hx).2 fun e=>(L.own x e).2.2 hx;have hkeepA:∀ x∈a.blocks,w2.heap[x]?=w.heap[x]?:=fun x hx=>far x (A.new x hx).2 fun e=>by have h1:=hv x e; have h2:=A.new x hx; omega
 refine ⟨⟨⟨?_,fun x hx=>?_,?_,fun x hx=>?_⟩,?_,fun g' hg'=>?_⟩,far,hs1,⟨?_,?_,?_,?_,?_⟩⟩;·rw [Z1z,L.ks.tree]; simp [Zg,A.tree]
 ·rcases List.mem_append.1 hx with hx | hx
  ·refine (L.ks.at' x hx).keepB fun y hy=>hkeep y ?_;rw [Z1v]; exact List.mem_flatMap.2 ⟨x,hx,hy⟩
  ·simp only [List.mem_singleton] at hx; subst hx; exact A.at'.keepB hkeepA
 ·rw [Z1t];simp only [Z08,List.append_nil,List.nodup_append];exact ⟨L.ks.nodup,A.nodup,fun x hx y hy e=>by have h1:=hLA x hx; have h2:=A.new y hy; omega⟩
 ·rw [Z1t] at hx;simp only [Z08, List.append_nil, List.mem_append] at hx;rcases hx with hx | hx;·have := L.ks.new x hx; omega
  ·have:=A.new x hx; omega
 ·rw [Yi,List.map_append]; exact hown
 ·simp only [Value.ownBlock,Option.some.injEq] at hg';subst hg';refine ⟨hg0,hgl,fun hm=>?_⟩;rw [Z1t] at hm;simp only [Z08,List.append_nil,List.mem_append] at hm;exact hm.elim hgk hga
 ·exact (hg.os.trans hB1.os).trans hF.os
 ·exact (hg.tape.trans hB1.tape).trans hF.tape
 ·exact (hg.output.trans hB1.output).trans hF.output
 ·have:=hF.size; omega
 ·intro x hx hn;have:=hF.size;exact (far x (by omega) (fun e=>by have:=hv x e; omega)).trans (hF.block x hx hn)
theorem ListAt.node (L:ListAt w0 B w v kids ts) (hBw:B≤w.heap.size) (h0:w0.heap.size≤w.heap.size) :
 Got w0 B (w.alloc (.cells #[.int .i64 k,.string tx,.int .i64 n,v] 34)) (.mk w.heap.size v k tx n kids) (.mk k tx n ts):=by
 refine ⟨by simp [ATree.tree,L.ks.tree],TreeAt.new hBw L.row L.ks.at',?_,fun x hx=>?_⟩
 ·simp only [ATree.blocks, List.nodup_cons, List.mem_append, List.nodup_append, Option.mem_toList, not_or];refine ⟨⟨fun e => by have := (L.own _ e).2.1; omega, fun hm => by have := (L.ks.new _ hm).2; omega⟩, ?_, L.ks.nodup, fun x hx y hy e => ?_⟩;·cases v.ownBlock <;> simp
  ·subst e; exact (L.own x hx).2.2 hy
 ·simp only [ATree.blocks, List.mem_cons, List.mem_append, Option.mem_toList] at hx;rw [World.size_alloc];rcases hx with rfl | hx | hx;·omega
  ·have:=L.own x hx; omega
  ·have:=L.ks.new x hx; omega
theorem ListAt.apart (L:ListAt w1 B w v kids ts) (hb:b < w1.heap.size):v.ownBlock≠some b∧b ∉ Z08 kids:=
 ⟨fun e=>by have:=(L.own b e).1; omega,fun hm=>by have:=(L.ks.new b hm).1; omega⟩
theorem Got.list (N:Got w0 B w (.mk b v k tx n kids) t):ListAt w0 B w v kids (Zg kids)∧v.ownBlock≠some b∧b ∉ Z08 kids:=by
 have hnd:=N.nodup;simp only [ATree.blocks,List.nodup_cons,List.mem_append,List.nodup_append,Option.mem_toList,not_or] at hnd;obtain ⟨⟨hb1,hb2⟩,_,hk1,hk2⟩:=hnd;exact ⟨⟨⟨rfl,fun a ha=>N.at'.kid (k:=a) ha,hk1,fun x hx=>N.new x (by simp [ATree.blocks,hx])⟩,N.at'.rowOf,fun g hg=>⟨(N.new g (by simp [ATree.blocks,hg])).1,(N.new g (by simp [ATree.blocks,hg])).2,fun hm=>hk2 g hg g hm rfl⟩⟩,hb1,hb2⟩
end
theorem Zau (a:ATree):a.kids.length < a.many:=by
 have key:∀ l:List ATree,l.length≤Z3l l:=by
  intro l;induction l with
  | nil=>simp [Z3l]
  | cons x l ih =>
    simp only [Z3l,List.length_cons];have:0 < x.many:=by cases x; simp [ATree.many]
    omega
 obtain ⟨b,v,k,t,n,ks⟩:=a;have:=key ks;simp only [ATree.kids,ATree.many];omega
theorem Za4 {a b:ATree} (h:a.tree=b.tree):a.kind=b.kind∧a.text=b.text∧a.n=b.n∧Zg a.kids=Zg b.kids:=by
 cases a; cases b;simp only [ATree.tree,Tree.mk.injEq] at h;exact h
theorem Zby {l m:List ATree} (h:Zg l=Zg m):l.length=m.length:=by
 have:=congrArg List.length h;rwa [Z1i,Z1i,Yl,Yl] at this
theorem Ze5 {l m:List ATree} {k:Nat} {x y:ATree} (h:Zg l=Zg m) (hx:l[k]?=some x) (hy:m[k]?=some y):x.tree=y.tree:=by
 rw [Z1i,Z1i] at h;have:=congrArg (fun r=>r[k]?) h;simp only [List.getElem?_map,hx,hy,Option.map_some,Option.some.injEq] at this;exact this
theorem Z9h (n0:Nat):∀ (a b:ATree),a.many≤n0→a.many≤100000→a.tree=b.tree→∀ (w:World) (B1 B2:Nat),TreeAt w B1 a→TreeAt w B2 b →
 Calls Tryz.prog 8 #[a.ptr,b.ptr] w fun e w'=>e=.returned (.bool true)∧Below w.heap.size w w':=by
 induction n0 with
 | zero=>intro a b h; cases a; simp [ATree.many] at h
 | succ n0 ih=>
 intro a b hn hmx hab w B1 B2 hT1 hT2;have HIH:=lh ih;obtain ⟨e1,e2,e3,e4⟩:=Za4 hab;have e5:=Zby e4;obtain ⟨p,cp,hv,hge,hgm⟩:=hT1.vOf;obtain ⟨q,cq,hw,hhe,hhm⟩:=hT2.vOf;have a0:=hT1.c0;have a1:=hT1.c1;have a3:=hT1.c3;have b0:=hT2.c0;have b1:=hT2.c1;have b3:=hT2.c3;have a2:w.cell? ⟨a.b,2,none⟩=some (.int .i64 a.n):=by simp [World.cell?,hT1.blkOf]
 have b2:w.cell? ⟨b.b,2,none⟩=some (.int .i64 b.n):=by simp [World.cell?,hT2.blkOf]
 rw [← e1] at b0;rw [← e2] at b1;rw [← e3] at b2;rw [hv] at a3;rw [hw,← e5] at b3;rw [← e5] at hhe;have hkm:=Zau a;have hlen:a.kids.length≤100000:=by omega
 have HT1:=lh hT1;have HT2:=lh hT2;have HV:=lh hv;have HW:=lh hw;have HE4:=lh e4;have HNN:=lh hn;have HMX:=lh hmx;unfold ATree.ptr;obtain ⟨n,hnn⟩:=zX a.kids.length
 rw [← hnn] at a3 b3 hge hhe hlen e5;have HN:=lh hnn;have HN2:=lh e5;obtain ⟨kd,hkd⟩:=zX a.kind
 obtain ⟨tx,htx⟩:=zX a.text
 obtain ⟨nn,hnv⟩:=zX a.n
 rw [← hkd] at a0 b0;rw [← htx] at a1 b1;rw [← hnv] at a2 b2;have hkk:(kd == kd)=true:=beq_self_eq_true _;have htt:(tx.toList == tx.toList)=true:=beq_self_eq_true _;have hvv:(nn == nn)=true:=beq_self_eq_true _;have hll:((n:Int) == (n:Int))=true:=beq_self_eq_true _;clear hab hn hmx e1 e2 e3 e4 e5 hv hw hkm hnn hkd htx hnv hT1 hT2 ih;go_enter Tryz.func8,Tryz.ntmps8
 go_wp2_with fail
 refine Z4 [(true,0),(true,1),(true,2),(true,3),(true,4),(true,5),(true,6),(true,7),(true,8),(true,9),(true,10),(true,11),(true,12),(true,13),(true,14),(true,15),(true,16),(true,17),(true,18),(true,19),(true,20),(true,21),(true,22),(true,23),(true,24),(true,25),(true,26),(true,27),(true,28),(true,29),(true,30),(true,31),(true,32),(true,33),(true,34),(true,35),(true,36),(true,37),(true,38),(true,39),(true,40),(true,41)] [42,43] (fun W=>W.cell? ⟨a.b,0,none⟩=some (.int .i64 kd)∧W.cell? ⟨b.b,0,none⟩=some (.int .i64 kd)∧W.cell? ⟨a.b,1,none⟩=some (.string tx)∧W.cell? ⟨b.b,1,none⟩=some (.string tx)∧W.cell? ⟨a.b,2,none⟩=some (.int .i64 nn)∧W.cell? ⟨b.b,2,none⟩=some (.int .i64 nn)∧W.cell? ⟨a.b,3,none⟩=some (.slice p n cp)∧W.cell? ⟨b.b,3,none⟩=some (.slice q n cq)) (by kernel_rfl) (by kernel_rfl) (fun _ _ d _ _ h=>by cases d <;> exact h) ⟨a0,b0,a1,b1,a2,b2,a3,b3⟩ (fun hS0=>?_)
 simp only [Zj,zD,zE,zF,zG,zH,zI]
 iterate 42
  first
   | (refine Z7 ?_ (by rfl) (fun w' hS'=>?_) ?_; rotate_left; (obtain ⟨s0,s1,s2,s3,s4,s5,s6,s7⟩:=hS'; go_simp; first | done | with_reducible rfl); simp only [Act.put,zA,zB,zC])
   | (refine Z6 (by rfl) ?_; simp only [Act.put,zA,zB,zC])
 refine Zb ?_;go_wp2_with fail
 go_loopw [64] (fun i wr=>∃ (k:Nat),k≤n∧i=.int .i64 k∧Hid (Below w.heap.size w wr)) (fun i _=>n - (intOf i).toNat)
 case atStart=>exact ⟨0,Yh _,rfl,lh (by repeat (first | exact Y2 _ _ | refine Below.drew ?_))⟩
 case round=>
  obtain ⟨k,hk,rfl,HB⟩:=hrel;by_cases hkn:k < n
  ·obtain ⟨x, hx⟩ : ∃ x, a.kids[k]? = some x := ⟨_, Y6 (by rw [← HN.out]; exact hkn)⟩
   obtain ⟨y,hy⟩:∃ y,b.kids[k]?=some y:=⟨_,Y6 (by rw [← HN2.out]; exact hkn)⟩
   have hTa:=HT1.out.bel HB.out;have hTb:=HT2.out.bel HB.out;have hra:=hTa.rowOf;have hrb:=hTb.rowOf;rcases Zm hra with ⟨_,h2⟩ | ⟨g0,cap0,hv0,_⟩;·rw [← HN.out] at h2; omega
   rcases Zm hrb with ⟨_,h2⟩ | ⟨g1,cap1,hv1,_⟩;·rw [← HN2.out] at h2; omega
   have hp:p=some ⟨g0,0,none⟩:=by
    have:=HV.out.symm.trans hv0;simp only [Value.slice.injEq] at this;exact this.1
   have hq:q=some ⟨g1,0,none⟩:=by
    have:=HW.out.symm.trans hv1;simp only [Value.slice.injEq] at this;exact this.1
   subst hp hq;have cx:=Z0z hra (g:=g0) (by rw [hv0]; rfl) (i:=k) (x:=x.ptr) (by rw [Yg,hx]; rfl);have cy:=Z0z hrb (g:=g1) (by rw [hv1]; rfl) (i:=k) (x:=y.ptr) (by rw [Yg,hy]; rfl);unfold ATree.ptr at cx cy;have j3:wr.cell? ⟨a.b,3,none⟩=some (.slice (some ⟨g0,0,none⟩) n cp):=(Yb (HB.out.block a.b HT1.out.lt)).trans a3;have l3:wr.cell? ⟨b.b,3,none⟩=some (.slice (some ⟨g1,0,none⟩) n cq):=(Yb (HB.out.block b.b HT2.out.lt)).trans b3;have hxm:=Z9l (Yd hx)
   have HC:=lh (fun (W:World) (hW:Below wr.heap.size wr W)=>HIH.out x y (by have:=HNN.out; omega) (by have:=HMX.out; omega) (Ze5 HE4.out hx hy) W B1 B2 ((hTa.kid (Yd hx)).bel hW) ((hTb.kid (Yd hy)).bel hW));unfold ATree.ptr at HC;clear hTa hTb hra hrb hv0 hv1 hx hy hxm a0 a1 a2 a3 b0 b1 b2 b3;go_wp2_with fail
   refine Z4 [(true,0),(true,1),(true,2),(true,3),(true,4),(true,5),(true,6),(true,7),(true,8),(true,9),(true,10),(true,11),(true,12),(true,13)] [14,15] (fun W=>W.cell? ⟨a.b,3,none⟩=some (.slice (some ⟨g0,0,none⟩) n cp)∧W.cell? ⟨b.b,3,none⟩=some (.slice (some ⟨g1,0,none⟩) n cq)∧W.cell? ⟨g0,k,none⟩=some (.pointer (some ⟨x.b,0,none⟩))∧W.cell? ⟨g1,k,none⟩=some (.pointer (some ⟨y.b,0,none⟩))) (by kernel_rfl) (by kernel_rfl) (fun _ _ d _ _ h=>by cases d <;> exact h) ⟨j3,l3,cx,cy⟩ (fun hS0=>?_)
   simp only [Zj,zD,zE,zF,zG,zH,zI]
   iterate 14
    first
     | (refine Z7 ?_ (by rfl) (fun w' hS'=>?_) ?_; rotate_left; (obtain ⟨s0,s1,s2,s3⟩:=hS'; go_simp; first | done | with_reducible rfl); simp only [Act.put,zA,zB,zC])
     | (refine Z6 (by rfl) ?_; simp only [Act.put,zA,zB,zC])
   refine Zb ?_;go_wp2_with fail
   refine (HC.out _ (by repeat (first | exact Y2 _ _ | refine Below.drew ?_))).mono ?_;rintro e w1 ⟨rfl,hb1⟩;have HB1:=lh (show Below w.heap.size w w1 from HB.out.trans (Below.mono (show Below wr.heap.size wr w1 from ((Y2 wr.heap.size wr).drew).trans hb1) HB.out.size));clear hb1 HC;go_wp2;go_roundw
   case rel=>exact ⟨k + 1,by omega,by go_num,HB1⟩
   case measure=>simp [intOf]; omega
  ·have hk2 : k = n := by omega
   subst hk2;go_wp2;go_ret;exact ⟨rfl,HB.out⟩
end Go.Proofs.YtjcgkdfeplbajaaGreatDoor
