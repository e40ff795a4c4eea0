/- Package tree: what is left is an end of what there was. -/
import Derived.Test.YtedopiahfejdfaaGreatDoorJ13
import Derived.Test.YtedopiahfejdfaaGreatDoorJ14
namespace Go.Proofs.YtedopiahfejdfaaGreatDoor
open Go Go.RowKit
set_option maxRecDepth 100000
set_option linter.unusedVariables false
variable {T0:List Tok}
def Su (T0 ts:List Tok):Prop:=ts <:+ T0
theorem Su.tl {ts:List Tok} (g:Su T0 ts):Su T0 ts.tail:=List.IsSuffix.trans (List.tail_suffix ts) g
def Uh (T0:List Tok) (P:Tree→Prop) (p:PR):Prop:=∀ t ts,p=some (.ok (t,ts))→Su T0 ts
theorem Uh.fail {P:Tree→Prop} {e:Int} {ts:List Tok}:Uh T0 P (Z11 e ts):=by intro t ts' h; cases h
theorem Uh.none {P:Tree→Prop}:Uh T0 P none:=by intro t ts' h; cases h
theorem Uh.err {P:Tree→Prop} {e:Int×Nat}:Uh T0 P (some (.error e)):=by intro t ts' h; cases h
theorem Uh.ok {P:Tree→Prop} {t:Tree} {ts:List Tok} (g:Su T0 ts:=by first | assumption | exact Su.tl (by assumption) | exact Su.tl (Su.tl (by assumption))):Uh T0 P (okT t ts):=by
 intro t' ts' h';simp only [okT,Option.some.injEq,Except.ok.injEq,Prod.mk.injEq] at h';rw [← h'.2]; exact g
theorem Uh.bind {P Q:Tree→Prop} {p:PR} {k:Tree→List Tok→PR} (hp:Uh T0 P p) (hk:∀ t ts,Su T0 ts→Uh T0 Q (k t ts)):Uh T0 Q (Zh p k):=by
 cases p with
 | none=>exact Uh.none
 | some r =>
   cases r with
   | error e=>exact Uh.err
   | ok x=>obtain ⟨t,ts⟩:=x; exact hk t ts (hp t ts rfl)
theorem Uh.want {P:Tree→Prop} {s:ByteArray} {ts:List Tok} {k:List Tok→PR} (hk:Su T0 ts.tail→Uh T0 P (k ts.tail)) (g:Su T0 ts:=by first | assumption | exact Su.tl (by assumption) | exact Su.tl (Su.tl (by assumption))):Uh T0 P (Z00 s ts k):=by
 unfold Z00;by_cases h:isT s ts=true;·rw [Y5 h]; exact hk g.tl
 ·rw [Y3 h]; exact Uh.fail
theorem Uh.name {P:Tree→Prop} {ts:List Tok} {k:ByteArray→List Tok→PR} (hk:∀ s,Su T0 ts.tail→Uh T0 P (k s ts.tail)) (g:Su T0 ts:=by first | assumption | exact Su.tl (by assumption) | exact Su.tl (Su.tl (by assumption))):Uh T0 P (Z13 ts k):=by
 unfold Z13;by_cases h:(hdT ts).kind=1;·rw [Y5 h]; exact hk _ g.tl
 ·rw [Y3 h]; exact Uh.fail
theorem Uh.within {P:Tree→Prop} {d:Nat} {ts:List Tok} {p:PR} (h:Uh T0 P p):Uh T0 P (Zj d ts p):=by
 unfold Zj;by_cases h':30 < d + 1;·rw [Y5 h']; exact Uh.fail
 ·rw [Y3 h']; exact h
theorem Uh.ite {P:Tree→Prop} {c:Prop} [Decidable c] {p q:PR} (hp:c→Uh T0 P p) (hq:¬ c→Uh T0 P q):Uh T0 P (if c then p else q):=by
 by_cases h:c;·rw [Y5 h]; exact hp h
 ·rw [Y3 h]; exact hq h
theorem Uh.comma {P:Tree→Prop} {c:Prop} [Decidable c] {ts:List Tok} {k:List Tok→PR} (hk:∀ ts',Su T0 ts'→Uh T0 P (k ts')) (g:Su T0 ts:=by first | assumption | exact Su.tl (by assumption) | exact Su.tl (Su.tl (by assumption))):Uh T0 P ((if c then Z00 Z07 ts else fun k=>k ts) k):=by
 by_cases h:c;·rw [Y5 h]; exact Uh.want (hk _)
 ·rw [Y3 h]; exact hk _ g
theorem Uh.end' {P:Tree→Prop} {t:Tree} {ts:List Tok} (g:Su T0 ts:=by first | assumption | exact Su.tl (by assumption) | exact Su.tl (Su.tl (by assumption))):Uh T0 P (endT t ts):=Uh.want fun _=>Uh.ok
theorem Z8m:∀ (f:Nat) (job:Job) (d:Nat) (ts:List Tok),Su T0 ts→Uh T0 (fun _=>True) (Z0 f job d ts):=by
 intro f;induction f with
 | zero=>intro job d ts _; unfold Z0; exact Uh.none
 | succ f ih =>
   intro job d ts g0;cases job with
   | stmts kind acc =>
     unfold Z0;refine Uh.ite (fun _=>Uh.ok) fun _=>?_;exact Uh.bind (Uh.within (ih .stmt _ _ (by first | assumption | exact Su.tl (by assumption) | exact Su.tl (Su.tl (by assumption))))) fun t ts' h=>ih _ _ _ (by first | assumption | exact Su.tl (by assumption) | exact Su.tl (Su.tl (by assumption)))
   | block body =>
     unfold Z0;exact Uh.want (fun _=>Uh.bind (ih (.stmts 6 []) _ _ (by first | assumption | exact Su.tl (by assumption) | exact Su.tl (Su.tl (by assumption)))) fun t ts' h'=>Uh.want (fun _=>Uh.ok))
   | func kind text =>
     unfold Z0;exact Uh.want (fun _=>Uh.bind (ih (.params []) _ _ (by first | assumption | exact Su.tl (by assumption) | exact Su.tl (Su.tl (by assumption)))) fun t ts' h'=>Uh.want (fun _=>Uh.bind (ih (.block true) _ _ (by first | assumption | exact Su.tl (by assumption) | exact Su.tl (Su.tl (by assumption)))) fun t ts' h3=>Uh.ok))
   | params acc =>
     unfold Z0;refine Uh.ite (fun _=>Uh.ok) fun _=>?_;exact Uh.comma fun ts' _=>Uh.ite (fun _=>Uh.fail) fun _=>Uh.name fun s _=>ih _ _ _ (by first | assumption | exact Su.tl (by assumption) | exact Su.tl (Su.tl (by assumption)))
   | around =>
     unfold Z0;exact Uh.want (fun _=>Uh.bind (ih .value _ _ (by first | assumption | exact Su.tl (by assumption) | exact Su.tl (Su.tl (by assumption)))) fun t ts' h'=>Uh.want (fun _=>Uh.ok))
   | stmt =>
     unfold Z0;refine Uh.ite (fun h=>ih (.block false) _ _ (by first | assumption | exact Su.tl (by assumption) | exact Su.tl (Su.tl (by assumption)))) fun _=>?_;refine Uh.ite (fun h=>Uh.ok) fun _=>?_;refine Uh.ite (fun h=>Uh.bind (ih (.decl 2 false) _ _ (by first | assumption | exact Su.tl (by assumption) | exact Su.tl (Su.tl (by assumption)))) fun t us h2=>Uh.end') fun _=>?_;refine Uh.ite (fun h=>Uh.bind (ih (.decl 3 false) _ _ (by first | assumption | exact Su.tl (by assumption) | exact Su.tl (Su.tl (by assumption)))) fun t us h2=>Uh.end') fun _=>?_
     refine Uh.ite (fun h=>Uh.bind (ih (.decl 4 true) _ _ (by first | assumption | exact Su.tl (by assumption) | exact Su.tl (Su.tl (by assumption)))) fun t us h2=>Uh.end') fun _=>?_;refine Uh.ite (fun h=>Uh.name fun s _=>ih _ _ _ (by first | assumption | exact Su.tl (by assumption) | exact Su.tl (Su.tl (by assumption)))) fun _=>?_
     refine Uh.ite (fun h=>Uh.bind (ih .around _ _ (by first | assumption | exact Su.tl (by assumption) | exact Su.tl (Su.tl (by assumption)))) fun x us h2=>Uh.bind (Uh.within (ih .stmt _ _ (by first | assumption | exact Su.tl (by assumption) | exact Su.tl (Su.tl (by assumption))))) fun y vs h3=>Uh.ite (fun h4=>Uh.bind (Uh.within (ih .stmt _ _ (by first | assumption | exact Su.tl (by assumption) | exact Su.tl (Su.tl (by assumption))))) fun z xs h5=>Uh.ok) fun _=>Uh.ok) fun _=>?_
     refine Uh.ite (fun h=>Uh.bind (ih .around _ _ (by first | assumption | exact Su.tl (by assumption) | exact Su.tl (Su.tl (by assumption)))) fun t us h2=>Uh.bind (Uh.within (ih .stmt _ _ (by first | assumption | exact Su.tl (by assumption) | exact Su.tl (Su.tl (by assumption))))) fun t vs h3=>Uh.ok) fun _=>?_
     refine Uh.ite (fun h=>Uh.bind (ih .around _ _ (by first | assumption | exact Su.tl (by assumption) | exact Su.tl (Su.tl (by assumption)))) fun t us h2=>Uh.bind (Uh.within (ih .stmt _ _ (by first | assumption | exact Su.tl (by assumption) | exact Su.tl (Su.tl (by assumption))))) fun t vs h3=>Uh.ok) fun _=>?_;refine Uh.ite (fun h=>Uh.ite (fun h1=>Uh.end') (fun _=>Uh.bind (ih .value _ _ (by first | assumption | exact Su.tl (by assumption) | exact Su.tl (Su.tl (by assumption)))) fun t us h2=>Uh.end')) fun _=>?_
     refine Uh.ite (fun h=>Uh.bind (ih .value _ _ (by first | assumption | exact Su.tl (by assumption) | exact Su.tl (Su.tl (by assumption)))) fun t us h2=>Uh.end') fun _=>?_;refine Uh.ite (fun h=>ih _ _ _ (by first | assumption | exact Su.tl (by assumption) | exact Su.tl (Su.tl (by assumption)))) fun _=>?_;exact Uh.bind (ih .value _ _ (by first | assumption | exact Su.tl (by assumption) | exact Su.tl (Su.tl (by assumption)))) fun t us h2=>Uh.end'
   | decl kind must =>
     unfold Z0;exact Uh.name fun s _=>Uh.ite (fun _=>Uh.fail) fun _=>Uh.ite (fun h2=>Uh.bind (ih .value _ _ (by first | assumption | exact Su.tl (by assumption) | exact Su.tl (Su.tl (by assumption)))) fun t us h3=>Uh.ok) fun _=>Uh.ok
   | try_ =>
     unfold Z0;refine Uh.bind (ih (.block false) _ _ (by first | assumption | exact Su.tl (by assumption) | exact Su.tl (Su.tl (by assumption)))) fun b us h=>?_;have hk:∀ (l:List Tree) (vs:List Tok),Su T0 vs→Uh T0 (fun _=>True) (if isT Zf vs then Zh (Z0 f (.block false) d vs.tail) fun c ts=>okT (.mk 12 ByteArray.empty 0 (l ++ [.mk 14 ByteArray.empty 0 [c]])) ts else if l.length=1 then Z11 3 vs else okT (.mk 12 ByteArray.empty 0 l) vs):=by
      intro l vs h2;exact Uh.ite (fun _=>Uh.bind (ih (.block false) _ _ (by first | assumption | exact Su.tl (by assumption) | exact Su.tl (Su.tl (by assumption)))) fun t xs h3=>Uh.ok) fun _=>Uh.ite (fun _=>Uh.fail) fun _=>Uh.ok
     refine Uh.ite (fun h1=>?_) fun _=>hk _ _ (by first | assumption | exact Su.tl (by assumption) | exact Su.tl (Su.tl (by assumption)));exact Uh.want (fun _=>Uh.name fun s _=>Uh.want (fun _=>Uh.bind (ih (.block false) _ _ (by first | assumption | exact Su.tl (by assumption) | exact Su.tl (Su.tl (by assumption)))) fun c vs h5=>hk _ _ (by first | assumption | exact Su.tl (by assumption) | exact Su.tl (Su.tl (by assumption)))))
   | value=>unfold Z0; exact Uh.within (ih _ _ _ (by first | assumption | exact Su.tl (by assumption) | exact Su.tl (Su.tl (by assumption))))
   | assign =>
     unfold Z0;exact Uh.bind (ih (.bin 0) _ _ (by first | assumption | exact Su.tl (by assumption) | exact Su.tl (Su.tl (by assumption)))) fun x us h=>Uh.ite (fun h1=>Uh.ite (fun _=>Uh.bind (ih .value _ _ (by first | assumption | exact Su.tl (by assumption) | exact Su.tl (Su.tl (by assumption)))) fun y vs h2=>Uh.ok) fun _=>Uh.err) fun _=>Uh.ok
   | bin level =>
     unfold Z0;exact Uh.ite (fun _=>ih _ _ _ (by first | assumption | exact Su.tl (by assumption) | exact Su.tl (Su.tl (by assumption)))) fun _=>Uh.bind (ih (.bin (level + 1)) _ _ (by first | assumption | exact Su.tl (by assumption) | exact Su.tl (Su.tl (by assumption)))) fun x us h=>ih _ _ _ (by first | assumption | exact Su.tl (by assumption) | exact Su.tl (Su.tl (by assumption)))
   | binLoop level x =>
     unfold Z0;exact Uh.ite (fun _=>Uh.ok) fun h0=>Uh.bind (ih (.bin (level + 1)) _ _ (by first | assumption | exact Su.tl (by assumption) | exact Su.tl (Su.tl (by assumption)))) fun y us h=>ih _ _ _ (by first | assumption | exact Su.tl (by assumption) | exact Su.tl (Su.tl (by assumption)))
   | unary =>
     unfold Z0;exact Uh.ite (fun _=>ih _ _ _ (by first | assumption | exact Su.tl (by assumption) | exact Su.tl (Su.tl (by assumption)))) fun h0=>Uh.bind (Uh.within (ih .unary _ _ (by first | assumption | exact Su.tl (by assumption) | exact Su.tl (Su.tl (by assumption))))) fun x us h=>Uh.ok
   | postfix_ =>
     unfold Z0;exact Uh.bind (ih .primary _ _ (by first | assumption | exact Su.tl (by assumption) | exact Su.tl (Su.tl (by assumption)))) fun x us h=>ih _ _ _ (by first | assumption | exact Su.tl (by assumption) | exact Su.tl (Su.tl (by assumption)))
   | postLoop x =>
     unfold Z0;exact Uh.ite (fun _=>Uh.name fun s _=>ih _ _ _ (by first | assumption | exact Su.tl (by assumption) | exact Su.tl (Su.tl (by assumption)))) fun _=>Uh.ite (fun _=>Uh.bind (ih (.args [x]) _ _ (by first | assumption | exact Su.tl (by assumption) | exact Su.tl (Su.tl (by assumption)))) fun n us h=>ih _ _ _ (by first | assumption | exact Su.tl (by assumption) | exact Su.tl (Su.tl (by assumption)))) fun _=>Uh.ok
   | args acc =>
     unfold Z0;refine Uh.ite (fun _=>Uh.ok) fun _=>?_;exact Uh.comma fun ts' _=>Uh.ite (fun _=>Uh.fail) fun _=>Uh.bind (ih .value _ _ (by first | assumption | exact Su.tl (by assumption) | exact Su.tl (Su.tl (by assumption)))) fun v us h=>ih _ _ _ (by first | assumption | exact Su.tl (by assumption) | exact Su.tl (Su.tl (by assumption)))
   | primary =>
     unfold Z0;refine Uh.ite (fun h=>Uh.ok) fun _=>?_;refine Uh.ite (fun h=>Uh.ok) fun _=>?_;refine Uh.ite (fun h=>Uh.ok) fun _=>?_;refine Uh.ite (fun h=>Uh.ok) fun _=>?_;refine Uh.ite (fun h=>ih _ _ _ (by first | assumption | exact Su.tl (by assumption) | exact Su.tl (Su.tl (by assumption)))) fun _=>?_;refine Uh.ite (fun h=>Uh.ite (fun _=>ih _ _ _ (by first | assumption | exact Su.tl (by assumption) | exact Su.tl (Su.tl (by assumption)))) fun _=>ih _ _ _ (by first | assumption | exact Su.tl (by assumption) | exact Su.tl (Su.tl (by assumption)))) fun _=>?_
     exact Uh.ite (fun h=>ih _ _ _ (by first | assumption | exact Su.tl (by assumption) | exact Su.tl (Su.tl (by assumption)))) fun _=>Uh.fail
   | object acc =>
     unfold Z0;refine Uh.ite (fun _=>Uh.ok) fun _=>?_;exact Uh.comma fun ts' _=>Uh.ite (fun _=>Uh.fail) fun _=>Uh.name fun s _=>Uh.want (fun _=>Uh.bind (ih .value _ _ (by first | assumption | exact Su.tl (by assumption) | exact Su.tl (Su.tl (by assumption)))) fun v us h=>ih _ _ _ (by first | assumption | exact Su.tl (by assumption) | exact Su.tl (Su.tl (by assumption))))
def K6 (ts:List Tok):Prop:=(ts.filter fun t=>t.kind == 6).length≤1
theorem K6.suf {ts us:List Tok} (h:K6 ts) (g:us <:+ ts):K6 us:=Y4 (List.Sublist.length_le (List.Sublist.filter _ g.sublist)) h
theorem Zf0 {p:PR} {k:Tree→List Tok→PR} {t:Tree} {ts:List Tok} (h:Zh p k=some (.ok (t,ts))):∃ t2 ts2,p=some (.ok (t2,ts2))∧k t2 ts2=some (.ok (t,ts)):=by
 cases p with
 | none=>cases h
 | some r =>
   cases r with
   | error x=>cases h
   | ok x=>obtain ⟨t2,ts2⟩:=x; exact ⟨t2,ts2,rfl,h⟩
theorem Z61 {d:Nat} {ts:List Tok} {p:PR} {t:Tree} {ts':List Tok} (h:Zj d ts p=some (.ok (t,ts'))):p=some (.ok (t,ts')):=by
 unfold Zj at h;split at h;·cases h
 ·exact h
theorem Z7z {e:Tok} {us:List Tok} (he:e.kind=6) (hu1:isT Z3m us=false) (hu2:isT Z16 us=false) (hu3:isT Zf us=false) :
 ∀ (f g : Nat) (acc : List Tree) (d : Nat) (ts vs : List Tok) (t : Tree) (ts' : List Tok), f ≤ g → K6 ts → Ex e us ts vs → Z0 f (.stmts 1 acc) d ts = some (.ok (t, ts')) →
   ∃ ks,t.kids=acc ++ ks∧ks.length + 1≤ts.length∧∀ acc',Z0 g (.stmts 1 acc') d vs=Z0 (g - ks.length) (.stmts 1 (acc' ++ ks)) d us:=by
 intro f;induction f with
 | zero=>intro g acc d ts vs t ts' _ _ _ h; unfold Z0 at h; cases h
 | succ f ih =>
   intro g acc d ts vs t ts' hfg h6 hx h;obtain ⟨g,rfl⟩:∃ q,g=q + 1:=⟨g - 1,by omega⟩
   unfold Z0 at h;simp only [if_true] at h;by_cases hl:2≤ts.length
   ·obtain ⟨⟨kd,_,_⟩,ht⟩:=hx.step hl;have hn6:(hdT ts).kind≠6:=by
     intro hk;obtain ⟨p,p',h1,_,_⟩:=hx;cases p with
     | nil=>rw [h1] at hl; simp at hl
     | cons x p =>
       rw [h1] at h6 hk;have hk2:x.kind=6:=hk;unfold K6 at h6;simp [List.filter_append,hk2,he] at h6
    rw [Y3 (by simpa using hn6)] at h;obtain ⟨x,ts2,h1,h2⟩:=Zf0 h;have hsuf:=Z8m (T0:=ts) f .stmt (d + 1) ts (List.suffix_refl _) x ts2 (Z61 h1);have hlv:=Zx f .stmt (d + 1) ts x ts2 (Z61 h1);simp only [Job.least,Nat.add_zero] at hlv;obtain ⟨vs2,h3,h4⟩:=(Jr.within (Zb2 he hu1 hu2 hu3 f .stmt (d + 1) ts vs g (by omega) hx trivial)) x ts2 h1 (fun h=>by cases h);obtain ⟨ks,h5,h7,h8⟩:=ih g (acc ++ [x]) d ts2 vs2 t ts' (by omega) (h6.suf hsuf) h4 h2;refine ⟨x :: ks,by rw [h5,List.append_assoc]; rfl,by simp only [List.length_cons]; omega,fun acc'=>?_⟩
    have e1:Z0 (g + 1) (.stmts 1 acc') d vs=Z0 g (.stmts 1 (acc' ++ [x])) d vs2:=by
     conv=>lhs; unfold Z0
     simp only [if_true];rw [Y3 (by rw [← kd]; simpa using hn6),h3];rfl
    rw [e1,h8,List.append_assoc,List.length_cons,Nat.add_sub_add_right];rfl
   ·obtain ⟨e1,e2⟩:=hx.last hl;rw [e1,Y5 (by simp [hdT,he])] at h;simp only [okT,Option.some.injEq,Except.ok.injEq,Prod.mk.injEq] at h;refine ⟨[],by rw [← h.1]; simp [Tree.kids],by rw [e1]; simp,fun acc'=>?_⟩;rw [e2,List.append_nil];rfl
theorem Zc2 {ts:List Tok} {s r:ByteArray} (h:isT s ts=true) (hr:s≠r):isT r ts=false:=by
 unfold isT at h ⊢;simp only [Bool.and_eq_true,Z6h] at h;rw [h.2];have:Z0r s r=false:=by
  cases hs:Z0r s r with
  | false=>rfl
  | true=>exact absurd (Z6h.1 hs) hr
 rw [this,Bool.and_false]
theorem Zau {ts:List Tok} {s:ByteArray} (h:isT s ts=true) (hs:s=Z3m∨s=Z16∨s=Zf):∀ (f d:Nat) (t:Tree) (ts':List Tok),Z0 f .stmt d ts≠some (.ok (t,ts')):=by
 have ne:∀ r∈[Z0d,Zq,Z0q,Zk,Z24,Z7b,Z2y,Z06,s_if,Z2v,Z49,Z1y,Z2t,Z7e,Z46,Z12,Z1a,Z2i,Z1o,Z37,Z0k],isT r ts=false:=by
  intro r hr;refine Zc2 h ?_;rintro rfl;simp only [List.mem_cons,List.not_mem_nil,or_false] at hr;rcases hs with rfl | rfl | rfl
  all_goals
   have key:∀ (a b:ByteArray),a.data.toList≠b.data.toList→a≠b:=fun a b h e=>h (by rw [e]);rcases hr with h | h | h | h | h | h | h | h | h | h | h | h | h | h | h | h | h | h | h | h | h <;> exact key _ _ (by decide) h
 have hk:(hdT ts).kind=5∨(hdT ts).kind=2:=by
  unfold isT at h;simp only [Bool.and_eq_true,Bool.or_eq_true,decide_eq_true_eq] at h;exact h.1
 have un:Z0i ts=0:=by unfold Z0i; simp [ne Z46 (by simp),ne Z12 (by simp),ne Z1a (by simp)]
 have cn:Z0j ts=0:=by unfold Z0j; simp [ne Z2i (by simp),ne Z1o (by simp),ne Z37 (by simp),ne Z0k (by simp)]
 have pr:∀ f d t ts',Z0 f .primary d ts≠some (.ok (t,ts')):=by
  intro f d t ts' h1;cases f with
  | zero=>unfold Z0 at h1; cases h1
  | succ f =>
    unfold Z0 at h1;rw [Y3 (by omega),Y3 (by omega),Y3 (by omega),Y3 (by rw [cn]; simp),Y3 (by rw [ne Z0q (by simp)]; simp),Y3 (by rw [ne Z06 (by simp)]; simp),Y3 (by rw [ne Z0d (by simp)]; simp)] at h1;cases h1
 have po:∀ f d t ts',Z0 f .postfix_ d ts≠some (.ok (t,ts')):=by
  intro f d t ts' h1;cases f with
  | zero=>unfold Z0 at h1; cases h1
  | succ f=>unfold Z0 at h1; exact Z15 (pr f d) t ts' h1
 have ua:∀ f d t ts',Z0 f .unary d ts≠some (.ok (t,ts')):=by
  intro f d t ts' h1;cases f with
  | zero=>unfold Z0 at h1; cases h1
  | succ f=>unfold Z0 at h1; rw [Y5 un] at h1; exact po f d t ts' h1
 have bn:∀ f l d t ts',Z0 f (.bin l) d ts≠some (.ok (t,ts')):=by
  intro f;induction f with
  | zero=>intro l d t ts' h1; unfold Z0 at h1; cases h1
  | succ f ih =>
    intro l d t ts' h1;unfold Z0 at h1;split at h1;·exact ua f d t ts' h1
    ·exact Z15 (ih (l + 1) d) t ts' h1
 have va:∀ f d t ts',Z0 f .value d ts≠some (.ok (t,ts')):=by
  intro f d t ts' h1;cases f with
  | zero=>unfold Z0 at h1; cases h1
  | succ f =>
    unfold Z0 at h1;have h2:=Z61 h1;cases f with
    | zero=>unfold Z0 at h2; cases h2
    | succ f=>unfold Z0 at h2; exact Z15 (bn f 0 (d + 1)) t ts' h2
 intro f d t ts' h1;cases f with
 | zero=>unfold Z0 at h1; cases h1
 | succ f =>
   unfold Z0 at h1;simp only [ne Z0d (by simp),ne Zk (by simp),ne Z24 (by simp),ne Z7b (by simp),ne Z2y (by simp),ne Z06 (by simp),ne s_if (by simp),ne Z2v (by simp),ne Z49 (by simp),ne Z1y (by simp),ne Z2t (by simp),ne Z7e (by simp),Bool.false_eq_true,if_false] at h1;exact Z15 (va f d) t ts' h1
theorem Z4g {f d:Nat} {acc:List Tree} {ts ts':List Tok} {t:Tree} {s:ByteArray} (h:Z0 f (.stmts 1 acc) d ts=some (.ok (t,ts'))) (hs:s=Z3m∨s=Z16∨s=Zf):isT s ts=false:=by
 cases hi:isT s ts with
 | false=>rfl
 | true =>
   exfalso;cases f with
   | zero=>unfold Z0 at h; cases h
   | succ f =>
     unfold Z0 at h;simp only [if_true] at h;have hk:(hdT ts).kind≠6:=by
      unfold isT at hi;simp only [Bool.and_eq_true,Bool.or_eq_true,decide_eq_true_eq] at hi;omega
     rw [Y3 (by simpa using hk)] at h;exact Z15 (Z21 (Zau hi hs f (d + 1))) t ts' h
theorem Z73 (o:Nat) (ts:List Tok) (s:ByteArray):isT s (ts.map (Tok.shift o))=isT s ts:=by cases ts <;> rfl
theorem Zcm:∀ p:List Tok,A2 p p
 | []=>trivial
 | x :: p=>⟨⟨rfl,rfl,rfl⟩,Zcm p⟩
theorem Zam (o:Nat):∀ p:List Tok,A2 p (p.map (Tok.shift o))
 | []=>trivial
 | x :: p=>⟨⟨rfl,rfl,rfl⟩,Zam o p⟩
theorem Z4b {text:ByteArray} {t:Tree} (h:Zi text=.ok t):∃ l e ts',Z2j text=.ok (l ++ [e])∧e.kind=6∧K6 (l ++ [e])∧Z0 (40 * (l.length + 1) + 31) (.stmts 1 []) 0 (l ++ [e])=some (.ok (t,ts')):=by
 unfold Zi at h;split at h;·cases h
 ·split at h;·cases h
  ·rename_i ts hts;obtain ⟨⟨l, e, h1, h2, h3⟩, _, _⟩ := Z6w ts 0 (Yh _) (Z33 hts);subst h1;split at h;·cases h
   ·cases h
   ·rename_i t' ts' hp;split at h;·cases h
    ·have e1 : t' = t := by simpa using h
     subst e1;refine ⟨l,e,ts',hts,h2,?_,by simpa using hp⟩;unfold K6;rw [List.filter_append,List.filter_eq_nil_iff.2 (fun x hx=>by simpa using h3 x hx)];simp [List.filter_cons];split <;> simp
def Zbv (x y:Tree):Tree:=.mk 1 (if Z1i (x.kids ++ y.kids) then Z3i else ByteArray.empty) 0 (x.kids ++ y.kids)
theorem Z4q {a s b:ByteArray} {x y:Tree} (hs:s.size=1) (hb:Zn (Z2 s 0)=true) (ha:Zi a=.ok x) (hb2:Zi b=.ok y) :
 Zi (a ++ s ++ b)=if 3000 < (a ++ s ++ b).size then .error (4,-1) else if 1500 < (Zbv x y).many then .error (4,-1) else .ok (Zbv x y):=by
 obtain ⟨l,e,q1,h1,h2,h3,h4⟩:=Z4b ha;obtain ⟨m,e',q2,g1,g2,g3,g4⟩:=Z4b hb2;have hlex:=Zah hs hb h1 g1;obtain ⟨us,hus⟩:=zX ((m ++ [e']).map (Tok.shift (a.size + 1)))
 rw [← hus] at hlex;have n1:isT Z3m us=false:=by rw [hus,Z73]; exact Z4g g4 (.inl rfl)
 have n2:isT Z16 us=false:=by rw [hus,Z73]; exact Z4g g4 (.inr (.inl rfl))
 have n3:isT Zf us=false:=by rw [hus,Z73]; exact Z4g g4 (.inr (.inr rfl))
 have hul:us.length=m.length + 1:=by rw [hus]; simp
 obtain ⟨G,hG⟩:=zX (40 * (l ++ us).length + 31)
 have hGl:G=40 * (l.length + (m.length + 1)) + 31:=by rw [hG,Yi,hul]
 obtain ⟨ks,k1,k2,k3⟩:=Z7z h2 n1 n2 n3 _ G [] 0 (l ++ [e]) (l ++ us) x q1 (by omega) h3 ⟨l,l,rfl,rfl,Zcm l⟩ h4;have hE:Ex e' [e'.shift (a.size + 1)] (m ++ [e']) us:=⟨m,m.map (Tok.shift (a.size + 1)),rfl,by rw [hus,Yl]; rfl,Zam _ m⟩
 have z:∀ r,isT r [e'.shift (a.size + 1)]=false:=fun r=>Z1m (show (e'.shift (a.size + 1)).kind=6 from g2) r;obtain ⟨ms,m1,m2,m3⟩:=Z7z g2 (z _) (z _) (z _) _ (G - ks.length) [] 0 (m ++ [e']) us y q2 (by simp at k2; omega) g3 hE g4;simp only [List.length_append,List.length_singleton] at k2 m2;have hfin:Z0 G (.stmts 1 []) 0 (l ++ us)=some (.ok (.mk 1 (if Z1i (x.kids ++ y.kids) then Z3i else ByteArray.empty) 0 (x.kids ++ y.kids),[e'.shift (a.size + 1)])):=by
  rw [k3,m3];obtain ⟨g,hg⟩:∃ g,G - ks.length - ms.length=g + 1:=⟨G - ks.length - ms.length - 1,by omega⟩
  rw [hg];unfold Z0;simp only [if_true];rw [Y5 (by simp [hdT]; exact g2)];simp only [List.nil_append] at k1 m1 ⊢;rw [k1,m1];rfl
 unfold Zi;by_cases hz:3000 < (a ++ s ++ b).size;·rw [Y5 hz,Y5 hz]
 rw [Y3 hz,Y3 hz,hlex];simp only [← hG];rw [hfin];rfl
def Z3l (s:ByteArray):Prop:=1≤s.size∧s.size≤20∧Z01 (Z2 s 0)=true∧(∀ i,i < s.size→Z1g (Z2 s i)=true)∧Z1q s=false
def MAr (k:Int) (s:ByteArray) (l:List Tree):Prop:=k≠1∧(k=23→Z3l s∧l=[])
theorem MAr.any {k:Int} {s:ByteArray} {l:List Tree} (h:k≠1∧k≠23):MAr k s l:=⟨h.1,fun h'=>absurd h' h.2⟩
mutual
def MT:Tree→Prop
 | .mk k s _ l=>MAr k s l∧MTL l
def MTL:List Tree→Prop
 | []=>True
 | t :: l=>MT t∧MTL l
end
theorem Z6p {l m:List Tree} (h:MTL l) (g:MTL m):MTL (l ++ m):=by
 induction l with
 | nil=>exact g
 | cons x l ih=>exact ⟨h.1,ih h.2⟩
theorem MT.kids {t:Tree} (h:MT t):MTL t.kids:=by cases t; exact h.2
theorem MT.leaf {k:Int} {s:ByteArray} {n:Int} (h:k≠1∧k≠23):MT (.mk k s n []):=⟨MAr.any h,trivial⟩
theorem MT.nm {s:ByteArray} {n:Int} (h:Z3l s):MT (.mk 23 s n []):=⟨⟨by omega,fun _=>⟨h,rfl⟩⟩,trivial⟩
def GTn (ts:List Tok):Prop:=∀ t∈ts,t.kind=1→Z3l t.text
theorem GTn.tail {ts:List Tok} (h:GTn ts):GTn ts.tail:=fun t ht=>h t (List.mem_of_mem_tail ht)
theorem GTn.hd {ts:List Tok} (h:GTn ts) (hk:(hdT ts).kind=1):Z3l (hdT ts).text:=by
 cases ts with
 | nil=>simp [hdT] at hk
 | cons t l=>exact h t (by simp) hk
def Mh (P:Tree→Prop) (p:PR):Prop:=∀ t ts,p=some (.ok (t,ts))→P t∧GTn ts
theorem Mh.fail {P:Tree→Prop} {e:Int} {ts:List Tok}:Mh P (Z11 e ts):=by intro t ts' h; cases h
theorem Mh.none {P:Tree→Prop}:Mh P none:=by intro t ts' h; cases h
theorem Mh.err {P:Tree→Prop} {e:Int×Nat}:Mh P (some (.error e)):=by intro t ts' h; cases h
theorem Mh.ok {P:Tree→Prop} {t:Tree} {ts:List Tok} (h:P t) (g:GTn ts:=by first | assumption | exact GTn.tail (by assumption) | exact GTn.tail (GTn.tail (by assumption))):Mh P (okT t ts):=by
 intro t' ts' h';simp only [okT,Option.some.injEq,Except.ok.injEq,Prod.mk.injEq] at h';rw [← h'.1,← h'.2]; exact ⟨h,g⟩
theorem Mh.bind {P Q:Tree→Prop} {p:PR} {k:Tree→List Tok→PR} (hp:Mh P p) (hk:∀ t ts,P t→GTn ts→Mh Q (k t ts)):Mh Q (Zh p k):=by
 cases p with
 | none=>exact Mh.none
 | some r =>
   cases r with
   | error e=>exact Mh.err
   | ok x=>obtain ⟨t,ts⟩:=x; exact hk t ts (hp t ts rfl).1 (hp t ts rfl).2
theorem Mh.want {P:Tree→Prop} {s:ByteArray} {ts:List Tok} {k:List Tok→PR} (hk:GTn ts.tail→Mh P (k ts.tail)) (g:GTn ts:=by first | assumption | exact GTn.tail (by assumption) | exact GTn.tail (GTn.tail (by assumption))):Mh P (Z00 s ts k):=by
 unfold Z00;by_cases h:isT s ts=true;·rw [Y5 h]; exact hk g.tail
 ·rw [Y3 h]; exact Mh.fail
theorem Mh.name {P:Tree→Prop} {ts:List Tok} {k:ByteArray→List Tok→PR} (hk:∀ s,Z3l s→GTn ts.tail→Mh P (k s ts.tail)) (g:GTn ts:=by first | assumption | exact GTn.tail (by assumption) | exact GTn.tail (GTn.tail (by assumption))):Mh P (Z13 ts k):=by
 unfold Z13;by_cases h:(hdT ts).kind=1;·rw [Y5 h]; exact hk _ (g.hd h) g.tail
 ·rw [Y3 h]; exact Mh.fail
theorem Mh.within {P:Tree→Prop} {d:Nat} {ts:List Tok} {p:PR} (h:Mh P p):Mh P (Zj d ts p):=by
 unfold Zj;by_cases h':30 < d + 1;·rw [Y5 h']; exact Mh.fail
 ·rw [Y3 h']; exact h
theorem Mh.ite {P:Tree→Prop} {c:Prop} [Decidable c] {p q:PR} (hp:c→Mh P p) (hq:¬ c→Mh P q):Mh P (if c then p else q):=by
 by_cases h:c;·rw [Y5 h]; exact hp h
 ·rw [Y3 h]; exact hq h
theorem Mh.comma {P:Tree→Prop} {c:Prop} [Decidable c] {ts:List Tok} {k:List Tok→PR} (hk:∀ ts',GTn ts'→Mh P (k ts')) (g:GTn ts:=by first | assumption | exact GTn.tail (by assumption) | exact GTn.tail (GTn.tail (by assumption))):Mh P ((if c then Z00 Z07 ts else fun k=>k ts) k):=by
 by_cases h:c;·rw [Y5 h]; exact Mh.want (hk _)
 ·rw [Y3 h]; exact hk _ g
theorem Mh.end' {P:Tree→Prop} {t:Tree} {ts:List Tok} (h:P t) (g:GTn ts:=by first | assumption | exact GTn.tail (by assumption) | exact GTn.tail (GTn.tail (by assumption))):Mh P (endT t ts):=Mh.want fun _=>Mh.ok h
theorem Mh.weak {P Q:Tree→Prop} {p:PR} (h:Mh P p) (g:∀ t,P t→Q t):Mh Q p:=fun t ts e=>⟨g t (h t ts e).1,(h t ts e).2⟩
def Job.resN:Job→Tree→Prop
 | .stmts kind _=>fun t=>MTL t.kids∧t.kind=kind
 | .block _=>fun t=>MT t∧t.kind=6
 | _=>MT
def Job.goodN:Job→Prop
 | .stmts kind acc=>(kind=1∨kind=6)∧MTL acc
 | .func kind _=>kind=5∨kind=37
 | .params acc=>MTL acc
 | .decl kind _=>kind=2∨kind=3∨kind=4
 | .binLoop _ x=>MT x
 | .postLoop x=>MT x
 | .args acc=>MTL acc∧acc≠[]
 | .object acc=>MTL acc
 | _=>True
theorem Zdn (lv:Nat) (ts:List Tok):Z03 lv ts=0∨(25≤Z03 lv ts∧Z03 lv ts≤31):=by
 unfold Z03;split <;> (try split) <;> (try split) <;> omega
theorem Zcn (ts:List Tok):Z0i ts=0∨(32≤Z0i ts∧Z0i ts≤34):=by
 unfold Z0i;split <;> (try split) <;> (try split) <;> omega
theorem Zd8 (ts:List Tok):Z0j ts=0∨(19≤Z0j ts∧Z0j ts≤22):=by
 unfold Z0j;split <;> (try split) <;> (try split) <;> (try split) <;> omega
theorem Z97 {k:Int} {s:ByteArray} {n:Int} {x y:Tree} (hx:MT x) (hy:MT y) (h:k≠1∧k≠23):MT (.mk k s n [x,y]):=⟨MAr.any h,hx,hy,trivial⟩
theorem Z4w {k:Int} {s:ByteArray} {n:Int} {x:Tree} (hx:MT x) (h:k≠1∧k≠23):MT (.mk k s n [x]):=⟨MAr.any h,hx,trivial⟩
theorem Z66 {k:Int} {s:ByteArray} {n:Int} {l:List Tree} (hx:MTL l) (h:k≠1∧k≠23):MT (.mk k s n l):=⟨MAr.any h,hx⟩
theorem Z9l:∀ (f:Nat) (job:Job) (d:Nat) (ts:List Tok),job.goodN→GTn ts→Mh job.resN (Z0 f job d ts):=by
 intro f;induction f with
 | zero=>intro job d ts _ _; unfold Z0; exact Mh.none
 | succ f ih =>
   intro job d ts hg g0;cases job with
   | stmts kind acc =>
     unfold Z0;show Mh (fun t=>MTL t.kids∧t.kind=kind) _;refine Mh.ite (fun _=>Mh.ok ⟨hg.2,rfl⟩) fun _=>?_;exact Mh.bind (Mh.within (ih .stmt _ _ trivial (by first | assumption | exact GTn.tail (by assumption) | exact GTn.tail (GTn.tail (by assumption))))) fun t ts' h _=>ih _ _ _ ⟨hg.1,Z6p hg.2 ⟨h,trivial⟩⟩ (by first | assumption | exact GTn.tail (by assumption) | exact GTn.tail (GTn.tail (by assumption)))
   | block body =>
     unfold Z0;refine Mh.want (fun _=>Mh.bind (ih (.stmts 6 []) _ _ ⟨.inr rfl,trivial⟩ (by first | assumption | exact GTn.tail (by assumption) | exact GTn.tail (GTn.tail (by assumption)))) fun t ts' h' _=>Mh.want (fun _=>Mh.ok ?_));show MT _∧_;by_cases hb:body=true
     ·rw [Y5 hb];refine ⟨?_,h'.2⟩;obtain ⟨k,s,n,l⟩:=t;have hk:k=6:=h'.2;exact ⟨MAr.any (by omega),h'.1⟩
     ·rw [Y3 hb]; exact ⟨Z66 h'.1 (by omega),rfl⟩
   | func kind text =>
     unfold Z0;show Mh MT _;exact Mh.want (fun _=>Mh.bind (ih (.params []) _ _ trivial (by first | assumption | exact GTn.tail (by assumption) | exact GTn.tail (GTn.tail (by assumption)))) fun t ts' h' _=>Mh.want (fun _=>Mh.bind (ih (.block true) _ _ trivial (by first | assumption | exact GTn.tail (by assumption) | exact GTn.tail (GTn.tail (by assumption)))) fun t ts' h3 _=>Mh.ok ⟨MAr.any (by have:kind=5∨kind=37:=hg; omega),h',h3.1,trivial⟩))
   | params acc =>
     unfold Z0;show Mh MT _;refine Mh.ite (fun _=>Mh.ok (Z66 hg (by omega))) fun _=>?_;exact Mh.comma fun ts' _=>Mh.ite (fun _=>Mh.fail) fun _=>Mh.name fun s hs _=>ih _ _ _ (Z6p hg ⟨MT.nm hs,trivial⟩) (by first | assumption | exact GTn.tail (by assumption) | exact GTn.tail (GTn.tail (by assumption)))
   | around =>
     unfold Z0;show Mh MT _;exact Mh.want (fun _=>Mh.bind (ih .value _ _ trivial (by first | assumption | exact GTn.tail (by assumption) | exact GTn.tail (GTn.tail (by assumption)))) fun t ts' h' _=>Mh.want (fun _=>Mh.ok h'))
   | stmt =>
     unfold Z0;show Mh MT _;refine Mh.ite (fun h=>(ih (.block false) _ _ trivial (by first | assumption | exact GTn.tail (by assumption) | exact GTn.tail (GTn.tail (by assumption)))).weak fun _ h=>h.1) fun _=>?_;refine Mh.ite (fun h=>Mh.ok (MT.leaf (by omega))) fun _=>?_;refine Mh.ite (fun h=>Mh.bind (ih (.decl 2 false) _ _ (.inl rfl) (by first | assumption | exact GTn.tail (by assumption) | exact GTn.tail (GTn.tail (by assumption)))) fun t us h2 _=>Mh.end' h2) fun _=>?_
     refine Mh.ite (fun h=>Mh.bind (ih (.decl 3 false) _ _ (.inr (.inl rfl)) (by first | assumption | exact GTn.tail (by assumption) | exact GTn.tail (GTn.tail (by assumption)))) fun t us h2 _=>Mh.end' h2) fun _=>?_;refine Mh.ite (fun h=>Mh.bind (ih (.decl 4 true) _ _ (.inr (.inr rfl)) (by first | assumption | exact GTn.tail (by assumption) | exact GTn.tail (GTn.tail (by assumption)))) fun t us h2 _=>Mh.end' h2) fun _=>?_
     refine Mh.ite (fun h=>Mh.name fun s hs _=>ih _ _ _ (.inl rfl) (by first | assumption | exact GTn.tail (by assumption) | exact GTn.tail (GTn.tail (by assumption)))) fun _=>?_
     refine Mh.ite (fun h=>Mh.bind (ih .around _ _ trivial (by first | assumption | exact GTn.tail (by assumption) | exact GTn.tail (GTn.tail (by assumption)))) fun x us h2 _=>Mh.bind (Mh.within (ih .stmt _ _ trivial (by first | assumption | exact GTn.tail (by assumption) | exact GTn.tail (GTn.tail (by assumption))))) fun y vs h3 _=>Mh.ite (fun h4=>Mh.bind (Mh.within (ih .stmt _ _ trivial (by first | assumption | exact GTn.tail (by assumption) | exact GTn.tail (GTn.tail (by assumption))))) fun z xs h5 _=>Mh.ok ⟨MAr.any (by omega),h2,h3,h5,trivial⟩) fun _=>Mh.ok (Z97 h2 h3 (by omega))) fun _=>?_
     refine Mh.ite (fun h=>Mh.bind (ih .around _ _ trivial (by first | assumption | exact GTn.tail (by assumption) | exact GTn.tail (GTn.tail (by assumption)))) fun t us h2 _=>Mh.bind (Mh.within (ih .stmt _ _ trivial (by first | assumption | exact GTn.tail (by assumption) | exact GTn.tail (GTn.tail (by assumption))))) fun t vs h3 _=>Mh.ok (Z97 h2 h3 (by omega))) fun _=>?_
     refine Mh.ite (fun h=>Mh.bind (ih .around _ _ trivial (by first | assumption | exact GTn.tail (by assumption) | exact GTn.tail (GTn.tail (by assumption)))) fun t us h2 _=>Mh.bind (Mh.within (ih .stmt _ _ trivial (by first | assumption | exact GTn.tail (by assumption) | exact GTn.tail (GTn.tail (by assumption))))) fun t vs h3 _=>Mh.ok (Z97 h2 h3 (by omega))) fun _=>?_
     refine Mh.ite (fun h=>Mh.ite (fun h1=>Mh.end' (MT.leaf (by omega))) (fun _=>Mh.bind (ih .value _ _ trivial (by first | assumption | exact GTn.tail (by assumption) | exact GTn.tail (GTn.tail (by assumption)))) fun t us h2 _=>Mh.end' (Z4w h2 (by omega)))) fun _=>?_;refine Mh.ite (fun h=>Mh.bind (ih .value _ _ trivial (by first | assumption | exact GTn.tail (by assumption) | exact GTn.tail (GTn.tail (by assumption)))) fun t us h2 _=>Mh.end' (Z4w h2 (by omega))) fun _=>?_
     refine Mh.ite (fun h=>ih _ _ _ trivial (by first | assumption | exact GTn.tail (by assumption) | exact GTn.tail (GTn.tail (by assumption)))) fun _=>?_;exact Mh.bind (ih .value _ _ trivial (by first | assumption | exact GTn.tail (by assumption) | exact GTn.tail (GTn.tail (by assumption)))) fun t us h2 _=>Mh.end' (Z4w h2 (by omega))
   | decl kind must =>
     have hk:kind=2∨kind=3∨kind=4:=hg;unfold Z0;show Mh MT _;exact Mh.name fun s hs _=>Mh.ite (fun _=>Mh.fail) fun _=>Mh.ite (fun h2=>Mh.bind (ih .value _ _ trivial (by first | assumption | exact GTn.tail (by assumption) | exact GTn.tail (GTn.tail (by assumption)))) fun t us h3 _=>Mh.ok (Z4w h3 (by omega))) fun _=>Mh.ok (MT.leaf (by omega))
   | try_ =>
     unfold Z0;show Mh MT _;refine Mh.bind (ih (.block false) _ _ trivial (by first | assumption | exact GTn.tail (by assumption) | exact GTn.tail (GTn.tail (by assumption)))) fun b us h _=>?_;have hk:∀ (l:List Tree) (vs:List Tok),MTL l→GTn vs→Mh MT (if isT Zf vs then Zh (Z0 f (.block false) d vs.tail) fun c ts=>okT (.mk 12 ByteArray.empty 0 (l ++ [.mk 14 ByteArray.empty 0 [c]])) ts else if l.length=1 then Z11 3 vs else okT (.mk 12 ByteArray.empty 0 l) vs):=by
      intro l vs h2 _;exact Mh.ite (fun _=>Mh.bind (ih (.block false) _ _ trivial (by first | assumption | exact GTn.tail (by assumption) | exact GTn.tail (GTn.tail (by assumption)))) fun t xs h3 _=>Mh.ok (Z66 (Z6p h2 ⟨Z4w h3.1 (by omega),trivial⟩) (by omega))) fun _=>Mh.ite (fun _=>Mh.fail) fun _=>Mh.ok (Z66 h2 (by omega))
     refine Mh.ite (fun h1=>?_) fun _=>hk _ _ ⟨h.1,trivial⟩ (by first | assumption | exact GTn.tail (by assumption) | exact GTn.tail (GTn.tail (by assumption)));exact Mh.want (fun _=>Mh.name fun s hs _=>Mh.want (fun _=>Mh.bind (ih (.block false) _ _ trivial (by first | assumption | exact GTn.tail (by assumption) | exact GTn.tail (GTn.tail (by assumption)))) fun c vs h5 _=>hk _ _ ⟨h.1,Z4w h5.1 (by omega),trivial⟩ (by first | assumption | exact GTn.tail (by assumption) | exact GTn.tail (GTn.tail (by assumption)))))
   | value=>unfold Z0; exact Mh.within (ih _ _ _ trivial (by first | assumption | exact GTn.tail (by assumption) | exact GTn.tail (GTn.tail (by assumption))))
   | assign =>
     unfold Z0;show Mh MT _;exact Mh.bind (ih (.bin 0) _ _ trivial (by first | assumption | exact GTn.tail (by assumption) | exact GTn.tail (GTn.tail (by assumption)))) fun x us h _=>Mh.ite (fun h1=>Mh.ite (fun _=>Mh.bind (ih .value _ _ trivial (by first | assumption | exact GTn.tail (by assumption) | exact GTn.tail (GTn.tail (by assumption)))) fun y vs h2 _=>Mh.ok (Z97 h h2 (by omega))) fun _=>Mh.err) fun _=>Mh.ok h
   | bin level =>
     unfold Z0;show Mh MT _;exact Mh.ite (fun _=>ih _ _ _ trivial (by first | assumption | exact GTn.tail (by assumption) | exact GTn.tail (GTn.tail (by assumption)))) fun _=>Mh.bind (ih (.bin (level + 1)) _ _ trivial (by first | assumption | exact GTn.tail (by assumption) | exact GTn.tail (GTn.tail (by assumption)))) fun x us h _=>ih _ _ _ h (by first | assumption | exact GTn.tail (by assumption) | exact GTn.tail (GTn.tail (by assumption)))
   | binLoop level x =>
     unfold Z0;show Mh MT _;exact Mh.ite (fun _=>Mh.ok hg) fun h0=>Mh.bind (ih (.bin (level + 1)) _ _ trivial (by first | assumption | exact GTn.tail (by assumption) | exact GTn.tail (GTn.tail (by assumption)))) fun y us h _=>ih _ _ _ (show Job.goodN (.binLoop level (.mk (Z03 level ts) ByteArray.empty 0 [x,y])) from Z97 (s:=ByteArray.empty) (n:=0) hg h (by have:=Zdn level ts; omega)) (by first | assumption | exact GTn.tail (by assumption) | exact GTn.tail (GTn.tail (by assumption)))
   | unary =>
     unfold Z0;show Mh MT _;exact Mh.ite (fun _=>ih _ _ _ trivial (by first | assumption | exact GTn.tail (by assumption) | exact GTn.tail (GTn.tail (by assumption)))) fun h0=>Mh.bind (Mh.within (ih .unary _ _ trivial (by first | assumption | exact GTn.tail (by assumption) | exact GTn.tail (GTn.tail (by assumption))))) fun x us h _=>Mh.ok (Z4w h (by have:=Zcn ts; omega))
   | postfix_ =>
     unfold Z0;show Mh MT _;exact Mh.bind (ih .primary _ _ trivial (by first | assumption | exact GTn.tail (by assumption) | exact GTn.tail (GTn.tail (by assumption)))) fun x us h _=>ih _ _ _ h (by first | assumption | exact GTn.tail (by assumption) | exact GTn.tail (GTn.tail (by assumption)))
   | postLoop x =>
     unfold Z0;show Mh MT _;exact Mh.ite (fun _=>Mh.name fun s hs _=>ih _ _ _ (show Job.goodN (.postLoop (.mk 36 s 0 [x])) from Z4w (s:=s) (n:=0) hg (by omega)) (by first | assumption | exact GTn.tail (by assumption) | exact GTn.tail (GTn.tail (by assumption)))) fun _=>Mh.ite (fun _=>Mh.bind (ih (.args [x]) _ _ ⟨⟨hg,trivial⟩,by simp⟩ (by first | assumption | exact GTn.tail (by assumption) | exact GTn.tail (GTn.tail (by assumption)))) fun n us h _=>ih _ _ _ h (by first | assumption | exact GTn.tail (by assumption) | exact GTn.tail (GTn.tail (by assumption)))) fun _=>Mh.ok hg
   | args acc =>
     unfold Z0;show Mh MT _;refine Mh.ite (fun _=>Mh.ok ⟨MAr.any (by omega),hg.1⟩) fun _=>?_;exact Mh.comma fun ts' _=>Mh.ite (fun _=>Mh.fail) fun _=>Mh.bind (ih .value _ _ trivial (by first | assumption | exact GTn.tail (by assumption) | exact GTn.tail (GTn.tail (by assumption)))) fun v us h _=>ih _ _ _ ⟨Z6p hg.1 ⟨h,trivial⟩,by simp⟩ (by first | assumption | exact GTn.tail (by assumption) | exact GTn.tail (GTn.tail (by assumption)))
   | primary =>
     unfold Z0;show Mh MT _;refine Mh.ite (fun h=>Mh.ok (MT.nm (g0.hd h))) fun _=>?_;refine Mh.ite (fun h=>Mh.ok (MT.leaf (by omega))) fun _=>?_;refine Mh.ite (fun h=>Mh.ok (MT.leaf (by omega))) fun _=>?_;refine Mh.ite (fun h=>Mh.ok (MT.leaf (by have:=Zd8 ts; omega))) fun _=>?_;refine Mh.ite (fun h=>ih _ _ _ trivial (by first | assumption | exact GTn.tail (by assumption) | exact GTn.tail (GTn.tail (by assumption)))) fun _=>?_
     refine Mh.ite (fun h=>Mh.ite (fun _=>ih _ _ _ (.inr rfl) (by first | assumption | exact GTn.tail (by assumption) | exact GTn.tail (GTn.tail (by assumption)))) fun _=>ih _ _ _ (.inr rfl) (by first | assumption | exact GTn.tail (by assumption) | exact GTn.tail (GTn.tail (by assumption)))) fun _=>?_;exact Mh.ite (fun h=>ih _ _ _ trivial (by first | assumption | exact GTn.tail (by assumption) | exact GTn.tail (GTn.tail (by assumption)))) fun _=>Mh.fail
   | object acc =>
     unfold Z0;show Mh MT _;refine Mh.ite (fun _=>Mh.ok (Z66 hg (by omega))) fun _=>?_;exact Mh.comma fun ts' _=>Mh.ite (fun _=>Mh.fail) fun _=>Mh.name fun s hs _=>Mh.want (fun _=>Mh.bind (ih .value _ _ trivial (by first | assumption | exact GTn.tail (by assumption) | exact GTn.tail (GTn.tail (by assumption)))) fun v us h _=>ih _ _ _ (Z6p hg ⟨Z4w h (by omega),trivial⟩) (by first | assumption | exact GTn.tail (by assumption) | exact GTn.tail (GTn.tail (by assumption))))
theorem Zed {text:ByteArray} {j k:Nat} {t:Tok} (hj:j < text.size) (h:Z0g text j=.ok (t,k)):t.kind=1→Z3l t.text:=by
 intro h1;unfold Z0g at h;simp only at h;split at h
 ·rename_i hl;obtain ⟨K, hK⟩ : ∃ K, Z9 Z1g text (text.size - j) j = K := ⟨_, rfl⟩
  obtain ⟨s1,s2,s3,s4⟩:=Z02 Z1g text (text.size - j) j (Y0 _) (by omega);rw [hK] at h s1 s2 s3 s4;have hjK:j < K:=by
   rcases Nat.lt_or_ge j K with h' | h';·exact h'
   ·have:=s4 (by omega);rw [show K=j by omega,Z2m hl] at this;cases this
  split at h
  ·simp only [Except.ok.injEq,Prod.mk.injEq] at h;obtain ⟨rfl,_⟩:=h;simp at h1
  ·rename_i hw;split at h;·cases h
   ·simp only [Except.ok.injEq, Prod.mk.injEq] at h;obtain ⟨rfl, rfl⟩ := h;have hs := Z1s text (j := j) s2;refine ⟨by rw [hs]; omega, by rw [hs]; omega, ?_, fun i hi => ?_, by simpa using hw⟩;·rw [Za text (by omega) s2, Nat.add_zero]; exact hl
    ·rw [hs] at hi;rw [Za text hi s2];exact s3 _ (by omega) (by omega)
 ·exfalso;split at h
  ·split at h;·cases h
   ·split at h;·cases h
    ·simp only [Except.ok.injEq,Prod.mk.injEq] at h;obtain ⟨rfl,_⟩:=h;simp at h1
  ·split at h
   ·split at h;·cases h
    ·split at h;·cases h
     ·simp only [Except.ok.injEq,Prod.mk.injEq] at h;obtain ⟨rfl,_⟩:=h;simp at h1
   ·split at h;·cases h
    ·simp only [Except.ok.injEq,Prod.mk.injEq] at h;obtain ⟨rfl,_⟩:=h;simp at h1
theorem Zep {text:ByteArray}:∀ (r:List Tok) (i:Nat),i≤text.size→Z3y text i r→GTn r:=by
 intro r;induction r with
 | nil=>intro i _ h; exact h.elim
 | cons t r ih =>
   intro i hi h;cases r with
   | nil =>
     obtain ⟨h1,h2⟩:=h;intro x hx;simp only [List.mem_singleton] at hx;subst hx;rw [h2];exact fun h=>by simp at h
   | cons u r =>
     obtain ⟨k,h1,h2,h3⟩:=h;obtain ⟨c1,c2,_⟩:=Z0o text h1 h2;intro x hx;rcases List.mem_cons.1 hx with rfl | hx;·exact Zed h1 h2
     ·exact ih k c2 h3 x hx
theorem Z30 {text:ByteArray} {t:Tree} (h:Zi text=.ok t):MTL t.kids∧t.kind=1:=by
 unfold Zi at h;split at h;·cases h
 ·split at h;·cases h
  ·rename_i ts _;split at h;·cases h
   ·cases h
   ·rename_i t' ts' hp;split at h;·cases h
    ·have e : t' = t := by simpa using h
     subst e;exact (Z9l _ _ _ _ (show Job.goodN (.stmts 1 []) from ⟨.inl rfl,trivial⟩) (Zep _ _ (Yh _) (Z33 (by assumption))) _ _ hp).1
def s_sp:ByteArray:=⟨#[32]⟩
def Z79 (s:ByteArray):ByteArray:=Z24 ++ s_sp ++ (s ++ Zk)
theorem Zel {s:ByteArray} (h:Z3l s):Z2j (s ++ Zk)=.ok [⟨1,s,0,0⟩,⟨5,Zk,0,s.size⟩,⟨6,ByteArray.empty,0,s.size + 1⟩]:=by
 obtain ⟨h1,h2,h3,h4,h5⟩:=h;have sz:(s ++ Zk).size=s.size + 1:=by rw [ByteArray.size_append]; rfl
 have get:∀ i,i < s.size→Z2 (s ++ Zk) i=Z2 s i:=fun i hi=>by
  have hd:i < s.data.size:=hi;unfold Z2;simp only [ByteArray.data_append,Array.getD_eq_getD_getElem?];rw [Array.getElem?_append,Y5 hd]
 have last:Z2 (s ++ Zk) s.size=59:=by
  have hd:s.data.size=s.size:=rfl;unfold Z2;simp only [ByteArray.data_append,Array.getD_eq_getD_getElem?];rw [Array.getElem?_append,Y3 (by omega),hd,Nat.sub_self];rfl
 have cut1:(s ++ Zk).extract 0 s.size=s:=by
  apply ByteArray.ext;rw [ByteArray.data_extract,ByteArray.data_append];have hd:s.data.size=s.size:=rfl;simp [Array.extract_append,hd]
 have cut2:(s ++ Zk).extract s.size (s.size + 1)=Zk:=by
  apply ByteArray.ext;rw [ByteArray.data_extract,ByteArray.data_append];have hd:s.data.size=s.size:=rfl;simp only [Array.extract_append,hd,Nat.sub_self,Nat.add_sub_cancel_left];rw [show s.data.extract s.size (s.size + 1)=#[] from by simp [Array.extract_eq_empty_iff,hd]];rfl
 have b0:Z9 Zn (s ++ Zk) ((s ++ Zk).size - 0) 0=0:=Z0t _ _ _ _ _ (by omega) (Y0 _) (by omega) (fun m a b=>by omega) (fun _=>by rw [get 0 (by omega)]; exact Z0n (Z2m h3));have b1:Z9 Zn (s ++ Zk) ((s ++ Zk).size - s.size) s.size=s.size:=Z0t _ _ _ _ _ (by omega) (Y0 _) (by omega) (fun m a b=>by omega) (fun _=>by rw [last]; rfl);have b2:Z9 Zn (s ++ Zk) ((s ++ Zk).size - (s.size + 1)) (s.size + 1)=s.size + 1:=Z0t _ _ _ _ _ (by omega) (Y0 _) (by omega) (fun m a b=>by omega) (fun h=>by omega)
 have w0:Z9 Z1g (s ++ Zk) ((s ++ Zk).size - 0) 0=s.size:=Z0t _ _ _ _ _ (by omega) (by omega) (by omega) (fun m a b=>by rw [get m b]; exact h4 m b) (fun _=>by rw [last]; rfl);have t0:Z0g (s ++ Zk) 0=.ok (⟨1,s,0,0⟩,s.size):=by
  unfold Z0g;rw [get 0 (by omega),Y5 h3];simp only [w0,cut1];rw [Y3 (by rw [h5]; simp),Y3 (by omega)]
 have t1:Z0g (s ++ Zk) s.size=.ok (⟨5,Zk,0,s.size⟩,s.size + 1):=by
  have e:Zl (s ++ Zk) s.size=1:=by unfold Zl; rw [last]; rfl
  unfold Z0g;rw [last,e,Y3 (by decide),Y3 (by decide),Y3 (by decide),Y3 (by decide),cut2]
 have hS:Z3y (s ++ Zk) 0 [⟨1,s,0,0⟩,⟨5,Zk,0,s.size⟩,⟨6,ByteArray.empty,0,s.size + 1⟩]:=by
  refine ⟨s.size,by rw [b0]; omega,by rw [b0]; exact t0,s.size + 1,by rw [b1]; omega,by rw [b1]; exact t1,?_,?_⟩;·rw [b2]; omega
  ·rw [b2]
 have:=Z8k _ _ ((s ++ Zk).size + 1) 0 [] (Yh _) (by omega) hS;simpa [Z2j] using this
theorem Zf6:Z2j Z24=.ok ([⟨2,Z24,0,0⟩] ++ [⟨6,ByteArray.empty,0,3⟩]):=by kernel_rfl
def varT (s:ByteArray):Tree:=.mk 2 s 0 []
theorem Z6s (s:ByteArray):(Z79 s).size=s.size + 5:=by
 unfold Z79;simp only [ByteArray.size_append];have h1:Z24.size=3:=rfl;have h2:s_sp.size=1:=rfl;have h3:Zk.size=1:=rfl;omega
theorem Z7w {s:ByteArray} (h:Z3l s):Zi (Z79 s)=.ok (.mk 1 ByteArray.empty 0 [varT s]):=by
 have hl:Z2j (Z79 s)=.ok [⟨2,Z24,0,0⟩,⟨1,s,0,4⟩,⟨5,Zk,0,4 + s.size⟩,⟨6,ByteArray.empty,0,4 + (s.size + 1)⟩]:=by
  have:=Zah (s:=s_sp) rfl (by decide) Zf6 (Zel h);exact this
 have hz:=Z6s s;have h2:=h.2.1;unfold Zi;rw [Y3 (by omega),hl];simp only [List.length_cons,List.length_nil,Nat.zero_add,Nat.reduceAdd,Nat.reduceMul];have hp:∀ g,Z0 (g + 4) (.stmts 1 []) 0 [⟨2,Z24,0,0⟩,⟨1,s,0,4⟩,⟨5,Zk,0,4 + s.size⟩,⟨6,ByteArray.empty,0,4 + (s.size + 1)⟩]=some (.ok (.mk 1 ByteArray.empty 0 [varT s],[⟨6,ByteArray.empty,0,4 + (s.size + 1)⟩])):=by
  intro g;have d1:∀ r,r≠Z24→isT r [⟨2,Z24,0,0⟩,⟨1,s,0,4⟩,⟨5,Zk,0,4 + s.size⟩,⟨6,ByteArray.empty,0,4 + (s.size + 1)⟩]=false:=fun r hr=>by
   simp [isT,hdT,Z0r];exact fun e=>hr e.symm
  have d2:isT Z24 [⟨2,Z24,0,0⟩,⟨1,s,0,4⟩,⟨5,Zk,0,4 + s.size⟩,⟨6,ByteArray.empty,0,4 + (s.size + 1)⟩]=true:=by simp [isT,hdT,Z0r]
  have ne:∀ (a b:ByteArray),a.data.toList≠b.data.toList→a≠b:=fun a b h e=>h (by rw [e]);have d3:isT s_eq [⟨5,Zk,0,4 + s.size⟩,⟨6,ByteArray.empty,0,4 + (s.size + 1)⟩]=false:=by
   simp [isT,hdT,Z0r,ne Zk s_eq (by decide)]
  have d4:isT Zk [⟨5,Zk,0,4 + s.size⟩,⟨6,ByteArray.empty,0,4 + (s.size + 1)⟩]=true:=by simp [isT,hdT,Z0r]
  have hd:Z0 (g + 2) (.decl 2 false) 1 [⟨1,s,0,4⟩,⟨5,Zk,0,4 + s.size⟩,⟨6,ByteArray.empty,0,4 + (s.size + 1)⟩]=okT (varT s) [⟨5,Zk,0,4 + s.size⟩,⟨6,ByteArray.empty,0,4 + (s.size + 1)⟩]:=by
   unfold Z0;simp [Z13,hdT,d3,varT]
  have hs:Z0 (g + 3) .stmt 1 [⟨2,Z24,0,0⟩,⟨1,s,0,4⟩,⟨5,Zk,0,4 + s.size⟩,⟨6,ByteArray.empty,0,4 + (s.size + 1)⟩]=okT (varT s) [⟨6,ByteArray.empty,0,4 + (s.size + 1)⟩]:=by
   unfold Z0;rw [d1 Z0d (ne _ _ (by decide)),d1 Zk (ne _ _ (by decide)),d2];simp only [Bool.false_eq_true,if_false,if_true,List.tail_cons,hd];simp [Zh,okT,endT,Z00,d4]
  have he:Z0 (g + 3) (.stmts 1 [varT s]) 0 [⟨6,ByteArray.empty,0,4 + (s.size + 1)⟩]=some (.ok (.mk 1 ByteArray.empty 0 [varT s],[⟨6,ByteArray.empty,0,4 + (s.size + 1)⟩])):=by
   unfold Z0;simp [hdT,okT,Z1i,varT]
  conv=>lhs; unfold Z0
  simp only [if_true,hdT,List.headD_cons];rw [Y3 (by simp)];simp only [Zj,Nat.zero_add];rw [Y3 (by omega),hs];simp only [okT,Zh,List.nil_append];exact he
 rw [show (191:Nat)=187 + 4 from rfl,hp 187];simp only;rw [Y3 (by simp [Tree.many,Z1t,varT])]
def Z4s:List ByteArray→ByteArray
 | []=>ByteArray.empty
 | s :: l=>l.foldl (fun a s=>a ++ s_sp ++ Z79 s) (Z79 s)
theorem Z84 (l:List ByteArray) (s:ByteArray) (h:l≠[]):Z4s (l ++ [s])=Z4s l ++ s_sp ++ Z79 s:=by
 cases l with
 | nil=>exact absurd rfl h
 | cons x l=>simp [Z4s,List.foldl_append]
theorem Zaw (l:List ByteArray):Z1t (l.map varT)=l.length:=by
 induction l with
 | nil=>rfl
 | cons s l ih=>simp only [List.map_cons,Z1t,ih,List.length_cons,varT,Tree.many]; omega
theorem Z5o {l:List ByteArray} (h:l≠[]) (m:List Tree):Z1i (l.map varT ++ m)=false:=by
 cases l with
 | nil=>exact absurd rfl h
 | cons s l=>rfl
theorem Zbp:∀ (n:Nat) (l:List ByteArray),l.length=n→l≠[]→(∀ s∈l,Z3l s)→(Z4s l).size≤3000→Zi (Z4s l)=.ok (.mk 1 ByteArray.empty 0 (l.map varT))∧6 * l.length≤(Z4s l).size:=by
 intro n;induction n with
 | zero=>intro l hn h; exact absurd (List.length_eq_zero_iff.1 hn) h
 | succ n ih =>
   intro l hn h hp hz;obtain ⟨m,s,rfl⟩:∃ m s,l=m ++ [s]:=⟨l.dropLast,l.getLast h,(List.dropLast_concat_getLast h).symm⟩
   by_cases hm:m=[]
   ·subst hm;simp only [List.nil_append,Z4s,List.foldl_nil] at hz ⊢;exact ⟨Z7w (hp s (by simp)),by rw [Z6s]; have:=(hp s (by simp)).1; simp; omega⟩
   ·have e := Z84 m s hm;rw [e] at hz ⊢;have hsz : (Z4s m ++ s_sp ++ Z79 s).size = (Z4s m).size + 1 + (s.size + 5) := by rw [ByteArray.size_append, ByteArray.size_append, Z6s]; rfl
    have hml:m.length=n:=by simpa using hn
    obtain ⟨i1,i2⟩:=ih m hml hm (fun x hx=>hp x (by simp [hx])) (by omega);refine ⟨?_,by rw [hsz]; have:=(hp s (by simp)).1; simp; omega⟩;rw [Z4q (s:=s_sp) rfl (by decide) i1 (Z7w (hp s (by simp))),Y3 (by omega)];have hj:Zbv (.mk 1 ByteArray.empty 0 (m.map varT)) (.mk 1 ByteArray.empty 0 [varT s])=.mk 1 ByteArray.empty 0 ((m ++ [s]).map varT):=by
     unfold Zbv;simp only [Tree.kids,Z5o hm,List.map_append,Bool.false_eq_true,if_false];rfl
    rw [hj,Y3 (by simp only [Tree.many,Zaw,List.length_append,List.length_singleton]; omega)]
theorem Zap {text:ByteArray} {y:Tree} (hy:Zi text=.ok y) {l:List ByteArray} (h:l≠[]) (hp:∀ s∈l,Z3l s) (hz:(Z4s l ++ s_sp ++ text).size≤3000) :
 Zi (Z4s l ++ s_sp ++ text)=(if 1500 < (Tree.mk 1 ByteArray.empty 0 (l.map varT ++ y.kids)).many then .error (4,-1) else .ok (.mk 1 ByteArray.empty 0 (l.map varT ++ y.kids))):=by
 have hv:(Z4s l).size≤3000:=by rw [ByteArray.size_append,ByteArray.size_append] at hz; omega
 obtain ⟨h1,_⟩:=Zbp _ l rfl h hp hv;rw [Z4q (s:=s_sp) rfl (by decide) h1 hy,Y3 (by omega)];have hj:Zbv (.mk 1 ByteArray.empty 0 (l.map varT)) y=.mk 1 ByteArray.empty 0 (l.map varT ++ y.kids):=by
  unfold Zbv;simp only [Tree.kids,Z5o h,Bool.false_eq_true,if_false]
 rw [hj]
def Z39 (l:List ByteArray):ByteArray:=l.foldl (fun a s=>a ++ (Z24 ++ s_sp ++ s ++ (Zk ++ s_sp))) ByteArray.empty
theorem Z80 (l:List ByteArray) (s:ByteArray):Z39 (l ++ [s])=Z39 l ++ (Z24 ++ s_sp ++ s ++ (Zk ++ s_sp)):=by simp [Z39,List.foldl_append]
theorem Zbw:∀ (n:Nat) (l:List ByteArray),l.length=n→l≠[]→Z39 l=Z4s l ++ s_sp:=by
 intro n;induction n with
 | zero=>intro l hn h; exact absurd (List.length_eq_zero_iff.1 hn) h
 | succ n ih =>
   intro l hn h;obtain ⟨m,s,rfl⟩:∃ m s,l=m ++ [s]:=⟨l.dropLast,l.getLast h,(List.dropLast_concat_getLast h).symm⟩
   rw [Z80];by_cases hm:m=[]
   ·subst hm;simp [Z39,Z4s,Z79,ByteArray.append_assoc]
   ·rw [ih m (by simpa using hn) hm,Z84 m s hm];unfold Z79;simp only [ByteArray.append_assoc]
end Go.Proofs.YtedopiahfejdfaaGreatDoor
