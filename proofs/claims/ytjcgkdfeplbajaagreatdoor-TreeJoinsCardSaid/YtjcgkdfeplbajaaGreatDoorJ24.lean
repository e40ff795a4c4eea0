/- Package tree: reading never goes beyond the last token. -/
import Derived.Test.YtjcgkdfeplbajaaGreatDoorJ03
namespace Go.Proofs.YtjcgkdfeplbajaaGreatDoor
open Go Go.RowKit
set_option maxRecDepth 100000
set_option linter.unusedVariables false
def Ge (ts:List Tok):Prop:=∃ p e,ts=p ++ [e]∧e.kind=6
theorem Ge.tl {ts:List Tok} (g:Ge ts) (h:(hdT ts).kind≠6):Ge ts.tail:=by
 obtain ⟨p,e,rfl,he⟩:=g;cases p with
 | nil=>exact absurd he h
 | cons x p=>exact ⟨p,e,rfl,he⟩
theorem Ge.t1 {s:ByteArray} {ts:List Tok} (g:Ge ts) (h:isT s ts=true):Ge ts.tail:=g.tl fun e=>by simp [isT,e] at h
theorem Ge.t2 {ts:List Tok} (g:Ge ts) (h:¬ Z1l ts=0):Ge ts.tail:=g.tl fun e=>h (by simp [Z1l,isT,e])
theorem Ge.t3 {l:Nat} {ts:List Tok} (g:Ge ts) (h:¬ Z14 l ts=0):Ge ts.tail:=g.tl fun e=>h (by unfold Z14; split <;> simp [isT,e])
theorem Ge.t4 {ts:List Tok} (g:Ge ts) (h:Z1n ts≠0):Ge ts.tail:=g.tl fun e=>h (by simp [Z1n,isT,e])
theorem Ge.t5 {ts:List Tok} (g:Ge ts) (h:(hdT ts).kind=1):Ge ts.tail:=g.tl (by omega)
theorem Ge.t6 {ts:List Tok} (g:Ge ts) (h:(hdT ts).kind=3):Ge ts.tail:=g.tl (by omega)
theorem Ge.t7 {ts:List Tok} (g:Ge ts) (h:(hdT ts).kind=4):Ge ts.tail:=g.tl (by omega)
def Eh (P:Tree→Prop) (p:PR):Prop:=∀ t ts,p=some (.ok (t,ts))→Ge ts
theorem Eh.fail {P:Tree→Prop} {e:Int} {ts:List Tok}:Eh P (Z1k e ts):=by intro t ts' h; cases h
theorem Eh.none {P:Tree→Prop}:Eh P none:=by intro t ts' h; cases h
theorem Eh.err {P:Tree→Prop} {e:Int×Nat}:Eh P (some (.error e)):=by intro t ts' h; cases h
theorem Eh.ok {P:Tree→Prop} {t:Tree} {ts:List Tok} (g:Ge ts:=by first | assumption | exact Ge.t1 (by assumption) (by assumption) | exact Ge.t2 (by assumption) (by assumption) | exact Ge.t3 (by assumption) (by assumption) | exact Ge.t4 (by assumption) (by assumption) | exact Ge.t5 (by assumption) (by assumption) | exact Ge.t6 (by assumption) (by assumption) | exact Ge.t7 (by assumption) (by assumption) | exact Ge.t1 (Ge.t1 (by assumption) (by assumption)) (by assumption) | exact Ge.t5 (Ge.t1 (by assumption) (by assumption)) (by assumption)):Eh P (okT t ts):=by
 intro t' ts' h';simp only [okT,Option.some.injEq,Except.ok.injEq,Prod.mk.injEq] at h';rw [← h'.2]; exact g
theorem Eh.bind {P Q:Tree→Prop} {p:PR} {k:Tree→List Tok→PR} (hp:Eh P p) (hk:∀ t ts,Ge ts→Eh Q (k t ts)):Eh Q (Zz p k):=by
 cases p with
 | none=>exact Eh.none
 | some r =>
   cases r with
   | error e=>exact Eh.err
   | ok x=>obtain ⟨t,ts⟩:=x; exact hk t ts (hp t ts rfl)
theorem Eh.want {P:Tree→Prop} {s:ByteArray} {ts:List Tok} {k:List Tok→PR} (hk:Ge ts.tail→Eh P (k ts.tail)) (g:Ge ts:=by first | assumption | exact Ge.t1 (by assumption) (by assumption) | exact Ge.t2 (by assumption) (by assumption) | exact Ge.t3 (by assumption) (by assumption) | exact Ge.t4 (by assumption) (by assumption) | exact Ge.t5 (by assumption) (by assumption) | exact Ge.t6 (by assumption) (by assumption) | exact Ge.t7 (by assumption) (by assumption) | exact Ge.t1 (Ge.t1 (by assumption) (by assumption)) (by assumption) | exact Ge.t5 (Ge.t1 (by assumption) (by assumption)) (by assumption)):Eh P (Z0i s ts k):=by
 unfold Z0i;by_cases h:isT s ts=true;·rw [Y5 h]; exact hk (g.t1 h)
 ·rw [Y3 h]; exact Eh.fail
theorem Eh.name {P:Tree→Prop} {ts:List Tok} {k:ByteArray→List Tok→PR} (hk:∀ s,Ge ts.tail→Eh P (k s ts.tail)) (g:Ge ts:=by first | assumption | exact Ge.t1 (by assumption) (by assumption) | exact Ge.t2 (by assumption) (by assumption) | exact Ge.t3 (by assumption) (by assumption) | exact Ge.t4 (by assumption) (by assumption) | exact Ge.t5 (by assumption) (by assumption) | exact Ge.t6 (by assumption) (by assumption) | exact Ge.t7 (by assumption) (by assumption) | exact Ge.t1 (Ge.t1 (by assumption) (by assumption)) (by assumption) | exact Ge.t5 (Ge.t1 (by assumption) (by assumption)) (by assumption)):Eh P (Z1m ts k):=by
 unfold Z1m;by_cases h:(hdT ts).kind=1;·rw [Y5 h]; exact hk _ (g.t5 h)
 ·rw [Y3 h]; exact Eh.fail
theorem Eh.within {P:Tree→Prop} {d:Nat} {ts:List Tok} {p:PR} (h:Eh P p):Eh P (Z00 d ts p):=by
 unfold Z00;by_cases h':30 < d + 1;·rw [Y5 h']; exact Eh.fail
 ·rw [Y3 h']; exact h
theorem Eh.ite {P:Tree→Prop} {c:Prop} [Decidable c] {p q:PR} (hp:c→Eh P p) (hq:¬ c→Eh P q):Eh P (if c then p else q):=by
 by_cases h:c;·rw [Y5 h]; exact hp h
 ·rw [Y3 h]; exact hq h
theorem Eh.comma {P:Tree→Prop} {c:Prop} [Decidable c] {ts:List Tok} {k:List Tok→PR} (hk:∀ ts',Ge ts'→Eh P (k ts')) (g:Ge ts:=by first | assumption | exact Ge.t1 (by assumption) (by assumption) | exact Ge.t2 (by assumption) (by assumption) | exact Ge.t3 (by assumption) (by assumption) | exact Ge.t4 (by assumption) (by assumption) | exact Ge.t5 (by assumption) (by assumption) | exact Ge.t6 (by assumption) (by assumption) | exact Ge.t7 (by assumption) (by assumption) | exact Ge.t1 (Ge.t1 (by assumption) (by assumption)) (by assumption) | exact Ge.t5 (Ge.t1 (by assumption) (by assumption)) (by assumption)):Eh P ((if c then Z0i Z0n ts else fun k=>k ts) k):=by
 by_cases h:c;·rw [Y5 h]; exact Eh.want (hk _)
 ·rw [Y3 h]; exact hk _ g
theorem Eh.end' {P:Tree→Prop} {t:Tree} {ts:List Tok} (g:Ge ts:=by first | assumption | exact Ge.t1 (by assumption) (by assumption) | exact Ge.t2 (by assumption) (by assumption) | exact Ge.t3 (by assumption) (by assumption) | exact Ge.t4 (by assumption) (by assumption) | exact Ge.t5 (by assumption) (by assumption) | exact Ge.t6 (by assumption) (by assumption) | exact Ge.t7 (by assumption) (by assumption) | exact Ge.t1 (Ge.t1 (by assumption) (by assumption)) (by assumption) | exact Ge.t5 (Ge.t1 (by assumption) (by assumption)) (by assumption)):Eh P (endT t ts):=Eh.want fun _=>Eh.ok
theorem Z6c:∀ (f:Nat) (job:Job) (d:Nat) (ts:List Tok),Ge ts→Eh (fun _=>True) (Z0 f job d ts):=by
 intro f;induction f with
 | zero=>intro job d ts _; unfold Z0; exact Eh.none
 | succ f ih =>
   intro job d ts g0;cases job with
   | stmts kind acc =>
     unfold Z0;refine Eh.ite (fun _=>Eh.ok) fun _=>?_
     exact Eh.bind (Eh.within (ih .stmt _ _ (by first | assumption | exact Ge.t1 (by assumption) (by assumption) | exact Ge.t2 (by assumption) (by assumption) | exact Ge.t3 (by assumption) (by assumption) | exact Ge.t4 (by assumption) (by assumption) | exact Ge.t5 (by assumption) (by assumption) | exact Ge.t6 (by assumption) (by assumption) | exact Ge.t7 (by assumption) (by assumption) | exact Ge.t1 (Ge.t1 (by assumption) (by assumption)) (by assumption) | exact Ge.t5 (Ge.t1 (by assumption) (by assumption)) (by assumption)))) fun t ts' h=>ih _ _ _ (by first | assumption | exact Ge.t1 (by assumption) (by assumption) | exact Ge.t2 (by assumption) (by assumption) | exact Ge.t3 (by assumption) (by assumption) | exact Ge.t4 (by assumption) (by assumption) | exact Ge.t5 (by assumption) (by assumption) | exact Ge.t6 (by assumption) (by assumption) | exact Ge.t7 (by assumption) (by assumption) | exact Ge.t1 (Ge.t1 (by assumption) (by assumption)) (by assumption) | exact Ge.t5 (Ge.t1 (by assumption) (by assumption)) (by assumption))
   | block body =>
     unfold Z0;exact Eh.want (fun _=>Eh.bind (ih (.stmts 6 []) _ _ (by first | assumption | exact Ge.t1 (by assumption) (by assumption) | exact Ge.t2 (by assumption) (by assumption) | exact Ge.t3 (by assumption) (by assumption) | exact Ge.t4 (by assumption) (by assumption) | exact Ge.t5 (by assumption) (by assumption) | exact Ge.t6 (by assumption) (by assumption) | exact Ge.t7 (by assumption) (by assumption) | exact Ge.t1 (Ge.t1 (by assumption) (by assumption)) (by assumption) | exact Ge.t5 (Ge.t1 (by assumption) (by assumption)) (by assumption))) fun t ts' h'=>Eh.want (fun _=>Eh.ok))
   | func kind text =>
     unfold Z0
     exact Eh.want (fun _=>Eh.bind (ih (.params []) _ _ (by first | assumption | exact Ge.t1 (by assumption) (by assumption) | exact Ge.t2 (by assumption) (by assumption) | exact Ge.t3 (by assumption) (by assumption) | exact Ge.t4 (by assumption) (by assumption) | exact Ge.t5 (by assumption) (by assumption) | exact Ge.t6 (by assumption) (by assumption) | exact Ge.t7 (by assumption) (by assumption) | exact Ge.t1 (Ge.t1 (by assumption) (by assumption)) (by assumption) | exact Ge.t5 (Ge.t1 (by assumption) (by assumption)) (by assumption))) fun t ts' h'=>Eh.want (fun _=>Eh.bind (ih (.block true) _ _ (by first | assumption | exact Ge.t1 (by assumption) (by assumption) | exact Ge.t2 (by assumption) (by assumption) | exact Ge.t3 (by assumption) (by assumption) | exact Ge.t4 (by assumption) (by assumption) | exact Ge.t5 (by assumption) (by assumption) | exact Ge.t6 (by assumption) (by assumption) | exact Ge.t7 (by assumption) (by assumption) | exact Ge.t1 (Ge.t1 (by assumption) (by assumption)) (by assumption) | exact Ge.t5 (Ge.t1 (by assumption) (by assumption)) (by assumption))) fun t ts' h3=>Eh.ok))
   | params acc =>
     unfold Z0;refine Eh.ite (fun _=>Eh.ok) fun _=>?_
     exact Eh.comma fun ts' _=>Eh.ite (fun _=>Eh.fail) fun _=>Eh.name fun s _=>ih _ _ _ (by first | assumption | exact Ge.t1 (by assumption) (by assumption) | exact Ge.t2 (by assumption) (by assumption) | exact Ge.t3 (by assumption) (by assumption) | exact Ge.t4 (by assumption) (by assumption) | exact Ge.t5 (by assumption) (by assumption) | exact Ge.t6 (by assumption) (by assumption) | exact Ge.t7 (by assumption) (by assumption) | exact Ge.t1 (Ge.t1 (by assumption) (by assumption)) (by assumption) | exact Ge.t5 (Ge.t1 (by assumption) (by assumption)) (by assumption))
   | around =>
     unfold Z0;exact Eh.want (fun _=>Eh.bind (ih .value _ _ (by first | assumption | exact Ge.t1 (by assumption) (by assumption) | exact Ge.t2 (by assumption) (by assumption) | exact Ge.t3 (by assumption) (by assumption) | exact Ge.t4 (by assumption) (by assumption) | exact Ge.t5 (by assumption) (by assumption) | exact Ge.t6 (by assumption) (by assumption) | exact Ge.t7 (by assumption) (by assumption) | exact Ge.t1 (Ge.t1 (by assumption) (by assumption)) (by assumption) | exact Ge.t5 (Ge.t1 (by assumption) (by assumption)) (by assumption))) fun t ts' h'=>Eh.want (fun _=>Eh.ok))
   | stmt =>
     unfold Z0;refine Eh.ite (fun h=>ih (.block false) _ _ (by first | assumption | exact Ge.t1 (by assumption) (by assumption) | exact Ge.t2 (by assumption) (by assumption) | exact Ge.t3 (by assumption) (by assumption) | exact Ge.t4 (by assumption) (by assumption) | exact Ge.t5 (by assumption) (by assumption) | exact Ge.t6 (by assumption) (by assumption) | exact Ge.t7 (by assumption) (by assumption) | exact Ge.t1 (Ge.t1 (by assumption) (by assumption)) (by assumption) | exact Ge.t5 (Ge.t1 (by assumption) (by assumption)) (by assumption))) fun _=>?_
     refine Eh.ite (fun h=>Eh.ok) fun _=>?_
     refine Eh.ite (fun h=>Eh.bind (ih (.decl 2 false) _ _ (by first | assumption | exact Ge.t1 (by assumption) (by assumption) | exact Ge.t2 (by assumption) (by assumption) | exact Ge.t3 (by assumption) (by assumption) | exact Ge.t4 (by assumption) (by assumption) | exact Ge.t5 (by assumption) (by assumption) | exact Ge.t6 (by assumption) (by assumption) | exact Ge.t7 (by assumption) (by assumption) | exact Ge.t1 (Ge.t1 (by assumption) (by assumption)) (by assumption) | exact Ge.t5 (Ge.t1 (by assumption) (by assumption)) (by assumption))) fun t us h2=>Eh.end') fun _=>?_
     refine Eh.ite (fun h=>Eh.bind (ih (.decl 3 false) _ _ (by first | assumption | exact Ge.t1 (by assumption) (by assumption) | exact Ge.t2 (by assumption) (by assumption) | exact Ge.t3 (by assumption) (by assumption) | exact Ge.t4 (by assumption) (by assumption) | exact Ge.t5 (by assumption) (by assumption) | exact Ge.t6 (by assumption) (by assumption) | exact Ge.t7 (by assumption) (by assumption) | exact Ge.t1 (Ge.t1 (by assumption) (by assumption)) (by assumption) | exact Ge.t5 (Ge.t1 (by assumption) (by assumption)) (by assumption))) fun t us h2=>Eh.end') fun _=>?_
     refine Eh.ite (fun h=>Eh.bind (ih (.decl 4 true) _ _ (by first | assumption | exact Ge.t1 (by assumption) (by assumption) | exact Ge.t2 (by assumption) (by assumption) | exact Ge.t3 (by assumption) (by assumption) | exact Ge.t4 (by assumption) (by assumption) | exact Ge.t5 (by assumption) (by assumption) | exact Ge.t6 (by assumption) (by assumption) | exact Ge.t7 (by assumption) (by assumption) | exact Ge.t1 (Ge.t1 (by assumption) (by assumption)) (by assumption) | exact Ge.t5 (Ge.t1 (by assumption) (by assumption)) (by assumption))) fun t us h2=>Eh.end') fun _=>?_
     refine Eh.ite (fun h=>Eh.name fun s _=>ih _ _ _ (by first | assumption | exact Ge.t1 (by assumption) (by assumption) | exact Ge.t2 (by assumption) (by assumption) | exact Ge.t3 (by assumption) (by assumption) | exact Ge.t4 (by assumption) (by assumption) | exact Ge.t5 (by assumption) (by assumption) | exact Ge.t6 (by assumption) (by assumption) | exact Ge.t7 (by assumption) (by assumption) | exact Ge.t1 (Ge.t1 (by assumption) (by assumption)) (by assumption) | exact Ge.t5 (Ge.t1 (by assumption) (by assumption)) (by assumption))) fun _=>?_
     refine Eh.ite (fun h=>Eh.bind (ih .around _ _ (by first | assumption | exact Ge.t1 (by assumption) (by assumption) | exact Ge.t2 (by assumption) (by assumption) | exact Ge.t3 (by assumption) (by assumption) | exact Ge.t4 (by assumption) (by assumption) | exact Ge.t5 (by assumption) (by assumption) | exact Ge.t6 (by assumption) (by assumption) | exact Ge.t7 (by assumption) (by assumption) | exact Ge.t1 (Ge.t1 (by assumption) (by assumption)) (by assumption) | exact Ge.t5 (Ge.t1 (by assumption) (by assumption)) (by assumption))) fun x us h2=>Eh.bind (Eh.within (ih .stmt _ _ (by first | assumption | exact Ge.t1 (by assumption) (by assumption) | exact Ge.t2 (by assumption) (by assumption) | exact Ge.t3 (by assumption) (by assumption) | exact Ge.t4 (by assumption) (by assumption) | exact Ge.t5 (by assumption) (by assumption) | exact Ge.t6 (by assumption) (by assumption) | exact Ge.t7 (by assumption) (by assumption) | exact Ge.t1 (Ge.t1 (by assumption) (by assumption)) (by assumption) | exact Ge.t5 (Ge.t1 (by assumption) (by assumption)) (by assumption)))) fun y vs h3=>Eh.ite (fun h4=>Eh.bind (Eh.within (ih .stmt _ _ (by first | assumption | exact Ge.t1 (by assumption) (by assumption) | exact Ge.t2 (by assumption) (by assumption) | exact Ge.t3 (by assumption) (by assumption) | exact Ge.t4 (by assumption) (by assumption) | exact Ge.t5 (by assumption) (by assumption) | exact Ge.t6 (by assumption) (by assumption) | exact Ge.t7 (by assumption) (by assumption) | exact Ge.t1 (Ge.t1 (by assumption) (by assumption)) (by assumption) | exact Ge.t5 (Ge.t1 (by assumption) (by assumption)) (by assumption)))) fun z xs h5=>Eh.ok) fun _=>Eh.ok) fun _=>?_
     refine Eh.ite (fun h=>Eh.bind (ih .around _ _ (by first | assumption | exact Ge.t1 (by assumption) (by assumption) | exact Ge.t2 (by assumption) (by assumption) | exact Ge.t3 (by assumption) (by assumption) | exact Ge.t4 (by assumption) (by assumption) | exact Ge.t5 (by assumption) (by assumption) | exact Ge.t6 (by assumption) (by assumption) | exact Ge.t7 (by assumption) (by assumption) | exact Ge.t1 (Ge.t1 (by assumption) (by assumption)) (by assumption) | exact Ge.t5 (Ge.t1 (by assumption) (by assumption)) (by assumption))) fun t us h2=>Eh.bind (Eh.within (ih .stmt _ _ (by first | assumption | exact Ge.t1 (by assumption) (by assumption) | exact Ge.t2 (by assumption) (by assumption) | exact Ge.t3 (by assumption) (by assumption) | exact Ge.t4 (by assumption) (by assumption) | exact Ge.t5 (by assumption) (by assumption) | exact Ge.t6 (by assumption) (by assumption) | exact Ge.t7 (by assumption) (by assumption) | exact Ge.t1 (Ge.t1 (by assumption) (by assumption)) (by assumption) | exact Ge.t5 (Ge.t1 (by assumption) (by assumption)) (by assumption)))) fun t vs h3=>Eh.ok) fun _=>?_
     refine Eh.ite (fun h=>Eh.bind (ih .around _ _ (by first | assumption | exact Ge.t1 (by assumption) (by assumption) | exact Ge.t2 (by assumption) (by assumption) | exact Ge.t3 (by assumption) (by assumption) | exact Ge.t4 (by assumption) (by assumption) | exact Ge.t5 (by assumption) (by assumption) | exact Ge.t6 (by assumption) (by assumption) | exact Ge.t7 (by assumption) (by assumption) | exact Ge.t1 (Ge.t1 (by assumption) (by assumption)) (by assumption) | exact Ge.t5 (Ge.t1 (by assumption) (by assumption)) (by assumption))) fun t us h2=>Eh.bind (Eh.within (ih .stmt _ _ (by first | assumption | exact Ge.t1 (by assumption) (by assumption) | exact Ge.t2 (by assumption) (by assumption) | exact Ge.t3 (by assumption) (by assumption) | exact Ge.t4 (by assumption) (by assumption) | exact Ge.t5 (by assumption) (by assumption) | exact Ge.t6 (by assumption) (by assumption) | exact Ge.t7 (by assumption) (by assumption) | exact Ge.t1 (Ge.t1 (by assumption) (by assumption)) (by assumption) | exact Ge.t5 (Ge.t1 (by assumption) (by assumption)) (by assumption)))) fun t vs h3=>Eh.ok) fun _=>?_
     refine Eh.ite (fun h=>Eh.ite (fun h1=>Eh.end') (fun _=>Eh.bind (ih .value _ _ (by first | assumption | exact Ge.t1 (by assumption) (by assumption) | exact Ge.t2 (by assumption) (by assumption) | exact Ge.t3 (by assumption) (by assumption) | exact Ge.t4 (by assumption) (by assumption) | exact Ge.t5 (by assumption) (by assumption) | exact Ge.t6 (by assumption) (by assumption) | exact Ge.t7 (by assumption) (by assumption) | exact Ge.t1 (Ge.t1 (by assumption) (by assumption)) (by assumption) | exact Ge.t5 (Ge.t1 (by assumption) (by assumption)) (by assumption))) fun t us h2=>Eh.end')) fun _=>?_
     refine Eh.ite (fun h=>Eh.bind (ih .value _ _ (by first | assumption | exact Ge.t1 (by assumption) (by assumption) | exact Ge.t2 (by assumption) (by assumption) | exact Ge.t3 (by assumption) (by assumption) | exact Ge.t4 (by assumption) (by assumption) | exact Ge.t5 (by assumption) (by assumption) | exact Ge.t6 (by assumption) (by assumption) | exact Ge.t7 (by assumption) (by assumption) | exact Ge.t1 (Ge.t1 (by assumption) (by assumption)) (by assumption) | exact Ge.t5 (Ge.t1 (by assumption) (by assumption)) (by assumption))) fun t us h2=>Eh.end') fun _=>?_
     refine Eh.ite (fun h=>ih _ _ _ (by first | assumption | exact Ge.t1 (by assumption) (by assumption) | exact Ge.t2 (by assumption) (by assumption) | exact Ge.t3 (by assumption) (by assumption) | exact Ge.t4 (by assumption) (by assumption) | exact Ge.t5 (by assumption) (by assumption) | exact Ge.t6 (by assumption) (by assumption) | exact Ge.t7 (by assumption) (by assumption) | exact Ge.t1 (Ge.t1 (by assumption) (by assumption)) (by assumption) | exact Ge.t5 (Ge.t1 (by assumption) (by assumption)) (by assumption))) fun _=>?_
     exact Eh.bind (ih .value _ _ (by first | assumption | exact Ge.t1 (by assumption) (by assumption) | exact Ge.t2 (by assumption) (by assumption) | exact Ge.t3 (by assumption) (by assumption) | exact Ge.t4 (by assumption) (by assumption) | exact Ge.t5 (by assumption) (by assumption) | exact Ge.t6 (by assumption) (by assumption) | exact Ge.t7 (by assumption) (by assumption) | exact Ge.t1 (Ge.t1 (by assumption) (by assumption)) (by assumption) | exact Ge.t5 (Ge.t1 (by assumption) (by assumption)) (by assumption))) fun t us h2=>Eh.end'
   | decl kind must =>
     unfold Z0
     exact Eh.name fun s _=>Eh.ite (fun _=>Eh.fail) fun _=>Eh.ite (fun h2=>Eh.bind (ih .value _ _ (by first | assumption | exact Ge.t1 (by assumption) (by assumption) | exact Ge.t2 (by assumption) (by assumption) | exact Ge.t3 (by assumption) (by assumption) | exact Ge.t4 (by assumption) (by assumption) | exact Ge.t5 (by assumption) (by assumption) | exact Ge.t6 (by assumption) (by assumption) | exact Ge.t7 (by assumption) (by assumption) | exact Ge.t1 (Ge.t1 (by assumption) (by assumption)) (by assumption) | exact Ge.t5 (Ge.t1 (by assumption) (by assumption)) (by assumption))) fun t us h3=>Eh.ok) fun _=>Eh.ok
   | try_ =>
     unfold Z0;refine Eh.bind (ih (.block false) _ _ (by first | assumption | exact Ge.t1 (by assumption) (by assumption) | exact Ge.t2 (by assumption) (by assumption) | exact Ge.t3 (by assumption) (by assumption) | exact Ge.t4 (by assumption) (by assumption) | exact Ge.t5 (by assumption) (by assumption) | exact Ge.t6 (by assumption) (by assumption) | exact Ge.t7 (by assumption) (by assumption) | exact Ge.t1 (Ge.t1 (by assumption) (by assumption)) (by assumption) | exact Ge.t5 (Ge.t1 (by assumption) (by assumption)) (by assumption))) fun b us h=>?_
     have hk:∀ (l:List Tree) (vs:List Tok),Ge vs→Eh (fun _=>True) (if isT Zs vs then Zz (Z0 f (.block false) d vs.tail) fun c ts=>okT (.mk 12 ByteArray.empty 0 (l ++ [.mk 14 ByteArray.empty 0 [c]])) ts else if l.length=1 then Z1k 3 vs else okT (.mk 12 ByteArray.empty 0 l) vs):=by
      intro l vs h2
      exact Eh.ite (fun _=>Eh.bind (ih (.block false) _ _ (by first | assumption | exact Ge.t1 (by assumption) (by assumption) | exact Ge.t2 (by assumption) (by assumption) | exact Ge.t3 (by assumption) (by assumption) | exact Ge.t4 (by assumption) (by assumption) | exact Ge.t5 (by assumption) (by assumption) | exact Ge.t6 (by assumption) (by assumption) | exact Ge.t7 (by assumption) (by assumption) | exact Ge.t1 (Ge.t1 (by assumption) (by assumption)) (by assumption) | exact Ge.t5 (Ge.t1 (by assumption) (by assumption)) (by assumption))) fun t xs h3=>Eh.ok) fun _=>Eh.ite (fun _=>Eh.fail) fun _=>Eh.ok
     refine Eh.ite (fun h1=>?_) fun _=>hk _ _ (by first | assumption | exact Ge.t1 (by assumption) (by assumption) | exact Ge.t2 (by assumption) (by assumption) | exact Ge.t3 (by assumption) (by assumption) | exact Ge.t4 (by assumption) (by assumption) | exact Ge.t5 (by assumption) (by assumption) | exact Ge.t6 (by assumption) (by assumption) | exact Ge.t7 (by assumption) (by assumption) | exact Ge.t1 (Ge.t1 (by assumption) (by assumption)) (by assumption) | exact Ge.t5 (Ge.t1 (by assumption) (by assumption)) (by assumption))
     exact Eh.want (fun _=>Eh.name fun s _=>Eh.want (fun _=>Eh.bind (ih (.block false) _ _ (by first | assumption | exact Ge.t1 (by assumption) (by assumption) | exact Ge.t2 (by assumption) (by assumption) | exact Ge.t3 (by assumption) (by assumption) | exact Ge.t4 (by assumption) (by assumption) | exact Ge.t5 (by assumption) (by assumption) | exact Ge.t6 (by assumption) (by assumption) | exact Ge.t7 (by assumption) (by assumption) | exact Ge.t1 (Ge.t1 (by assumption) (by assumption)) (by assumption) | exact Ge.t5 (Ge.t1 (by assumption) (by assumption)) (by assumption))) fun c vs h5=>hk _ _ (by first | assumption | exact Ge.t1 (by assumption) (by assumption) | exact Ge.t2 (by assumption) (by assumption) | exact Ge.t3 (by assumption) (by assumption) | exact Ge.t4 (by assumption) (by assumption) | exact Ge.t5 (by assumption) (by assumption) | exact Ge.t6 (by assumption) (by assumption) | exact Ge.t7 (by assumption) (by assumption) | exact Ge.t1 (Ge.t1 (by assumption) (by assumption)) (by assumption) | exact Ge.t5 (Ge.t1 (by assumption) (by assumption)) (by assumption))))
   | value=>unfold Z0; exact Eh.within (ih _ _ _ (by first | assumption | exact Ge.t1 (by assumption) (by assumption) | exact Ge.t2 (by assumption) (by assumption) | exact Ge.t3 (by assumption) (by assumption) | exact Ge.t4 (by assumption) (by assumption) | exact Ge.t5 (by assumption) (by assumption) | exact Ge.t6 (by assumption) (by assumption) | exact Ge.t7 (by assumption) (by assumption) | exact Ge.t1 (Ge.t1 (by assumption) (by assumption)) (by assumption) | exact Ge.t5 (Ge.t1 (by assumption) (by assumption)) (by assumption)))
   | assign =>
     unfold Z0
     exact Eh.bind (ih (.bin 0) _ _ (by first | assumption | exact Ge.t1 (by assumption) (by assumption) | exact Ge.t2 (by assumption) (by assumption) | exact Ge.t3 (by assumption) (by assumption) | exact Ge.t4 (by assumption) (by assumption) | exact Ge.t5 (by assumption) (by assumption) | exact Ge.t6 (by assumption) (by assumption) | exact Ge.t7 (by assumption) (by assumption) | exact Ge.t1 (Ge.t1 (by assumption) (by assumption)) (by assumption) | exact Ge.t5 (Ge.t1 (by assumption) (by assumption)) (by assumption))) fun x us h=>Eh.ite (fun h1=>Eh.ite (fun _=>Eh.bind (ih .value _ _ (by first | assumption | exact Ge.t1 (by assumption) (by assumption) | exact Ge.t2 (by assumption) (by assumption) | exact Ge.t3 (by assumption) (by assumption) | exact Ge.t4 (by assumption) (by assumption) | exact Ge.t5 (by assumption) (by assumption) | exact Ge.t6 (by assumption) (by assumption) | exact Ge.t7 (by assumption) (by assumption) | exact Ge.t1 (Ge.t1 (by assumption) (by assumption)) (by assumption) | exact Ge.t5 (Ge.t1 (by assumption) (by assumption)) (by assumption))) fun y vs h2=>Eh.ok) fun _=>Eh.err) fun _=>Eh.ok
   | bin level =>
     unfold Z0
     exact Eh.ite (fun _=>ih _ _ _ (by first | assumption | exact Ge.t1 (by assumption) (by assumption) | exact Ge.t2 (by assumption) (by assumption) | exact Ge.t3 (by assumption) (by assumption) | exact Ge.t4 (by assumption) (by assumption) | exact Ge.t5 (by assumption) (by assumption) | exact Ge.t6 (by assumption) (by assumption) | exact Ge.t7 (by assumption) (by assumption) | exact Ge.t1 (Ge.t1 (by assumption) (by assumption)) (by assumption) | exact Ge.t5 (Ge.t1 (by assumption) (by assumption)) (by assumption))) fun _=>Eh.bind (ih (.bin (level + 1)) _ _ (by first | assumption | exact Ge.t1 (by assumption) (by assumption) | exact Ge.t2 (by assumption) (by assumption) | exact Ge.t3 (by assumption) (by assumption) | exact Ge.t4 (by assumption) (by assumption) | exact Ge.t5 (by assumption) (by assumption) | exact Ge.t6 (by assumption) (by assumption) | exact Ge.t7 (by assumption) (by assumption) | exact Ge.t1 (Ge.t1 (by assumption) (by assumption)) (by assumption) | exact Ge.t5 (Ge.t1 (by assumption) (by assumption)) (by assumption))) fun x us h=>ih _ _ _ (by first | assumption | exact Ge.t1 (by assumption) (by assumption) | exact Ge.t2 (by assumption) (by assumption) | exact Ge.t3 (by assumption) (by assumption) | exact Ge.t4 (by assumption) (by assumption) | exact Ge.t5 (by assumption) (by assumption) | exact Ge.t6 (by assumption) (by assumption) | exact Ge.t7 (by assumption) (by assumption) | exact Ge.t1 (Ge.t1 (by assumption) (by assumption)) (by assumption) | exact Ge.t5 (Ge.t1 (by assumption) (by assumption)) (by assumption))
   | binLoop level x =>
     unfold Z0
     exact Eh.ite (fun _=>Eh.ok) fun h0=>Eh.bind (ih (.bin (level + 1)) _ _ (by first | assumption | exact Ge.t1 (by assumption) (by assumption) | exact Ge.t2 (by assumption) (by assumption) | exact Ge.t3 (by assumption) (by assumption) | exact Ge.t4 (by assumption) (by assumption) | exact Ge.t5 (by assumption) (by assumption) | exact Ge.t6 (by assumption) (by assumption) | exact Ge.t7 (by assumption) (by assumption) | exact Ge.t1 (Ge.t1 (by assumption) (by assumption)) (by assumption) | exact Ge.t5 (Ge.t1 (by assumption) (by assumption)) (by assumption))) fun y us h=>ih _ _ _ (by first | assumption | exact Ge.t1 (by assumption) (by assumption) | exact Ge.t2 (by assumption) (by assumption) | exact Ge.t3 (by assumption) (by assumption) | exact Ge.t4 (by assumption) (by assumption) | exact Ge.t5 (by assumption) (by assumption) | exact Ge.t6 (by assumption) (by assumption) | exact Ge.t7 (by assumption) (by assumption) | exact Ge.t1 (Ge.t1 (by assumption) (by assumption)) (by assumption) | exact Ge.t5 (Ge.t1 (by assumption) (by assumption)) (by assumption))
   | unary =>
     unfold Z0
     exact Eh.ite (fun _=>ih _ _ _ (by first | assumption | exact Ge.t1 (by assumption) (by assumption) | exact Ge.t2 (by assumption) (by assumption) | exact Ge.t3 (by assumption) (by assumption) | exact Ge.t4 (by assumption) (by assumption) | exact Ge.t5 (by assumption) (by assumption) | exact Ge.t6 (by assumption) (by assumption) | exact Ge.t7 (by assumption) (by assumption) | exact Ge.t1 (Ge.t1 (by assumption) (by assumption)) (by assumption) | exact Ge.t5 (Ge.t1 (by assumption) (by assumption)) (by assumption))) fun h0=>Eh.bind (Eh.within (ih .unary _ _ (by first | assumption | exact Ge.t1 (by assumption) (by assumption) | exact Ge.t2 (by assumption) (by assumption) | exact Ge.t3 (by assumption) (by assumption) | exact Ge.t4 (by assumption) (by assumption) | exact Ge.t5 (by assumption) (by assumption) | exact Ge.t6 (by assumption) (by assumption) | exact Ge.t7 (by assumption) (by assumption) | exact Ge.t1 (Ge.t1 (by assumption) (by assumption)) (by assumption) | exact Ge.t5 (Ge.t1 (by assumption) (by assumption)) (by assumption)))) fun x us h=>Eh.ok
   | postfix_ =>
     unfold Z0
     exact Eh.bind (ih .primary _ _ (by first | assumption | exact Ge.t1 (by assumption) (by assumption) | exact Ge.t2 (by assumption) (by assumption) | exact Ge.t3 (by assumption) (by assumption) | exact Ge.t4 (by assumption) (by assumption) | exact Ge.t5 (by assumption) (by assumption) | exact Ge.t6 (by assumption) (by assumption) | exact Ge.t7 (by assumption) (by assumption) | exact Ge.t1 (Ge.t1 (by assumption) (by assumption)) (by assumption) | exact Ge.t5 (Ge.t1 (by assumption) (by assumption)) (by assumption))) fun x us h=>ih _ _ _ (by first | assumption | exact Ge.t1 (by assumption) (by assumption) | exact Ge.t2 (by assumption) (by assumption) | exact Ge.t3 (by assumption) (by assumption) | exact Ge.t4 (by assumption) (by assumption) | exact Ge.t5 (by assumption) (by assumption) | exact Ge.t6 (by assumption) (by assumption) | exact Ge.t7 (by assumption) (by assumption) | exact Ge.t1 (Ge.t1 (by assumption) (by assumption)) (by assumption) | exact Ge.t5 (Ge.t1 (by assumption) (by assumption)) (by assumption))
   | postLoop x =>
     unfold Z0
     exact Eh.ite (fun _=>Eh.name fun s _=>ih _ _ _ (by first | assumption | exact Ge.t1 (by assumption) (by assumption) | exact Ge.t2 (by assumption) (by assumption) | exact Ge.t3 (by assumption) (by assumption) | exact Ge.t4 (by assumption) (by assumption) | exact Ge.t5 (by assumption) (by assumption) | exact Ge.t6 (by assumption) (by assumption) | exact Ge.t7 (by assumption) (by assumption) | exact Ge.t1 (Ge.t1 (by assumption) (by assumption)) (by assumption) | exact Ge.t5 (Ge.t1 (by assumption) (by assumption)) (by assumption))) fun _=>Eh.ite (fun _=>Eh.bind (ih (.args [x]) _ _ (by first | assumption | exact Ge.t1 (by assumption) (by assumption) | exact Ge.t2 (by assumption) (by assumption) | exact Ge.t3 (by assumption) (by assumption) | exact Ge.t4 (by assumption) (by assumption) | exact Ge.t5 (by assumption) (by assumption) | exact Ge.t6 (by assumption) (by assumption) | exact Ge.t7 (by assumption) (by assumption) | exact Ge.t1 (Ge.t1 (by assumption) (by assumption)) (by assumption) | exact Ge.t5 (Ge.t1 (by assumption) (by assumption)) (by assumption))) fun n us h=>ih _ _ _ (by first | assumption | exact Ge.t1 (by assumption) (by assumption) | exact Ge.t2 (by assumption) (by assumption) | exact Ge.t3 (by assumption) (by assumption) | exact Ge.t4 (by assumption) (by assumption) | exact Ge.t5 (by assumption) (by assumption) | exact Ge.t6 (by assumption) (by assumption) | exact Ge.t7 (by assumption) (by assumption) | exact Ge.t1 (Ge.t1 (by assumption) (by assumption)) (by assumption) | exact Ge.t5 (Ge.t1 (by assumption) (by assumption)) (by assumption))) fun _=>Eh.ok
   | args acc =>
     unfold Z0;refine Eh.ite (fun _=>Eh.ok) fun _=>?_
     exact Eh.comma fun ts' _=>Eh.ite (fun _=>Eh.fail) fun _=>Eh.bind (ih .value _ _ (by first | assumption | exact Ge.t1 (by assumption) (by assumption) | exact Ge.t2 (by assumption) (by assumption) | exact Ge.t3 (by assumption) (by assumption) | exact Ge.t4 (by assumption) (by assumption) | exact Ge.t5 (by assumption) (by assumption) | exact Ge.t6 (by assumption) (by assumption) | exact Ge.t7 (by assumption) (by assumption) | exact Ge.t1 (Ge.t1 (by assumption) (by assumption)) (by assumption) | exact Ge.t5 (Ge.t1 (by assumption) (by assumption)) (by assumption))) fun v us h=>ih _ _ _ (by first | assumption | exact Ge.t1 (by assumption) (by assumption) | exact Ge.t2 (by assumption) (by assumption) | exact Ge.t3 (by assumption) (by assumption) | exact Ge.t4 (by assumption) (by assumption) | exact Ge.t5 (by assumption) (by assumption) | exact Ge.t6 (by assumption) (by assumption) | exact Ge.t7 (by assumption) (by assumption) | exact Ge.t1 (Ge.t1 (by assumption) (by assumption)) (by assumption) | exact Ge.t5 (Ge.t1 (by assumption) (by assumption)) (by assumption))
   | primary =>
     unfold Z0;refine Eh.ite (fun h=>Eh.ok) fun _=>?_;refine Eh.ite (fun h=>Eh.ok) fun _=>?_;refine Eh.ite (fun h=>Eh.ok) fun _=>?_;refine Eh.ite (fun h=>Eh.ok) fun _=>?_
     refine Eh.ite (fun h=>ih _ _ _ (by first | assumption | exact Ge.t1 (by assumption) (by assumption) | exact Ge.t2 (by assumption) (by assumption) | exact Ge.t3 (by assumption) (by assumption) | exact Ge.t4 (by assumption) (by assumption) | exact Ge.t5 (by assumption) (by assumption) | exact Ge.t6 (by assumption) (by assumption) | exact Ge.t7 (by assumption) (by assumption) | exact Ge.t1 (Ge.t1 (by assumption) (by assumption)) (by assumption) | exact Ge.t5 (Ge.t1 (by assumption) (by assumption)) (by assumption))) fun _=>?_
     refine Eh.ite (fun h=>Eh.ite (fun _=>ih _ _ _ (by first | assumption | exact Ge.t1 (by assumption) (by assumption) | exact Ge.t2 (by assumption) (by assumption) | exact Ge.t3 (by assumption) (by assumption) | exact Ge.t4 (by assumption) (by assumption) | exact Ge.t5 (by assumption) (by assumption) | exact Ge.t6 (by assumption) (by assumption) | exact Ge.t7 (by assumption) (by assumption) | exact Ge.t1 (Ge.t1 (by assumption) (by assumption)) (by assumption) | exact Ge.t5 (Ge.t1 (by assumption) (by assumption)) (by assumption))) fun _=>ih _ _ _ (by first | assumption | exact Ge.t1 (by assumption) (by assumption) | exact Ge.t2 (by assumption) (by assumption) | exact Ge.t3 (by assumption) (by assumption) | exact Ge.t4 (by assumption) (by assumption) | exact Ge.t5 (by assumption) (by assumption) | exact Ge.t6 (by assumption) (by assumption) | exact Ge.t7 (by assumption) (by assumption) | exact Ge.t1 (Ge.t1 (by assumption) (by assumption)) (by assumption) | exact Ge.t5 (Ge.t1 (by assumption) (by assumption)) (by assumption))) fun _=>?_
     exact Eh.ite (fun h=>ih _ _ _ (by first | assumption | exact Ge.t1 (by assumption) (by assumption) | exact Ge.t2 (by assumption) (by assumption) | exact Ge.t3 (by assumption) (by assumption) | exact Ge.t4 (by assumption) (by assumption) | exact Ge.t5 (by assumption) (by assumption) | exact Ge.t6 (by assumption) (by assumption) | exact Ge.t7 (by assumption) (by assumption) | exact Ge.t1 (Ge.t1 (by assumption) (by assumption)) (by assumption) | exact Ge.t5 (Ge.t1 (by assumption) (by assumption)) (by assumption))) fun _=>Eh.fail
   | object acc =>
     unfold Z0;refine Eh.ite (fun _=>Eh.ok) fun _=>?_
     exact Eh.comma fun ts' _=>Eh.ite (fun _=>Eh.fail) fun _=>Eh.name fun s _=>Eh.want (fun _=>Eh.bind (ih .value _ _ (by first | assumption | exact Ge.t1 (by assumption) (by assumption) | exact Ge.t2 (by assumption) (by assumption) | exact Ge.t3 (by assumption) (by assumption) | exact Ge.t4 (by assumption) (by assumption) | exact Ge.t5 (by assumption) (by assumption) | exact Ge.t6 (by assumption) (by assumption) | exact Ge.t7 (by assumption) (by assumption) | exact Ge.t1 (Ge.t1 (by assumption) (by assumption)) (by assumption) | exact Ge.t5 (Ge.t1 (by assumption) (by assumption)) (by assumption))) fun v us h=>ih _ _ _ (by first | assumption | exact Ge.t1 (by assumption) (by assumption) | exact Ge.t2 (by assumption) (by assumption) | exact Ge.t3 (by assumption) (by assumption) | exact Ge.t4 (by assumption) (by assumption) | exact Ge.t5 (by assumption) (by assumption) | exact Ge.t6 (by assumption) (by assumption) | exact Ge.t7 (by assumption) (by assumption) | exact Ge.t1 (Ge.t1 (by assumption) (by assumption)) (by assumption) | exact Ge.t5 (Ge.t1 (by assumption) (by assumption)) (by assumption)))
end Go.Proofs.YtjcgkdfeplbajaaGreatDoor
namespace Go.Proofs.YtjcgkdfeplbajaaGreatDoor
open Go Go.RowKit
set_option maxRecDepth 100000
set_option linter.unusedVariables false
set_option linter.unusedSimpArgs false
def Eq2 (t u:Tok):Prop:=t.kind=u.kind∧t.text=u.text∧t.n=u.n
def A2:List Tok→List Tok→Prop
 | [],[]=>True
 | x :: p,y :: q=>Eq2 x y∧A2 p q
 | _,_=>False
def Ex (e:Tok) (us ts vs:List Tok):Prop:=∃ p p',ts=p ++ [e]∧vs=p' ++ us∧A2 p p'
theorem Ex.ge {e:Tok} {us ts vs:List Tok} (h:Ex e us ts vs) (he:e.kind=6):Ge ts:=by
 obtain ⟨p,p',h1,_,_⟩:=h;exact ⟨p,e,h1,he⟩
theorem Ex.step {e:Tok} {us ts vs:List Tok} (h:Ex e us ts vs) (hl:2≤ts.length):Eq2 (hdT ts) (hdT vs)∧Ex e us ts.tail vs.tail:=by
 obtain ⟨p,p',rfl,rfl,h3⟩:=h;cases p with
 | nil=>simp at hl
 | cons x p =>
   cases p' with
   | nil=>exact h3.elim
   | cons y q=>exact ⟨h3.1,p,q,rfl,rfl,h3.2⟩
theorem Ex.last {e:Tok} {us ts vs:List Tok} (h:Ex e us ts vs) (hl:¬ 2≤ts.length):ts=[e]∧vs=us:=by
 obtain ⟨p,p',rfl,rfl,h3⟩:=h;cases p with
 | nil =>
   cases p' with
   | nil=>exact ⟨rfl,rfl⟩
   | cons y q=>exact h3.elim
 | cons x p=>simp at hl
def Jr (E:Bool) (e:Tok) (us:List Tok) (p q:PR):Prop:=∀ t ts',p=some (.ok (t,ts'))→(E=true→2≤ts'.length)→∃ vs',q=some (.ok (t,vs'))∧Ex e us ts' vs'
def Dd (E:Bool) (r:PR):Prop:=∀ t ts',r=some (.ok (t,ts'))→E=true∧ts'.length≤1
section
variable {E:Bool} {e:Tok} {us:List Tok}
theorem Jr.fail {x:Int} {ts:List Tok} {q:PR}:Jr E e us (Z1k x ts) q:=by intro t ts' h; cases h
theorem Jr.err {x:Int×Nat} {q:PR}:Jr E e us (some (.error x)) q:=by intro t ts' h; cases h
theorem Jr.none {q:PR}:Jr E e us none q:=by intro t ts' h; cases h
theorem Jr.ok {t:Tree} {ts vs:List Tok} (h:Ex e us ts vs):Jr E e us (okT t ts) (okT t vs):=by
 intro t' ts' h' _;simp only [okT,Option.some.injEq,Except.ok.injEq,Prod.mk.injEq] at h';obtain ⟨rfl,rfl⟩:=h';exact ⟨vs,rfl,h⟩
theorem Jr.weak {p q:PR} (h:Jr false e us p q):Jr E e us p q:=fun t ts' h1 _=>h t ts' h1 (fun h=>by cases h)
theorem Jr.bind {E1:Bool} (he:e.kind=6) {p q:PR} {k k':Tree→List Tok→PR} (hp:Jr E1 e us p q) (hg:Eh (fun _=>True) p) (hd:E1=true→∀ t,∀ x:Tok,x.kind=6→Dd E (k t [x]))
 (hk:∀ t ts vs,Ex e us ts vs→Jr E e us (k t ts) (k' t vs)):Jr E e us (Zz p k) (Zz q k'):=by
 cases p with
 | none=>intro t ts h; cases h
 | some r =>
   cases r with
   | error x=>intro t ts h; cases h
   | ok x =>
     obtain ⟨t,ts⟩:=x;intro t2 ts2 h hE;by_cases hc:E1=true→2≤ts.length
     ·obtain ⟨vs,h1,h2⟩:=hp t ts rfl hc;rw [h1];exact hk t ts vs h2 t2 ts2 h hE
     ·exfalso;simp only [Classical.not_imp] at hc;obtain ⟨p1,e1,h3,h4⟩:=hg t ts rfl;have h5:p1=[]:=by
       cases p1 with
       | nil=>rfl
       | cons x p=>rw [h3] at hc; simp at hc
      subst h5;have h6:=hd hc.1 t e1 h4 t2 ts2 (by rw [← List.nil_append [e1],← h3]; exact h);have:=hE h6.1;omega
theorem Z24 {x:Tok} (hx:x.kind=6) (s:ByteArray):isT s [x]=false:=by simp [isT,hdT,hx]
theorem Zf9 (he:e.kind=6) {ts vs:List Tok} (h:Ex e us ts vs) {s:ByteArray} (hs:isT s ts=true):2≤ts.length:=by
 by_cases hl:2≤ts.length;·exact hl
 ·rw [(h.last hl).1,Z24 he] at hs;cases hs
theorem Z53 {ts vs:List Tok} (h:Ex e us ts vs) (hl:2≤ts.length) (s:ByteArray):isT s vs=isT s ts:=by
 obtain ⟨h1,h2,h3⟩:=(h.step hl).1;unfold isT;rw [h1,h2]
theorem Jr.want (he:e.kind=6) {s:ByteArray} {ts vs:List Tok} {k k':List Tok→PR} (h:Ex e us ts vs) (hk:2≤ts.length→Ex e us ts.tail vs.tail→Jr E e us (k ts.tail) (k' vs.tail)):Jr E e us (Z0i s ts k) (Z0i s vs k'):=by
 unfold Z0i;by_cases hs:isT s ts=true
 ·have hl:=Zf9 he h hs;rw [Y5 hs,Y5 (by rw [Z53 h hl]; exact hs)];exact hk hl (h.step hl).2
 ·rw [Y3 hs]; exact Jr.fail
theorem Jr.name (he:e.kind=6) {ts vs:List Tok} {k k':ByteArray→List Tok→PR} (h:Ex e us ts vs) (hk:∀ s,Ex e us ts.tail vs.tail→Jr E e us (k s ts.tail) (k' s vs.tail)):Jr E e us (Z1m ts k) (Z1m vs k'):=by
 unfold Z1m;by_cases hs:(hdT ts).kind=1
 ·have hl:2≤ts.length:=by
   by_cases hl:2≤ts.length;·exact hl
   ·rw [(h.last hl).1] at hs;simp [hdT] at hs;omega
  obtain ⟨⟨h1,h2,h3⟩,h4⟩:=h.step hl;rw [Y5 hs,Y5 (by rw [← h1]; exact hs),← h2];exact hk _ h4
 ·rw [Y3 hs]; exact Jr.fail
theorem Jr.within {d:Nat} {ts vs:List Tok} {p q:PR} (h:Jr E e us p q):Jr E e us (Z00 d ts p) (Z00 d vs q):=by
 unfold Z00;by_cases h':30 < d + 1;·rw [Y5 h',Y5 h']; exact Jr.fail
 ·rw [Y3 h',Y3 h']; exact h
theorem Jr.ite {c:Prop} [Decidable c] {p q p' q':PR} (hp:c→Jr E e us p p') (hq:¬ c→Jr E e us q q'):Jr E e us (if c then p else q) (if c then p' else q'):=by
 by_cases h:c;·rw [Y5 h,Y5 h]; exact hp h
 ·rw [Y3 h,Y3 h]; exact hq h
theorem Jr.end' (he:e.kind=6) {t:Tree} {ts vs:List Tok} (h:Ex e us ts vs):Jr E e us (endT t ts) (endT t vs):=Jr.want he h fun _ h2=>Jr.ok h2
theorem Jr.comma (he:e.kind=6) {c:Prop} [Decidable c] {ts vs:List Tok} {k k':List Tok→PR} (h:Ex e us ts vs) (hk:∀ ts vs,Ex e us ts vs→Jr E e us (k ts) (k' vs)):Jr E e us ((if c then Z0i Z0n ts else fun k=>k ts) k) ((if c then Z0i Z0n vs else fun k=>k vs) k'):=by
 by_cases h':c;·rw [Y5 h',Y5 h']; exact Jr.want he h fun _ h2=>hk _ _ h2
 ·rw [Y3 h',Y3 h']; exact hk _ _ h
end
section
variable {E:Bool} {x:Tok}
theorem Dd.fail {y:Int} {ts:List Tok}:Dd E (Z1k y ts):=by intro t ts' h; cases h
theorem Dd.err {y:Int×Nat}:Dd E (some (.error y)):=by intro t ts' h; cases h
theorem Dd.ok {t:Tree}:Dd true (okT t [x]):=by
 intro t' ts' h;simp only [okT,Option.some.injEq,Except.ok.injEq,Prod.mk.injEq] at h;obtain ⟨rfl,rfl⟩:=h;exact ⟨rfl,Y0 _⟩
theorem Dd.want (hx:x.kind=6) {s:ByteArray} {k:List Tok→PR}:Dd E (Z0i s [x] k):=by
 unfold Z0i;rw [Y3 (by rw [Z24 hx]; simp)];exact Dd.fail
theorem Dd.never {r:PR} (h:∀ t ts',r≠some (.ok (t,ts'))):Dd E r:=fun t ts' h1=>absurd h1 (h t ts')
theorem Z1o (hx:x.kind=6) {f:Nat} {job:Job} {d:Nat} (hj:job.least=0):∀ t ts',Z0 f job d [x]≠some (.ok (t,ts')):=by
 intro t ts' h;have h1:=Z0c f job d [x] t ts' h;obtain ⟨p,e,h2,_⟩:=Z6c f job d [x] ⟨[],x,rfl,hx⟩ t ts' h;rw [h2] at h1;simp [hj] at h1
theorem Dd.parse (hx:x.kind=6) {f:Nat} {job:Job} {d:Nat} (hj:job.least=0):Dd E (Z0 f job d [x]):=Dd.never (Z1o hx hj)
theorem Dd.loop {f:Nat} {job:Job} {d:Nat} (hj:job.least=1):Dd true (Z0 f job d [x]):=by
 intro t ts' h;have h1:=Z0c f job d [x] t ts' h;simp [hj] at h1;exact ⟨rfl,by omega⟩
theorem Z1j {p:PR} {k:Tree→List Tok→PR} (h:∀ t ts',p≠some (.ok (t,ts'))):∀ t ts',Zz p k≠some (.ok (t,ts')):=by
 intro t ts' h1;cases p with
 | none=>cases h1
 | some r =>
   cases r with
   | error y=>cases h1
   | ok y=>obtain ⟨t2,ts2⟩:=y; exact h t2 ts2 rfl
theorem Z2e {d:Nat} {ts:List Tok} {p:PR} (h:∀ t ts',p≠some (.ok (t,ts'))):∀ t ts',Z00 d ts p≠some (.ok (t,ts')):=by
 intro t ts' h1;unfold Z00 at h1;split at h1;·cases h1
 ·exact h t ts' h1
end
def Job.expr:Job→Bool
 | .stmt=>false
 | .block _=>false
 | .func _ _=>false
 | .try_=>false
 | .stmts _ _=>false
 | _=>true
def Job.inner:Job→Prop
 | .stmts kind _=>kind≠1
 | _=>True
theorem Za5 {e:Tok} {us:List Tok} (he:e.kind=6) (hu1:isT Z2o us=false) (hu2:isT Z10 us=false) (hu3:isT Zs us=false) :
 ∀ (f:Nat) (job:Job) (d:Nat) (ts vs:List Tok) (f':Nat),f≤f'→Ex e us ts vs→job.inner→Jr job.expr e us (Z0 f job d ts) (Z0 f' job d vs):=by
 intro f;induction f with
 | zero=>intro job d ts vs f' _ _ _; unfold Z0; exact Jr.none
 | succ f ih =>
   intro job d ts vs f' hf hx hin;obtain ⟨g,rfl⟩:∃ g,f'=g + 1:=⟨f' - 1,by omega⟩
   have hfg:f≤g:=by omega
   have hge:=Z6c f;by_cases hl:2≤ts.length;rotate_left
   ·obtain ⟨h1, _⟩ := hx.last hl;rw [h1];intro t ts' h hE;by_cases hj : job.least = 0;·exact absurd h (Z1o he hj t ts')
    ·cases job with
     | stmts kind acc =>
       exfalso;unfold Z0 at h;rw [Y3 (by rw [Y3 hin,Z24 he]; simp)] at h;exact Z1j (Z2e (Z1o he rfl)) t ts' h
     | params acc=>have:=Z0c _ _ _ _ t ts' h; have:=hE rfl; simp [Job.least] at *; omega
     | binLoop l x=>have:=Z0c _ _ _ _ t ts' h; have:=hE rfl; simp [Job.least] at *; omega
     | postLoop x=>have:=Z0c _ _ _ _ t ts' h; have:=hE rfl; simp [Job.least] at *; omega
     | _=>exact absurd rfl hj
   obtain ⟨⟨kd,tx,nn⟩,ht⟩:=hx.step hl;have it:∀ s,isT s vs=isT s ts:=fun s=>Z53 hx hl s;have lv:∀ l,Z14 l vs=Z14 l ts:=fun l=>by unfold Z14; simp only [it]
   have un:Z1l vs=Z1l ts:=by unfold Z1l; simp only [it]
   have cn:Z1n vs=Z1n ts:=by unfold Z1n; simp only [it]
   have gt:∀ {s},isT s ts=true→Ge ts.tail:=fun h=>(hx.ge he).t1 h;cases job with
   | stmts kind acc =>
     unfold Z0;have hk:kind≠1:=hin;simp only [if_neg hk,it];refine Jr.ite (fun _=>Jr.ok hx) fun _=>?_;exact Jr.bind he (Jr.within (ih .stmt _ _ _ g hfg hx trivial)) (Eh.within (hge _ _ _ (hx.ge he))) (fun h=>by cases h) fun t ts vs h=>ih (.stmts kind _) _ _ _ g hfg h hk
   | block body =>
     unfold Z0;refine Jr.want he hx fun _ h1=>Jr.bind he (ih (.stmts 6 []) _ _ _ g hfg h1 (by show (6:Int)≠1; omega)) (hge _ _ _ (h1.ge he)) (fun h=>by cases h) fun t ts vs h=>Jr.want he h fun _ h2=>Jr.ok h2
   | func kind text =>
     unfold Z0;refine Jr.want he hx fun _ h1=>Jr.bind he (ih (.params []) _ _ _ g hfg h1 trivial) (hge _ _ _ (h1.ge he)) (fun _ t x hx=>Dd.want hx) fun t ts vs h=>Jr.want he h fun _ h2=>?_;exact Jr.bind he (ih (.block true) _ _ _ g hfg h2 trivial) (hge _ _ _ (h2.ge he)) (fun h=>by cases h) fun t ts vs h=>Jr.ok h
   | params acc =>
     unfold Z0;simp only [it];refine Jr.ite (fun _=>Jr.ok hx) fun _=>?_;exact Jr.comma he hx fun ts vs h=>Jr.ite (fun _=>Jr.fail) fun _=>Jr.name he h fun s h2=>ih (.params _) _ _ _ g hfg h2 trivial
   | around =>
     unfold Z0;exact Jr.want he hx fun _ h1=>Jr.bind he (ih .value _ _ _ g hfg h1 trivial) (hge _ _ _ (h1.ge he)) (fun _ t x hx=>Dd.want hx) fun t ts vs h=>Jr.want he h fun _ h2=>Jr.ok h2
   | stmt =>
     unfold Z0;simp only [it];have hend:∀ (k:Int),∀ (_:Tree) (x:Tok),x.kind=6→∀ n:Tree,Dd false (endT n [x]):=fun _ _ x hx n=>Dd.want hx;refine Jr.ite (fun h=>ih (.block false) _ _ _ g hfg hx trivial) fun _=>?_;refine Jr.ite (fun h=>Jr.ok ht) fun _=>?_;refine Jr.ite (fun h=>Jr.bind he (ih (.decl 2 false) _ _ _ g hfg ht trivial) (hge _ _ _ (gt h)) (fun _ t x hx=>Dd.want hx) fun t ts vs h=>Jr.end' he h) fun _=>?_
     refine Jr.ite (fun h=>Jr.bind he (ih (.decl 3 false) _ _ _ g hfg ht trivial) (hge _ _ _ (gt h)) (fun _ t x hx=>Dd.want hx) fun t ts vs h=>Jr.end' he h) fun _=>?_;refine Jr.ite (fun h=>Jr.bind he (ih (.decl 4 true) _ _ _ g hfg ht trivial) (hge _ _ _ (gt h)) (fun _ t x hx=>Dd.want hx) fun t ts vs h=>Jr.end' he h) fun _=>?_;refine Jr.ite (fun h=>Jr.name he ht fun s h2=>ih (.func 5 s) _ _ _ g hfg h2 trivial) fun _=>?_;refine Jr.ite (fun h=>?_) fun _=>?_
     ·refine Jr.bind he (ih .around _ _ _ g hfg ht trivial) (hge _ _ _ (gt h)) (fun _ t x hx => Dd.never (Z1j (Z2e (Z1o hx rfl)))) fun t ts vs h1 => ?_;refine Jr.bind he (Jr.within (ih .stmt _ _ _ g hfg h1 trivial)) (Eh.within (hge _ _ _ (h1.ge he))) (fun h => by cases h) fun y ts vs h2 => ?_;by_cases hl2 : 2 ≤ ts.length
      ·simp only [Z53 h2 hl2];refine Jr.ite (fun h3=>?_) fun _=>Jr.ok h2;exact Jr.bind he (Jr.within (ih .stmt _ _ _ g hfg (h2.step hl2).2 trivial)) (Eh.within (hge _ _ _ ((h2.ge he).t1 h3))) (fun h=>by cases h) fun z ts vs h4=>Jr.ok h4
      ·obtain ⟨e1,e2⟩:=h2.last hl2;rw [Y3 (by rw [e1,Z24 he]; simp),Y3 (by rw [e2,hu1]; simp)];exact Jr.ok h2
     refine Jr.ite (fun h=>?_) fun _=>?_
     ·refine Jr.bind he (ih .around _ _ _ g hfg ht trivial) (hge _ _ _ (gt h)) (fun _ t x hx=>Dd.never (Z1j (Z2e (Z1o hx rfl)))) fun t ts vs h1=>?_;exact Jr.bind he (Jr.within (ih .stmt _ _ _ g hfg h1 trivial)) (Eh.within (hge _ _ _ (h1.ge he))) (fun h=>by cases h) fun y ts vs h2=>Jr.ok h2
     refine Jr.ite (fun h=>?_) fun _=>?_
     ·refine Jr.bind he (ih .around _ _ _ g hfg ht trivial) (hge _ _ _ (gt h)) (fun _ t x hx=>Dd.never (Z1j (Z2e (Z1o hx rfl)))) fun t ts vs h1=>?_;exact Jr.bind he (Jr.within (ih .stmt _ _ _ g hfg h1 trivial)) (Eh.within (hge _ _ _ (h1.ge he))) (fun h=>by cases h) fun y ts vs h2=>Jr.ok h2
     refine Jr.ite (fun h=>?_) fun _=>?_
     ·by_cases hl2 : 2 ≤ ts.tail.length
      ·simp only [Z53 ht hl2];refine Jr.ite (fun h3=>Jr.end' he ht) fun _=>?_;exact Jr.bind he (ih .value _ _ _ g hfg ht trivial) (hge _ _ _ (gt h)) (fun _ t x hx=>Dd.want hx) fun t ts vs h=>Jr.end' he h
      ·obtain ⟨e1,e2⟩:=ht.last hl2;rw [e1,Y3 (by rw [Z24 he]; simp)];intro t ts' h4;exact absurd h4 (Z1j (Z1o he rfl) t ts')
     refine Jr.ite (fun h=>Jr.bind he (ih .value _ _ _ g hfg ht trivial) (hge _ _ _ (gt h)) (fun _ t x hx=>Dd.want hx) fun t ts vs h=>Jr.end' he h) fun _=>?_;refine Jr.ite (fun h=>ih .try_ _ _ _ g hfg ht trivial) fun _=>?_;exact Jr.bind he (ih .value _ _ _ g hfg hx trivial) (hge _ _ _ (hx.ge he)) (fun _ t x hx=>Dd.want hx) fun t ts vs h=>Jr.end' he h
   | decl kind must =>
     unfold Z0;refine Jr.name he hx fun s h1=>?_;by_cases hl2:2≤ts.tail.length
     ·simp only [Z53 h1 hl2];refine Jr.ite (fun _=>Jr.fail) fun _=>Jr.ite (fun h3=>?_) fun _=>Jr.ok h1;exact Jr.bind he (ih .value _ _ _ g hfg (h1.step hl2).2 trivial) (hge _ _ _ ((h1.ge he).t1 h3)) (fun _ t x hx=>Dd.ok) fun t ts vs h=>Jr.ok h
     ·obtain ⟨e1, e2⟩ := h1.last hl2;rw [e1];intro t ts' h4 hE;exfalso;have h5 := hE rfl;rw [Z24 he] at h4;simp only [Bool.not_false, Bool.and_true, Bool.false_eq_true, if_false] at h4;split at h4;·cases h4
      ·simp only [okT,Option.some.injEq,Except.ok.injEq,Prod.mk.injEq] at h4;rw [← h4.2] at h5;simp at h5
   | try_ =>
     unfold Z0;refine Jr.bind he (ih (.block false) _ _ _ g hfg hx trivial) (hge _ _ _ (hx.ge he)) (fun h=>by cases h) fun b ts vs h=>?_
     have hk:∀ (l:List Tree) (ts vs:List Tok),Ex e us ts vs→Jr false e us (if isT Zs ts then Zz (Z0 f (.block false) d ts.tail) fun c ts=>okT (.mk 12 ByteArray.empty 0 (l ++ [.mk 14 ByteArray.empty 0 [c]])) ts else if l.length=1 then Z1k 3 ts else okT (.mk 12 ByteArray.empty 0 l) ts)
      (if isT Zs vs then Zz (Z0 g (.block false) d vs.tail) fun c ts=>okT (.mk 12 ByteArray.empty 0 (l ++ [.mk 14 ByteArray.empty 0 [c]])) ts else if l.length=1 then Z1k 3 vs else okT (.mk 12 ByteArray.empty 0 l) vs):=by
      intro l ts vs h;by_cases hl2:2≤ts.length
      ·simp only [Z53 h hl2];refine Jr.ite (fun h3=>?_) fun _=>Jr.ite (fun _=>Jr.fail) fun _=>Jr.ok h;exact Jr.bind he (ih (.block false) _ _ _ g hfg (h.step hl2).2 trivial) (hge _ _ _ ((h.ge he).t1 h3)) (fun h=>by cases h) fun t ts vs h=>Jr.ok h
      ·obtain ⟨e1, e2⟩ := h.last hl2;have b1 : isT Zs ts = false := by rw [e1, Z24 he]
       have b2:isT Zs vs=false:=by rw [e2,hu3]
       simp only [b1,b2,Bool.false_eq_true,if_false];exact Jr.ite (fun _=>Jr.fail) fun _=>Jr.ok h
     dsimp only
     by_cases hl2:2≤ts.length
     ·rw [show isT Z10 vs=isT Z10 ts from Z53 h hl2 _];refine Jr.ite (fun h3=>?_) fun _=>hk _ _ _ h;refine Jr.want he (h.step hl2).2 fun _ h4=>Jr.name he h4 fun s h5=>Jr.want he h5 fun _ h6=>?_;exact Jr.bind he (ih (.block false) _ _ _ g hfg h6 trivial) (hge _ _ _ (h6.ge he)) (fun h=>by cases h) fun c ts vs h7=>hk _ _ _ h7
     ·obtain ⟨e1, e2⟩ := h.last hl2;have b1 : isT Z10 ts = false := by rw [e1, Z24 he]
      have b2:isT Z10 vs=false:=by rw [e2,hu2]
      simp only [b1,b2,Bool.false_eq_true,if_false];exact hk _ _ _ h
   | value=>unfold Z0; exact Jr.within (ih .assign _ _ _ g hfg hx trivial)
   | assign =>
     unfold Z0;refine Jr.bind he (ih (.bin 0) _ _ _ g hfg hx trivial) (hge _ _ _ (hx.ge he)) (fun _ t x hx=>?_) fun x ts vs h=>?_;·rw [Y3 (by rw [Z24 hx]; simp)]; exact Dd.ok
     by_cases hl2:2≤ts.length
     ·simp only [Z53 h hl2];refine Jr.ite (fun h3=>Jr.ite (fun _=>?_) fun _=>Jr.err) fun _=>Jr.ok h;exact Jr.bind he (ih .value _ _ _ g hfg (h.step hl2).2 trivial) (hge _ _ _ ((h.ge he).t1 h3)) (fun _ t x hx=>Dd.ok) fun t ts vs h=>Jr.ok h
     ·obtain ⟨e1,e2⟩:=h.last hl2;rw [e1,Y3 (by rw [Z24 he]; simp)];intro t ts' h4 hE;exfalso;have h5:=hE rfl;simp only [okT,Option.some.injEq,Except.ok.injEq,Prod.mk.injEq] at h4;rw [← h4.2] at h5;simp at h5
   | bin level =>
     unfold Z0;refine Jr.ite (fun _=>ih .unary _ _ _ g hfg hx trivial) fun _=>?_;exact Jr.bind he (ih (.bin (level + 1)) _ _ _ g hfg hx trivial) (hge _ _ _ (hx.ge he)) (fun _ t x hx=>Dd.loop rfl) fun x ts vs h=>ih (.binLoop level x) _ _ _ g hfg h trivial
   | binLoop level x =>
     unfold Z0;simp only [lv];refine Jr.ite (fun _=>Jr.ok hx) fun h0=>?_;exact Jr.bind he (ih (.bin (level + 1)) _ _ _ g hfg ht trivial) (hge _ _ _ ((hx.ge he).t3 h0)) (fun _ t x hx=>Dd.loop rfl) fun y ts vs h=>ih (.binLoop level _) _ _ _ g hfg h trivial
   | unary =>
     unfold Z0;simp only [un];refine Jr.ite (fun _=>ih .postfix_ _ _ _ g hfg hx trivial) fun h0=>?_;exact Jr.bind he (Jr.within (ih .unary _ _ _ g hfg ht trivial)) (Eh.within (hge _ _ _ ((hx.ge he).t2 h0))) (fun _ t x hx=>Dd.ok) fun x ts vs h=>Jr.ok h
   | postfix_ =>
     unfold Z0;exact Jr.bind he (ih .primary _ _ _ g hfg hx trivial) (hge _ _ _ (hx.ge he)) (fun _ t x hx=>Dd.loop rfl) fun x ts vs h=>ih (.postLoop x) _ _ _ g hfg h trivial
   | postLoop x =>
     unfold Z0;simp only [it];refine Jr.ite (fun h=>Jr.name he ht fun s h2=>ih (.postLoop _) _ _ _ g hfg h2 trivial) fun _=>?_;refine Jr.ite (fun h=>?_) fun _=>Jr.ok hx;exact Jr.bind he (ih (.args [x]) _ _ _ g hfg ht trivial) (hge _ _ _ (gt h)) (fun _ t x hx=>Dd.loop rfl) fun n ts vs h=>ih (.postLoop n) _ _ _ g hfg h trivial
   | args acc =>
     unfold Z0;simp only [it];refine Jr.ite (fun _=>Jr.ok ht) fun _=>?_;refine Jr.comma he hx fun ts vs h=>Jr.ite (fun _=>Jr.fail) fun _=>?_;exact Jr.bind he (ih .value _ _ _ g hfg h trivial) (hge _ _ _ (h.ge he)) (fun _ t x hx=>Dd.parse hx rfl) fun v ts vs h=>ih (.args _) _ _ _ g hfg h trivial
   | primary =>
     unfold Z0;simp only [it,← kd,← tx,← nn,cn];refine Jr.ite (fun _=>Jr.ok ht) fun _=>?_;refine Jr.ite (fun _=>Jr.ok ht) fun _=>?_;refine Jr.ite (fun _=>Jr.ok ht) fun _=>?_;refine Jr.ite (fun _=>Jr.ok ht) fun _=>?_;refine Jr.ite (fun _=>ih .around _ _ _ g hfg hx trivial) fun _=>?_;refine Jr.ite (fun h=>?_) fun _=>?_
     ·by_cases hl2 : 2 ≤ ts.tail.length
      ·obtain ⟨⟨a1,a2,a3⟩,a4⟩:=ht.step hl2;simp only [← a1,← a2];exact Jr.ite (fun _=>Jr.weak (ih (.func 37 _) _ _ _ g hfg a4 trivial)) fun _=>Jr.weak (ih (.func 37 _) _ _ _ g hfg ht trivial)
      ·obtain ⟨e1,e2⟩:=ht.last hl2;rw [e1,Y3 (by simp [hdT]; omega)];intro t ts' h4;exact absurd h4 (Z1o he rfl t ts')
     exact Jr.ite (fun h=>ih (.object []) _ _ _ g hfg ht trivial) fun _=>Jr.fail
   | object acc =>
     unfold Z0;simp only [it];refine Jr.ite (fun _=>Jr.ok ht) fun _=>?_;refine Jr.comma he hx fun ts vs h=>Jr.ite (fun _=>Jr.fail) fun _=>Jr.name he h fun s h2=>Jr.want he h2 fun _ h3=>?_;exact Jr.bind he (ih .value _ _ _ g hfg h3 trivial) (hge _ _ _ (h3.ge he)) (fun _ t x hx=>Dd.parse hx rfl) fun v ts vs h=>ih (.object _) _ _ _ g hfg h trivial
end Go.Proofs.YtjcgkdfeplbajaaGreatDoor
