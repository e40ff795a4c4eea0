/- Package tree: a name's text is not empty; a program is at the root alo -/
import Derived.Test.YtedopiahfejdfaaGreatDoorJ10
import Derived.ArgAppend
namespace Go.Proofs.YtedopiahfejdfaaGreatDoor
open Go Go.RowKit
set_option maxRecDepth 100000
set_option maxHeartbeats 20000000
set_option linter.unusedVariables false
def NAr (k:Int) (s:ByteArray) (l:List Tree):Prop:=k≠1∧(k=23→s≠ByteArray.empty∧l=[])
theorem NAr.any {k:Int} {s:ByteArray} {l:List Tree} (h:k≠1∧k≠23):NAr k s l:=⟨h.1,fun h'=>absurd h' h.2⟩
mutual
def NT:Tree→Prop
 | .mk k s _ l=>NAr k s l∧NTL l
def NTL:List Tree→Prop
 | []=>True
 | t :: l=>NT t∧NTL l
end
theorem Z72 {l m:List Tree} (h:NTL l) (g:NTL m):NTL (l ++ m):=by
 induction l with
 | nil=>exact g
 | cons x l ih=>exact ⟨h.1,ih h.2⟩
theorem NT.kids {t:Tree} (h:NT t):NTL t.kids:=by cases t; exact h.2
theorem NT.leaf {k:Int} {s:ByteArray} {n:Int} (h:k≠1∧k≠23):NT (.mk k s n []):=⟨NAr.any h,trivial⟩
theorem NT.nm {s:ByteArray} {n:Int} (h:s≠ByteArray.empty):NT (.mk 23 s n []):=⟨⟨by omega,fun _=>⟨h,rfl⟩⟩,trivial⟩
def GTk (ts:List Tok):Prop:=∀ t∈ts,t.kind=1→t.text≠ByteArray.empty
theorem GTk.tail {ts:List Tok} (h:GTk ts):GTk ts.tail:=fun t ht=>h t (List.mem_of_mem_tail ht)
theorem GTk.hd {ts:List Tok} (h:GTk ts) (hk:(hdT ts).kind=1):(hdT ts).text≠ByteArray.empty:=by
 cases ts with
 | nil=>simp [hdT] at hk
 | cons t l=>exact h t (by simp) hk
def Nh (P:Tree→Prop) (p:PR):Prop:=∀ t ts,p=some (.ok (t,ts))→P t∧GTk ts
theorem Nh.fail {P:Tree→Prop} {e:Int} {ts:List Tok}:Nh P (Z11 e ts):=by intro t ts' h; cases h
theorem Nh.none {P:Tree→Prop}:Nh P none:=by intro t ts' h; cases h
theorem Nh.err {P:Tree→Prop} {e:Int×Nat}:Nh P (some (.error e)):=by intro t ts' h; cases h
theorem Nh.ok {P:Tree→Prop} {t:Tree} {ts:List Tok} (h:P t) (g:GTk ts:=by first | assumption | exact GTk.tail (by assumption) | exact GTk.tail (GTk.tail (by assumption))):Nh P (okT t ts):=by
 intro t' ts' h';simp only [okT,Option.some.injEq,Except.ok.injEq,Prod.mk.injEq] at h';rw [← h'.1,← h'.2]; exact ⟨h,g⟩
theorem Nh.bind {P Q:Tree→Prop} {p:PR} {k:Tree→List Tok→PR} (hp:Nh P p) (hk:∀ t ts,P t→GTk ts→Nh Q (k t ts)):Nh Q (Zh p k):=by
 cases p with
 | none=>exact Nh.none
 | some r =>
   cases r with
   | error e=>exact Nh.err
   | ok x=>obtain ⟨t,ts⟩:=x; exact hk t ts (hp t ts rfl).1 (hp t ts rfl).2
theorem Nh.want {P:Tree→Prop} {s:ByteArray} {ts:List Tok} {k:List Tok→PR} (hk:GTk ts.tail→Nh P (k ts.tail)) (g:GTk ts:=by first | assumption | exact GTk.tail (by assumption) | exact GTk.tail (GTk.tail (by assumption))):Nh P (Z00 s ts k):=by
 unfold Z00;by_cases h:isT s ts=true;·rw [Y5 h]; exact hk g.tail
 ·rw [Y3 h]; exact Nh.fail
theorem Nh.name {P:Tree→Prop} {ts:List Tok} {k:ByteArray→List Tok→PR} (hk:∀ s,s≠ByteArray.empty→GTk ts.tail→Nh P (k s ts.tail)) (g:GTk ts:=by first | assumption | exact GTk.tail (by assumption) | exact GTk.tail (GTk.tail (by assumption))):Nh P (Z13 ts k):=by
 unfold Z13;by_cases h:(hdT ts).kind=1;·rw [Y5 h]; exact hk _ (g.hd h) g.tail
 ·rw [Y3 h]; exact Nh.fail
theorem Nh.within {P:Tree→Prop} {d:Nat} {ts:List Tok} {p:PR} (h:Nh P p):Nh P (Zj d ts p):=by
 unfold Zj;by_cases h':30 < d + 1;·rw [Y5 h']; exact Nh.fail
 ·rw [Y3 h']; exact h
theorem Nh.ite {P:Tree→Prop} {c:Prop} [Decidable c] {p q:PR} (hp:c→Nh P p) (hq:¬ c→Nh P q):Nh P (if c then p else q):=by
 by_cases h:c;·rw [Y5 h]; exact hp h
 ·rw [Y3 h]; exact hq h
theorem Nh.comma {P:Tree→Prop} {c:Prop} [Decidable c] {ts:List Tok} {k:List Tok→PR} (hk:∀ ts',GTk ts'→Nh P (k ts')) (g:GTk ts:=by first | assumption | exact GTk.tail (by assumption) | exact GTk.tail (GTk.tail (by assumption))):Nh P ((if c then Z00 Z07 ts else fun k=>k ts) k):=by
 by_cases h:c;·rw [Y5 h]; exact Nh.want (hk _)
 ·rw [Y3 h]; exact hk _ g
theorem Nh.end' {P:Tree→Prop} {t:Tree} {ts:List Tok} (h:P t) (g:GTk ts:=by first | assumption | exact GTk.tail (by assumption) | exact GTk.tail (GTk.tail (by assumption))):Nh P (endT t ts):=Nh.want fun _=>Nh.ok h
theorem Nh.weak {P Q:Tree→Prop} {p:PR} (h:Nh P p) (g:∀ t,P t→Q t):Nh Q p:=fun t ts e=>⟨g t (h t ts e).1,(h t ts e).2⟩
def Job.resZ:Job→Tree→Prop
 | .stmts kind _=>fun t=>NTL t.kids∧t.kind=kind
 | .block _=>fun t=>NT t∧t.kind=6
 | _=>NT
def Job.goodZ:Job→Prop
 | .stmts kind acc=>(kind=1∨kind=6)∧NTL acc
 | .func kind _=>kind=5∨kind=37
 | .params acc=>NTL acc
 | .decl kind _=>kind=2∨kind=3∨kind=4
 | .binLoop _ x=>NT x
 | .postLoop x=>NT x
 | .args acc=>NTL acc∧acc≠[]
 | .object acc=>NTL acc
 | _=>True
theorem Zcz (lv:Nat) (ts:List Tok):Z03 lv ts=0∨(25≤Z03 lv ts∧Z03 lv ts≤31):=by
 unfold Z03;split <;> (try split) <;> (try split) <;> omega
theorem Zdi (ts:List Tok):Z0i ts=0∨(32≤Z0i ts∧Z0i ts≤34):=by
 unfold Z0i;split <;> (try split) <;> (try split) <;> omega
theorem Zck (ts:List Tok):Z0j ts=0∨(19≤Z0j ts∧Z0j ts≤22):=by
 unfold Z0j;split <;> (try split) <;> (try split) <;> (try split) <;> omega
theorem Z8o {k:Int} {s:ByteArray} {n:Int} {x y:Tree} (hx:NT x) (hy:NT y) (h:k≠1∧k≠23):NT (.mk k s n [x,y]):=⟨NAr.any h,hx,hy,trivial⟩
theorem Z4k {k:Int} {s:ByteArray} {n:Int} {x:Tree} (hx:NT x) (h:k≠1∧k≠23):NT (.mk k s n [x]):=⟨NAr.any h,hx,trivial⟩
theorem Z6l {k:Int} {s:ByteArray} {n:Int} {l:List Tree} (hx:NTL l) (h:k≠1∧k≠23):NT (.mk k s n l):=⟨NAr.any h,hx⟩
theorem Z9v:∀ (f:Nat) (job:Job) (d:Nat) (ts:List Tok),job.goodZ→GTk ts→Nh job.resZ (Z0 f job d ts):=by
 intro f;induction f with
 | zero=>intro job d ts _ _; unfold Z0; exact Nh.none
 | succ f ih =>
   intro job d ts hg g0;cases job with
   | stmts kind acc =>
     unfold Z0;show Nh (fun t=>NTL t.kids∧t.kind=kind) _;refine Nh.ite (fun _=>Nh.ok ⟨hg.2,rfl⟩) fun _=>?_;exact Nh.bind (Nh.within (ih .stmt _ _ trivial (by first | assumption | exact GTk.tail (by assumption) | exact GTk.tail (GTk.tail (by assumption))))) fun t ts' h _=>ih _ _ _ ⟨hg.1,Z72 hg.2 ⟨h,trivial⟩⟩ (by first | assumption | exact GTk.tail (by assumption) | exact GTk.tail (GTk.tail (by assumption)))
   | block body =>
     unfold Z0;refine Nh.want (fun _=>Nh.bind (ih (.stmts 6 []) _ _ ⟨.inr rfl,trivial⟩ (by first | assumption | exact GTk.tail (by assumption) | exact GTk.tail (GTk.tail (by assumption)))) fun t ts' h' _=>Nh.want (fun _=>Nh.ok ?_));show NT _∧_;by_cases hb:body=true
     ·rw [Y5 hb];refine ⟨?_,h'.2⟩;obtain ⟨k,s,n,l⟩:=t;have hk:k=6:=h'.2;exact ⟨NAr.any (by omega),h'.1⟩
     ·rw [Y3 hb]; exact ⟨Z6l h'.1 (by omega),rfl⟩
   | func kind text =>
     unfold Z0;show Nh NT _;exact Nh.want (fun _=>Nh.bind (ih (.params []) _ _ trivial (by first | assumption | exact GTk.tail (by assumption) | exact GTk.tail (GTk.tail (by assumption)))) fun t ts' h' _=>Nh.want (fun _=>Nh.bind (ih (.block true) _ _ trivial (by first | assumption | exact GTk.tail (by assumption) | exact GTk.tail (GTk.tail (by assumption)))) fun t ts' h3 _=>Nh.ok ⟨NAr.any (by have:kind=5∨kind=37:=hg; omega),h',h3.1,trivial⟩))
   | params acc =>
     unfold Z0;show Nh NT _;refine Nh.ite (fun _=>Nh.ok (Z6l hg (by omega))) fun _=>?_;exact Nh.comma fun ts' _=>Nh.ite (fun _=>Nh.fail) fun _=>Nh.name fun s hs _=>ih _ _ _ (Z72 hg ⟨NT.nm hs,trivial⟩) (by first | assumption | exact GTk.tail (by assumption) | exact GTk.tail (GTk.tail (by assumption)))
   | around =>
     unfold Z0;show Nh NT _;exact Nh.want (fun _=>Nh.bind (ih .value _ _ trivial (by first | assumption | exact GTk.tail (by assumption) | exact GTk.tail (GTk.tail (by assumption)))) fun t ts' h' _=>Nh.want (fun _=>Nh.ok h'))
   | stmt =>
     unfold Z0;show Nh NT _;refine Nh.ite (fun h=>(ih (.block false) _ _ trivial (by first | assumption | exact GTk.tail (by assumption) | exact GTk.tail (GTk.tail (by assumption)))).weak fun _ h=>h.1) fun _=>?_;refine Nh.ite (fun h=>Nh.ok (NT.leaf (by omega))) fun _=>?_;refine Nh.ite (fun h=>Nh.bind (ih (.decl 2 false) _ _ (.inl rfl) (by first | assumption | exact GTk.tail (by assumption) | exact GTk.tail (GTk.tail (by assumption)))) fun t us h2 _=>Nh.end' h2) fun _=>?_
     refine Nh.ite (fun h=>Nh.bind (ih (.decl 3 false) _ _ (.inr (.inl rfl)) (by first | assumption | exact GTk.tail (by assumption) | exact GTk.tail (GTk.tail (by assumption)))) fun t us h2 _=>Nh.end' h2) fun _=>?_;refine Nh.ite (fun h=>Nh.bind (ih (.decl 4 true) _ _ (.inr (.inr rfl)) (by first | assumption | exact GTk.tail (by assumption) | exact GTk.tail (GTk.tail (by assumption)))) fun t us h2 _=>Nh.end' h2) fun _=>?_
     refine Nh.ite (fun h=>Nh.name fun s hs _=>ih _ _ _ (.inl rfl) (by first | assumption | exact GTk.tail (by assumption) | exact GTk.tail (GTk.tail (by assumption)))) fun _=>?_
     refine Nh.ite (fun h=>Nh.bind (ih .around _ _ trivial (by first | assumption | exact GTk.tail (by assumption) | exact GTk.tail (GTk.tail (by assumption)))) fun x us h2 _=>Nh.bind (Nh.within (ih .stmt _ _ trivial (by first | assumption | exact GTk.tail (by assumption) | exact GTk.tail (GTk.tail (by assumption))))) fun y vs h3 _=>Nh.ite (fun h4=>Nh.bind (Nh.within (ih .stmt _ _ trivial (by first | assumption | exact GTk.tail (by assumption) | exact GTk.tail (GTk.tail (by assumption))))) fun z xs h5 _=>Nh.ok ⟨NAr.any (by omega),h2,h3,h5,trivial⟩) fun _=>Nh.ok (Z8o h2 h3 (by omega))) fun _=>?_
     refine Nh.ite (fun h=>Nh.bind (ih .around _ _ trivial (by first | assumption | exact GTk.tail (by assumption) | exact GTk.tail (GTk.tail (by assumption)))) fun t us h2 _=>Nh.bind (Nh.within (ih .stmt _ _ trivial (by first | assumption | exact GTk.tail (by assumption) | exact GTk.tail (GTk.tail (by assumption))))) fun t vs h3 _=>Nh.ok (Z8o h2 h3 (by omega))) fun _=>?_
     refine Nh.ite (fun h=>Nh.bind (ih .around _ _ trivial (by first | assumption | exact GTk.tail (by assumption) | exact GTk.tail (GTk.tail (by assumption)))) fun t us h2 _=>Nh.bind (Nh.within (ih .stmt _ _ trivial (by first | assumption | exact GTk.tail (by assumption) | exact GTk.tail (GTk.tail (by assumption))))) fun t vs h3 _=>Nh.ok (Z8o h2 h3 (by omega))) fun _=>?_
     refine Nh.ite (fun h=>Nh.ite (fun h1=>Nh.end' (NT.leaf (by omega))) (fun _=>Nh.bind (ih .value _ _ trivial (by first | assumption | exact GTk.tail (by assumption) | exact GTk.tail (GTk.tail (by assumption)))) fun t us h2 _=>Nh.end' (Z4k h2 (by omega)))) fun _=>?_;refine Nh.ite (fun h=>Nh.bind (ih .value _ _ trivial (by first | assumption | exact GTk.tail (by assumption) | exact GTk.tail (GTk.tail (by assumption)))) fun t us h2 _=>Nh.end' (Z4k h2 (by omega))) fun _=>?_
     refine Nh.ite (fun h=>ih _ _ _ trivial (by first | assumption | exact GTk.tail (by assumption) | exact GTk.tail (GTk.tail (by assumption)))) fun _=>?_;exact Nh.bind (ih .value _ _ trivial (by first | assumption | exact GTk.tail (by assumption) | exact GTk.tail (GTk.tail (by assumption)))) fun t us h2 _=>Nh.end' (Z4k h2 (by omega))
   | decl kind must =>
     have hk:kind=2∨kind=3∨kind=4:=hg;unfold Z0;show Nh NT _;exact Nh.name fun s hs _=>Nh.ite (fun _=>Nh.fail) fun _=>Nh.ite (fun h2=>Nh.bind (ih .value _ _ trivial (by first | assumption | exact GTk.tail (by assumption) | exact GTk.tail (GTk.tail (by assumption)))) fun t us h3 _=>Nh.ok (Z4k h3 (by omega))) fun _=>Nh.ok (NT.leaf (by omega))
   | try_ =>
     unfold Z0;show Nh NT _;refine Nh.bind (ih (.block false) _ _ trivial (by first | assumption | exact GTk.tail (by assumption) | exact GTk.tail (GTk.tail (by assumption)))) fun b us h _=>?_;have hk:∀ (l:List Tree) (vs:List Tok),NTL l→GTk vs→Nh NT (if isT Zf vs then Zh (Z0 f (.block false) d vs.tail) fun c ts=>okT (.mk 12 ByteArray.empty 0 (l ++ [.mk 14 ByteArray.empty 0 [c]])) ts else if l.length=1 then Z11 3 vs else okT (.mk 12 ByteArray.empty 0 l) vs):=by
      intro l vs h2 _;exact Nh.ite (fun _=>Nh.bind (ih (.block false) _ _ trivial (by first | assumption | exact GTk.tail (by assumption) | exact GTk.tail (GTk.tail (by assumption)))) fun t xs h3 _=>Nh.ok (Z6l (Z72 h2 ⟨Z4k h3.1 (by omega),trivial⟩) (by omega))) fun _=>Nh.ite (fun _=>Nh.fail) fun _=>Nh.ok (Z6l h2 (by omega))
     refine Nh.ite (fun h1=>?_) fun _=>hk _ _ ⟨h.1,trivial⟩ (by first | assumption | exact GTk.tail (by assumption) | exact GTk.tail (GTk.tail (by assumption)));exact Nh.want (fun _=>Nh.name fun s hs _=>Nh.want (fun _=>Nh.bind (ih (.block false) _ _ trivial (by first | assumption | exact GTk.tail (by assumption) | exact GTk.tail (GTk.tail (by assumption)))) fun c vs h5 _=>hk _ _ ⟨h.1,Z4k h5.1 (by omega),trivial⟩ (by first | assumption | exact GTk.tail (by assumption) | exact GTk.tail (GTk.tail (by assumption)))))
   | value=>unfold Z0; exact Nh.within (ih _ _ _ trivial (by first | assumption | exact GTk.tail (by assumption) | exact GTk.tail (GTk.tail (by assumption))))
   | assign =>
     unfold Z0;show Nh NT _;exact Nh.bind (ih (.bin 0) _ _ trivial (by first | assumption | exact GTk.tail (by assumption) | exact GTk.tail (GTk.tail (by assumption)))) fun x us h _=>Nh.ite (fun h1=>Nh.ite (fun _=>Nh.bind (ih .value _ _ trivial (by first | assumption | exact GTk.tail (by assumption) | exact GTk.tail (GTk.tail (by assumption)))) fun y vs h2 _=>Nh.ok (Z8o h h2 (by omega))) fun _=>Nh.err) fun _=>Nh.ok h
   | bin level =>
     unfold Z0;show Nh NT _;exact Nh.ite (fun _=>ih _ _ _ trivial (by first | assumption | exact GTk.tail (by assumption) | exact GTk.tail (GTk.tail (by assumption)))) fun _=>Nh.bind (ih (.bin (level + 1)) _ _ trivial (by first | assumption | exact GTk.tail (by assumption) | exact GTk.tail (GTk.tail (by assumption)))) fun x us h _=>ih _ _ _ h (by first | assumption | exact GTk.tail (by assumption) | exact GTk.tail (GTk.tail (by assumption)))
   | binLoop level x =>
     unfold Z0;show Nh NT _;exact Nh.ite (fun _=>Nh.ok hg) fun h0=>Nh.bind (ih (.bin (level + 1)) _ _ trivial (by first | assumption | exact GTk.tail (by assumption) | exact GTk.tail (GTk.tail (by assumption)))) fun y us h _=>ih _ _ _ (show Job.goodZ (.binLoop level (.mk (Z03 level ts) ByteArray.empty 0 [x,y])) from Z8o (s:=ByteArray.empty) (n:=0) hg h (by have:=Zcz level ts; omega)) (by first | assumption | exact GTk.tail (by assumption) | exact GTk.tail (GTk.tail (by assumption)))
   | unary =>
     unfold Z0;show Nh NT _;exact Nh.ite (fun _=>ih _ _ _ trivial (by first | assumption | exact GTk.tail (by assumption) | exact GTk.tail (GTk.tail (by assumption)))) fun h0=>Nh.bind (Nh.within (ih .unary _ _ trivial (by first | assumption | exact GTk.tail (by assumption) | exact GTk.tail (GTk.tail (by assumption))))) fun x us h _=>Nh.ok (Z4k h (by have:=Zdi ts; omega))
   | postfix_ =>
     unfold Z0;show Nh NT _;exact Nh.bind (ih .primary _ _ trivial (by first | assumption | exact GTk.tail (by assumption) | exact GTk.tail (GTk.tail (by assumption)))) fun x us h _=>ih _ _ _ h (by first | assumption | exact GTk.tail (by assumption) | exact GTk.tail (GTk.tail (by assumption)))
   | postLoop x =>
     unfold Z0;show Nh NT _;exact Nh.ite (fun _=>Nh.name fun s hs _=>ih _ _ _ (show Job.goodZ (.postLoop (.mk 36 s 0 [x])) from Z4k (s:=s) (n:=0) hg (by omega)) (by first | assumption | exact GTk.tail (by assumption) | exact GTk.tail (GTk.tail (by assumption)))) fun _=>Nh.ite (fun _=>Nh.bind (ih (.args [x]) _ _ ⟨⟨hg,trivial⟩,by simp⟩ (by first | assumption | exact GTk.tail (by assumption) | exact GTk.tail (GTk.tail (by assumption)))) fun n us h _=>ih _ _ _ h (by first | assumption | exact GTk.tail (by assumption) | exact GTk.tail (GTk.tail (by assumption)))) fun _=>Nh.ok hg
   | args acc =>
     unfold Z0;show Nh NT _;refine Nh.ite (fun _=>Nh.ok ⟨NAr.any (by omega),hg.1⟩) fun _=>?_;exact Nh.comma fun ts' _=>Nh.ite (fun _=>Nh.fail) fun _=>Nh.bind (ih .value _ _ trivial (by first | assumption | exact GTk.tail (by assumption) | exact GTk.tail (GTk.tail (by assumption)))) fun v us h _=>ih _ _ _ ⟨Z72 hg.1 ⟨h,trivial⟩,by simp⟩ (by first | assumption | exact GTk.tail (by assumption) | exact GTk.tail (GTk.tail (by assumption)))
   | primary =>
     unfold Z0;show Nh NT _;refine Nh.ite (fun h=>Nh.ok (NT.nm (g0.hd h))) fun _=>?_;refine Nh.ite (fun h=>Nh.ok (NT.leaf (by omega))) fun _=>?_;refine Nh.ite (fun h=>Nh.ok (NT.leaf (by omega))) fun _=>?_;refine Nh.ite (fun h=>Nh.ok (NT.leaf (by have:=Zck ts; omega))) fun _=>?_;refine Nh.ite (fun h=>ih _ _ _ trivial (by first | assumption | exact GTk.tail (by assumption) | exact GTk.tail (GTk.tail (by assumption)))) fun _=>?_
     refine Nh.ite (fun h=>Nh.ite (fun _=>ih _ _ _ (.inr rfl) (by first | assumption | exact GTk.tail (by assumption) | exact GTk.tail (GTk.tail (by assumption)))) fun _=>ih _ _ _ (.inr rfl) (by first | assumption | exact GTk.tail (by assumption) | exact GTk.tail (GTk.tail (by assumption)))) fun _=>?_;exact Nh.ite (fun h=>ih _ _ _ trivial (by first | assumption | exact GTk.tail (by assumption) | exact GTk.tail (GTk.tail (by assumption)))) fun _=>Nh.fail
   | object acc =>
     unfold Z0;show Nh NT _;refine Nh.ite (fun _=>Nh.ok (Z6l hg (by omega))) fun _=>?_;exact Nh.comma fun ts' _=>Nh.ite (fun _=>Nh.fail) fun _=>Nh.name fun s hs _=>Nh.want (fun _=>Nh.bind (ih .value _ _ trivial (by first | assumption | exact GTk.tail (by assumption) | exact GTk.tail (GTk.tail (by assumption)))) fun v us h _=>ih _ _ _ (Z72 hg ⟨Z4k h (by omega),trivial⟩) (by first | assumption | exact GTk.tail (by assumption) | exact GTk.tail (GTk.tail (by assumption))))
theorem Ze8 {text:ByteArray} {j k:Nat} {t:Tok} (hj:j < text.size) (h:Z0g text j=.ok (t,k)):t.kind=1→t.text≠ByteArray.empty:=by
 intro h1;obtain ⟨c1,c2,_⟩:=Z0o text hj h;have hx:t.text=text.extract j k:=by
  unfold Z0g at h;simp only at h;split at h
  ·split at h
   ·simp only [Except.ok.injEq,Prod.mk.injEq] at h;obtain ⟨rfl,_⟩:=h;simp at h1
   ·split at h;·cases h
    ·simp only [Except.ok.injEq,Prod.mk.injEq] at h;obtain ⟨rfl,rfl⟩:=h;rfl
  ·exfalso;split at h
   ·split at h;·cases h
    ·split at h;·cases h
     ·simp only [Except.ok.injEq,Prod.mk.injEq] at h;obtain ⟨rfl,_⟩:=h;simp at h1
   ·split at h
    ·split at h;·cases h
     ·split at h;·cases h
      ·simp only [Except.ok.injEq,Prod.mk.injEq] at h;obtain ⟨rfl,_⟩:=h;simp at h1
    ·split at h;·cases h
     ·simp only [Except.ok.injEq,Prod.mk.injEq] at h;obtain ⟨rfl,_⟩:=h;simp at h1
 intro he;have h2:=congrArg ByteArray.size he;rw [hx,ByteArray.size_extract] at h2;simp at h2;omega
theorem Ze0 {text:ByteArray}:∀ (r:List Tok) (i:Nat),i≤text.size→Z3y text i r→GTk r:=by
 intro r;induction r with
 | nil=>intro i _ h; exact h.elim
 | cons t r ih =>
   intro i hi h;cases r with
   | nil =>
     obtain ⟨h1,h2⟩:=h;intro x hx;simp only [List.mem_singleton] at hx;subst hx;rw [h2];exact fun h=>by simp at h
   | cons u r =>
     obtain ⟨k,h1,h2,h3⟩:=h;obtain ⟨c1,c2,_⟩:=Z0o text h1 h2;intro x hx;rcases List.mem_cons.1 hx with rfl | hx;·exact Ze8 h1 h2
     ·exact ih k c2 h3 x hx
theorem Z7g {text:ByteArray} {t:Tree} (h:Zi text=.ok t):NTL t.kids∧t.kind=1:=by
 unfold Zi at h;split at h;·cases h
 ·split at h;·cases h
  ·rename_i ts _;split at h;·cases h
   ·cases h
   ·rename_i t' ts' hp;split at h;·cases h
    ·have e : t' = t := by simpa using h
     subst e;exact (Z9v _ _ _ _ (show Job.goodZ (.stmts 1 []) from ⟨.inl rfl,trivial⟩) (Ze0 _ _ (Yh _) (Z33 (by assumption))) _ _ hp).1
structure EInv (w0:World) (c:Nat) (s:Bool) (w:World):Prop where
 cell:w.heap[c]?=some (.cells #[.bool s] 4 (0,0))
 bel:Below w0.heap.size w0 w
theorem EInv.set {w0 w:World} {c:Nat} {s:Bool} (h:EInv w0 c s w) (hc:w0.heap.size≤c) (r:Bool):EInv w0 c r (w.setCell ⟨c,0,none⟩ (.bool r)):=
 ⟨Zm (o:=0) (.bool r) h.cell,h.bel.setCell (p:=⟨c,0,none⟩) hc _⟩
def Zeb (a:ATree):Prop:=∀ x∈a.subs,x.kind=35→x.kids≠[]
structure Us where
 at':Int
 r:Int×Bool
def Us.cells (u:Us):List Value:=[.int .i64 u.at',.int .i64 u.r.1,.bool u.r.2]
def Zy:ByteArray:=⟨#[97,114,103,117,109,101,110,116,115]⟩
def Z4t (K:List ByteArray) (k:Int) (t:ByteArray) (ps:ATree):List ByteArray:=(if k=37∧t≠ByteArray.empty then K ++ [t] else K) ++ ps.kids.map ATree.text
mutual
def Z10:ATree→List ByteArray→Bool→List ByteArray
 | .mk b v k t n ks, K, body =>
   if k=23 then (if Lib.containsS K t then [] else [t])
   else if k=1∨k=6 then Z18 ks (K ++ Z0y body (.mk b v k t n ks))
   else if k=5∨k=37 then (match ks with
    | ps :: bd :: _=>Z10 bd (Z4t K k t ps ++ [Zy]) true
    | _=>[])
   else if k=13 then Z18 ks (K ++ [t])
   else Z18 ks K
def Z18:List ATree→List ByteArray→List ByteArray
 | [],_=>[]
 | a :: l,K=>Z10 a K false ++ Z18 l K
end
def Zez (K:List ByteArray) (k:Int) (t:ByteArray) (ps bd:ATree):List ByteArray:=Z0y true bd ++ (Z0z [] ps.kids ++ [Zy] ++ (if k=37 then [t] ++ K else K))
mutual
def Zaf:ATree→List ByteArray→List ByteArray
 | .mk b v k t n ks, K =>
   if k=23 then (if Lib.containsS K t then [] else [t]) ++ Z47 ks K
   else if k=1 then Z47 ks (Z0y true (.mk b v k t n ks) ++ K)
   else if k=6 then Z47 ks (Z0y false (.mk b v k t n ks) ++ K)
   else if k=13 then Z47 ks ([t] ++ K)
   else if k=5∨k=37 then (match ks with
    | ps :: .mk b2 v2 k2 t2 n2 bks :: _=>Z47 bks (Zez K k t ps (.mk b2 v2 k2 t2 n2 bks))
    | _=>[])
   else Z47 ks K
def Z47:List ATree→List ByteArray→List ByteArray
 | [],_=>[]
 | a :: l,K=>Zaf a K ++ Z47 l K
end
def EqK (K K':List ByteArray):Prop:=∀ s,s≠ByteArray.empty→(s∈K↔s∈K')
theorem EqK.has {K K':List ByteArray} {s:ByteArray} (h:EqK K K') (hs:s≠ByteArray.empty):Lib.containsS K s=Lib.containsS K' s:=by
 rw [Bool.eq_iff_iff,Lib.containsS_iff,Lib.containsS_iff];exact h s hs
theorem Z6b {ks:List ATree} {l:List ByteArray} {x:ByteArray}:x∈Z0z l ks↔x∈l∨x∈ks.map ATree.text:=by
 induction ks generalizing l with
 | nil=>simp [Z0z]
 | cons k ks ih =>
   show x∈Z0z (addL l k.text) ks↔_;rw [ih];constructor
   ·rintro (h | h)
    ·rcases Z5w h with h | h;·exact .inl h
     ·exact .inr (by simp [h])
    ·exact .inr (by simp at h ⊢; exact .inr h)
   ·rintro (h | h);·exact .inl (Z4p h)
    ·simp only [List.map_cons, List.mem_cons] at h;rcases h with rfl | h;·exact .inl (Z4l _ _)
     ·exact .inr h
theorem EqK.func {K K':List ByteArray} (h:EqK K K') (k:Int) (t:ByteArray) (ps ps' bd:ATree) (N:List ByteArray) (hps:ps.kids.map ATree.text=ps'.kids.map ATree.text) :
 EqK ((Z4t K k t ps ++ [Zy]) ++ N) (N ++ (Z0z [] ps'.kids ++ [Zy] ++ (if k=37 then [t] ++ K' else K'))):=by
 intro s hs;have h1:s∈(if k=37∧t≠ByteArray.empty then K ++ [t] else K)↔s∈(if k=37 then [t] ++ K' else K'):=by
  by_cases hk:k=37
  ·rw [Y5 hk];by_cases ht : t = ByteArray.empty
   ·rw [Y3 (by rw [ht]; simp)];simp only [List.singleton_append, List.mem_cons, h s hs];constructor;·exact .inr
    ·rintro (h2 | h2);·exact absurd (h2.trans ht) hs
     ·exact h2
   ·rw [Y5 ⟨hk,ht⟩];simp only [List.mem_append,List.mem_singleton,h s hs];exact or_comm
  ·rw [Y3 (fun h=>hk h.1),Y3 hk];exact h s hs
 unfold Z4t;simp only [List.mem_append,Z6b,List.mem_singleton,List.not_mem_nil,false_or,hps,h1];constructor
 ·rintro (((h | h) | h) | h);·exact .inr (.inr h)
  ·exact .inr (.inl (.inl h))
  ·exact .inr (.inl (.inr h))
  ·exact .inl h
 ·rintro (h | ((h | h) | h));·exact .inr h
  ·exact .inl (.inl (.inr h))
  ·exact .inl (.inr h)
  ·exact .inl (.inl (.inl h))
theorem EqK.swap {K K' N:List ByteArray} (h:EqK K K'):EqK (K ++ N) (N ++ K'):=by
 intro s hs;simp only [List.mem_append,h s hs];exact or_comm
theorem Z9z (l m:List ATree) (h:Zp l=Zp m):l.map ATree.text=m.map ATree.text:=by
 have:=Z1x (fun _=>true) (fun _ _ _=>rfl) _ _ h;rwa [List.filter_eq_self.2 (fun _ _=>rfl),List.filter_eq_self.2 (fun _ _=>rfl)] at this
theorem Z4x {m:Nat} (ih:∀ (a b:ATree) (K K':List ByteArray),a.many≤m→a.tree=b.tree→NT a.tree→FT a.tree→EqK K K'→Z10 a K false=Zaf b K') :
 ∀ (l1 l2:List ATree) (K K':List ByteArray),Z0h l1≤m→Zp l1=Zp l2→NTL (Zp l1)→FTL (Zp l1)→EqK K K'→Z18 l1 K=Z47 l2 K'
 | [],[],_,_,_,_,_,_,_=>rfl
 | [],_ :: _,_,_,_,h,_,_,_=>by simp [Zp] at h
 | _ :: _,[],_,_,_,h,_,_,_=>by simp [Zp] at h
 | a :: l1, b :: l2, K, K', hm, h, hn, hf, he => by
   simp only [Zp,List.cons.injEq] at h;simp only [Z0h] at hm;simp only [Zp,NTL] at hn;simp only [Zp,FTL] at hf;unfold Z18 Z47;rw [ih a b K K' (by omega) h.1 hn.1 hf.1 he,Z4x ih l1 l2 K K' (by omega) h.2 hn.2 hf.2 he]
theorem free_eq:∀ (m:Nat) (a b:ATree) (K K':List ByteArray),a.many≤m→a.tree=b.tree→NT a.tree→FT a.tree→EqK K K'→Z10 a K false=Zaf b K'
 | 0,a,_,_,_,h,_,_,_,_=>by cases a; simp [ATree.many] at h
 | m + 1, .mk b1 v1 k t n1 ks1, .mk b2 v2 k2 t2 n2 ks2, K, K', hm, h, hn, hf, he => by
   have ih:=free_eq m;have hnm:=Z6k h false;simp only [ATree.tree,Tree.mk.injEq] at h;obtain ⟨rfl,rfl,_,h4⟩:=h;have hmk:Z0h ks1≤m:=by simp only [ATree.many] at hm; omega
   simp only [ATree.tree,NT] at hn;simp only [ATree.tree,FT] at hf;obtain ⟨⟨hn1,hn2⟩,hn3⟩:=hn;obtain ⟨hf1,hf2⟩:=hf;have HL:=fun K K'=>Z4x ih ks1 ks2 K K' hmk h4 hn3 hf2;rw [Z10.eq_def,Zaf.eq_def];simp only [];by_cases h23:k=23
   ·obtain ⟨ht,hk0⟩:=hn2 h23;have e1:ks2=[]:=by
     rw [hk0] at h4;cases ks2 with
     | nil=>rfl
     | cons x l=>simp [Zp] at h4
    rw [Y5 h23,Y5 h23,e1,he.has ht];simp [Z47]
   rw [Y3 h23,Y3 h23,Y3 hn1];by_cases h6:k=6
   ·rw [Y5 (.inr h6),Y5 h6,hnm];exact HL _ _ he.swap
   rw [Y3 (by omega),Y3 h6];by_cases h5:k=5∨k=37
   ·rw [Y5 h5, Y3 (by omega), Y5 h5];obtain ⟨p, bb, e, hb6⟩ := hf1 h5;match ks1, ks2, e, h4, hmk, hn3, hf2 with
    | [],_,e,_,_,_,_=>simp [Zp] at e
    | [_],_,e,_,_,_,_=>simp [Zp] at e
    | _ :: _ :: _ :: _,_,e,_,_,_,_=>simp [Zp] at e
    | [ps,.mk c1 w1 kc tc nc lc],[],_,h4,_,_,_=>simp [Zp] at h4
    | [ps,.mk c1 w1 kc tc nc lc],[_],_,h4,_,_,_=>simp [Zp] at h4
    | [ps,.mk c1 w1 kc tc nc lc],_ :: _ :: _ :: _,_,h4,_,_,_=>simp [Zp] at h4
    | [ps, .mk c1 w1 kc tc nc lc], [ps', .mk c2 w2 kd td nd ld], e, h4, hmk, hn3, hf2 =>
      simp only [Zp,List.cons.injEq,and_true] at e h4;rw [← e.2] at hb6;have hkc:kc=6:=hb6;have hnb:=Z6k h4.2 true;have hps:=Z9z _ _ (Z40 h4.1).2.2.2;have h42:=h4.2;simp only [ATree.tree,Tree.mk.injEq] at h42;obtain ⟨rfl,rfl,_,e6⟩:=h42;simp only [Z0h,ATree.many] at hmk;simp only [Zp,NTL,ATree.tree,NT] at hn3;simp only [Zp,FTL,ATree.tree,FT] at hf2;simp only [];rw [Z10.eq_def];simp only [];rw [Y3 (by omega),Y5 (.inr hkc),hnb];unfold Zez;exact Z4x ih lc ld _ _ (by omega) e6 hn3.2.1.2 hf2.2.1.2 (he.func k t ps ps' (.mk c1 w1 kc tc nc lc) _ hps)
   rw [Y3 h5];by_cases h13:k=13
   ·rw [Y5 h13,Y5 h13];exact HL _ _ he.swap
   rw [Y3 h13,Y3 h13,Y3 h5];exact HL _ _ he
def KAt (w:World) (ob:Nat) (vo v:Value) (K:List ByteArray):Prop:=
 ∃ ao cap, v = .slice ao K.length cap ∧ K.length ≤ cap ∧ cap ≤ 9223372036854775807 ∧ (ao = none → K.length = 0 ∧ cap = 0) ∧
   ∀ b,ao=some b→∃ g,b=⟨g,0,none⟩∧g < w.heap.size∧ob < g∧vo.ownBlock≠some g∧∀ j s,K[j]?=some s→w.cell? ⟨g,j,none⟩=some (.string s)
structure Far (ob:Nat) (v:Value) (w:World) (v':Value) (w':World):Prop where
 size:w.heap.size≤w'.heap.size
 blk:∀ k,k < w.heap.size→k≠ob→v.ownBlock≠some k→w'.heap[k]?=w.heap[k]?
 own:∀ g,v'.ownBlock=some g→v.ownBlock=some g∨w.heap.size≤g
theorem Far.trans {ob:Nat} {v v' v2:Value} {w w' w2:World} (h:Far ob v w v' w') (g:Far ob v' w' v2 w2):Far ob v w v2 w2:=by
 refine ⟨Y4 h.size g.size,fun k hk ho hv=>?_,fun b hb=>?_⟩
 ·refine (g.blk k (Y7 hk h.size) ho fun e => ?_).trans (h.blk k hk ho hv);rcases h.own k e with h1 | h1;·exact hv h1
  ·omega
 ·rcases g.own b hb with h1 | h1;·exact h.own b h1
  ·exact .inr (Y4 h.size h1)
theorem Far.below {ob:Nat} {v:Value} {w w':World} (h:Below w.heap.size w w'):Far ob v w v w':=⟨h.size,fun k hk _ _=>h.block k hk,fun _ h=>.inl h⟩
theorem KAt.far {w w':World} {ob:Nat} {v v' kv:Value} {K:List ByteArray} (h:KAt w ob v kv K) (f:Far ob v w v' w'):KAt w' ob v' kv K:=by
 obtain ⟨ao,cap,h1,h2,h3,h4,h5⟩:=h;refine ⟨ao,cap,h1,h2,h3,h4,fun b hb=>?_⟩;obtain ⟨g,e,hg,ho,hv,hc⟩:=h5 b hb;refine ⟨g,e,Y7 hg f.size,ho,fun e2=>?_,fun j s hs=>(Yb (f.blk g hg (by omega) hv)).trans (hc j s hs)⟩;rcases f.own g e2 with h6 | h6;·exact hv h6
 ·omega
theorem KAt.nil0 (w:World) (ob:Nat) (v:Value):KAt w ob v (.slice none 0 0) []:=⟨_,_,rfl,Y0 _,by omega,fun _=>⟨rfl,rfl⟩,fun b h=>by cases h⟩
theorem KAt.texts {w:World} {ob z:Nat} {vo v:Value} {K:List ByteArray} (h:Zv w z v K) (hz:ob < z) (hv:∀ g,vo.ownBlock=some g→g < z):KAt w ob vo v K:=by
 rcases h.form with ⟨h1,h2⟩ | ⟨g,cap,h1,h2,h3⟩;·rw [h1,h2]; exact KAt.nil0 w ob vo
 ·unfold maxLen at h3;have hl:=Y9 h g (by rw [h1]; rfl);refine ⟨_,_,h1,h2,by omega,fun e=>(by cases e),fun b hb=>?_⟩;cases hb;exact ⟨g,rfl,hl.2,by omega,fun e=>by have:=hv g e; omega,fun j s hs=>h.cells (by rw [h1]; rfl) hs⟩
structure OS (w0:World) (ob:Nat) (v:Value) (L:List ByteArray) (w:World):Prop where
 lo:w0.heap.size≤ob
 bel:Below w0.heap.size w0 w
 cell:w.heap[ob]?=some (.cells #[v] 26 (0,0))
 row:Zv w (ob + 1) v L
theorem OS.lt {w0 w:World} {ob:Nat} {v:Value} {L:List ByteArray} (h:OS w0 ob v L w):ob < w.heap.size:=(Y1.1 h.cell).1
theorem OS.below {w0 w w':World} {ob:Nat} {v:Value} {L:List ByteArray} (h:OS w0 ob v L w) (g:Below w.heap.size w w'):OS w0 ob v L w':=
 ⟨h.lo,h.bel.trans (g.mono h.bel.size),(g.block ob h.lt).trans h.cell,h.row.bel g⟩
theorem OS.own {w0 w:World} {ob:Nat} {v:Value} {L:List ByteArray} (h:OS w0 ob v L w) (g:Nat) (hg:v.ownBlock=some g):g < w.heap.size:=(Y9 h.row g hg).2
theorem OS.put {w0 w w1:World} {ob:Nat} {v v':Value} {L L':List ByteArray} (h:OS w0 ob v L w) (hB:Below (ob + 1) w w1) (ht:Zv w1 (ob + 1) v' L') (hf:∀ k,k < w.heap.size→v.ownBlock≠some k→w1.heap[k]?=w.heap[k]?)
 (ho:∀ g,v'.ownBlock=some g→v.ownBlock=some g∨w.heap.size≤g):OS w0 ob v' L' (w1.setCell ⟨ob,0,none⟩ v')∧Far ob v w v' (w1.setCell ⟨ob,0,none⟩ v'):=by
 have hl:=h.lo;have hb1:w1.heap[ob]?=some (.cells #[v] 26 (0,0)):=(hB.block ob (by omega)).trans h.cell;have hs:(w1.setCell ⟨ob,0,none⟩ v').heap.size=w1.heap.size:=by simp
 refine ⟨⟨hl,?_,Zm (o:=0) v' hb1,?_⟩,⟨by rw [hs]; exact hB.size,fun k hk hne hv=>?_,ho⟩⟩;·exact (h.bel.trans (hB.mono (by omega))).setCell (p:=⟨ob,0,none⟩) hl _
 ·exact Ze ht fun k hk=>Y8 _ _ _ _ (by have:=(Y9 ht k hk).1; simp only; omega)
 ·exact (Y8 _ _ _ _ (by simp only; exact hne)).trans (hf k hk hv)
theorem Zb1 {w:World} {ob:Nat} {vo v:Value} {K:List ByteArray} (h:KAt w ob vo v K) (s:ByteArray) :
 Calls Tryz.prog 27 #[v,.string s] w fun e w'=>e=.returned (.bool (Lib.containsS K s))∧w'=w:=by
 obtain ⟨ao,cap,rfl,h2,h3,h4,h5⟩:=h;cases ao with
 | none =>
   obtain ⟨e1,rfl⟩:=h4 rfl;have e:K=[]:=List.eq_nil_of_length_eq_zero e1;subst e;exact Z5m w s
 | some b =>
   obtain ⟨g,rfl,_,_,_,hc⟩:=h5 b rfl;have HC:=Tryz.slices_Contains_string g 0 K.length cap K s w (Y0 _) (by omega) (fun j hj=>by
    rw [Nat.zero_add];exact hc j _ (by rw [List.getD_eq_getElem?_getD,Y6 hj]; rfl))
   rwa [List.take_length] at HC
theorem Zag (w:World) (ao:Option Addr) (n cap:Nat) (h1:n≤cap) (h2:cap≤9223372036854775807) (h4:ao=none→n=0∧cap=0) (hp:∀ b,ao=some b→∃ g,b=⟨g,0,none⟩) :
 Calls Tryz.prog 28 #[.slice ao n cap] w fun e w'=>e=.returned (.slice ao n n)∧w'=w:=by
 cases ao with
 | none =>
   obtain ⟨rfl,rfl⟩:=h4 rfl;clear h4 hp h1 h2;go_enter Tryz.func28,Tryz.ntmps28
   go_wp2;go_ret;exact ⟨rfl,rfl⟩
 | some b =>
   obtain ⟨g,rfl⟩:=hp b rfl;clear h4 hp;go_enter Tryz.func28,Tryz.ntmps28
   go_wp2;go_ret;exact ⟨rfl,rfl⟩
theorem KAt.clip {w:World} {ob:Nat} {vo v:Value} {K:List ByteArray} (h:KAt w ob vo v K):∃ ao cap,v=.slice ao K.length cap∧KAt w ob vo (.slice ao K.length K.length) K ∧
 (Calls Tryz.prog 28 #[.slice ao K.length cap] w fun e w'=>e=.returned (.slice ao K.length K.length)∧w'=w)∧(ao=none→K.length=0) ∧
 ∀ b,ao=some b→∀ j s,K[j]?=some s→w.cell? (b.add j)=some (.string s):=by
 obtain ⟨ao,cap,h1,h2,h3,h4,h5⟩:=h;refine ⟨ao,cap,h1,⟨ao,_,rfl,Y0 _,by omega,fun e=>⟨(h4 e).1,(h4 e).1⟩,h5⟩,Zag w ao _ cap h2 h3 h4 (fun b hb=>by obtain ⟨g,e,_⟩:=h5 b hb; exact ⟨g,e⟩),fun e=>(h4 e).1,fun b hb j s hs=>?_⟩;obtain ⟨g,e,_,_,_,hc⟩:=h5 b hb;rw [e,show ((⟨g,0,none⟩:Addr).add j)=⟨g,j,none⟩ by unfold Addr.add; split <;> simp_all];exact hc j s hs
theorem Z62 {P:Program} (w:World) (t ty e:TypeId) (i:TypeInfo) (ht:P.underlying t=some (.slice e)) (hi:P.info? e=some i) (ao:Option Addr) (n:Nat) (h0:ao=none→n=0) (p:Option Addr) (c:Nat) :
 (Builtin.append_ #[t,t] ty #[.slice ao n n,.slice p 0 c]).run P w=.ok (.slice ao n n) w:=by
 cases ao with
 | none =>
   obtain rfl:=h0 rfl;cases p <;> simp [Builtin.append_,run_underlying ht,sizeOf,typeInfo,hi,Builtin.lenOf,Builtin.firstCells,loadCells,loadCellsFrom,Result.andThen]
 | some b=>cases p <;> simp [Builtin.append_,run_underlying ht,sizeOf,typeInfo,hi,Builtin.lenOf,Builtin.firstCells,storeCells,loadCells,loadCellsFrom,Result.andThen]
theorem Z50 {P:Program} {w:World} {ops:Array Oper} {rest:List Oper} {o:Oper} {a:Act} {Q:Exit→Act→World→Prop} (hgd:o.guard=none) (s x:Operand) (t:TypeId)
 (ho:o.op=.call { callee:=.builtin .append,args:=#[s,x],argTypes:=#[t,t] })
 (e:TypeId) (i:TypeInfo) (ht:P.underlying t=some (.slice e)) (hi:P.info? e=some i) (ao:Option Addr) (n:Nat) (h0:ao=none→n=0) (hs:a.eval s=.slice ao n n) (p:Option Addr) (c:Nat) (hx:a.eval x=.slice p 0 c)
 (h:wpList P ops Q rest (a.put o.dst (.slice ao n n)) w):wpList P ops Q (o :: rest) a w:=by
 refine wpList_plain hgd fun K hK=>?_;have hrun:=Z62 (P:=P) w t o.type e i ht hi ao n h0 p c;unfold Oper.wp;simp [execOp,ho,resolve,invoke,builtin,hs,hx,hrun,Result.andThen];exact hK _ _ h
theorem Z2z (l:List ByteArray):∀ L:List ByteArray,(l.foldl addL L).length≤L.length + l.length:=by
 induction l with
 | nil=>intro L; simp
 | cons s l ih=>intro L; have h1:=ih (addL L s); have h2:=Z8e L s; simp only [List.foldl_cons,List.length_cons]; omega
mutual
theorem Z52:∀ (a:ATree) (K:List ByteArray) (body:Bool),(Z10 a K body).length≤a.many
 | .mk b v k t n ks, K, body => by
   rw [Z10.eq_def];simp only [ATree.many];have h:=fun K=>Z6d ks K;split;·split <;> simp
   ·split;·have := h (K ++ Z0y body (.mk b v k t n ks)); omega
    ·split
     ·match ks, h with
      | [],_=>simp
      | [_],_=>simp
      | ps :: bd :: r, _ =>
        have:=Z52 bd (Z4t K k t ps ++ [Zy]) true;simp only [Z0h];omega
     ·split;·have := h (K ++ [t]); omega
      ·have:=h K; omega
theorem Z6d:∀ (l:List ATree) (K:List ByteArray),(Z18 l K).length≤Z0h l
 | [],_=>by simp [Z18]
 | a :: l, K => by
   have h1:=Z52 a K false;have h2:=Z6d l K;simp only [Z18,List.length_append,Z0h];omega
end
theorem Zc5 (l:List ATree) (x:ATree) (K:List ByteArray):Z18 (l ++ [x]) K=Z18 l K ++ Z10 x K false:=by
 induction l with
 | nil=>simp [Z18]
 | cons a l ih=>simp [Z18,ih]
theorem Zbc {l:List ATree} {k:Nat} {x:ATree} (h:l[k]?=some x) (K L:List ByteArray):(Z18 (l.take (k + 1)) K).foldl addL L=(Z10 x K false).foldl addL ((Z18 (l.take k) K).foldl addL L):=by
 obtain ⟨hk,he⟩:=List.getElem?_eq_some_iff.1 h;rw [List.take_succ_eq_append_getElem hk,he,Zc5,List.foldl_append]
theorem Z9g {l:List ATree}:∀ {k:Nat} {x:ATree},l[k]?=some x→Z0h (l.take k) + x.many≤Z0h l:=by
 induction l with
 | nil=>intro k x h; simp at h
 | cons a l ih =>
   intro k x h;cases k with
   | zero =>
     simp only [List.getElem?_cons_zero,Option.some.injEq] at h;subst h;simp [Z0h]
   | succ k =>
     have:=ih (k:=k) (x:=x) (by simpa using h);simp only [List.take_succ_cons,Z0h];omega
structure Ar (k:Int) (n:Nat):Prop where
 call:k=35→n≠0
 two:k=9∨k=8∨k=24∨k=5∨k=37→n=2
 if':k=7→n=2∨n=3
 one:k=13∨k=34→n=1
theorem Ar.any {k:Int} {n:Nat} (h:k≠35∧k≠9∧k≠8∧k≠24∧k≠5∧k≠37∧k≠7∧k≠13∧k≠34):Ar k n:=⟨by omega,by omega,by omega,by omega⟩
mutual
def WT:Tree→Prop
 | .mk k _ _ l=>Ar k l.length∧WTL l
def WTL:List Tree→Prop
 | []=>True
 | t :: l=>WT t∧WTL l
end
theorem Z68 {l m:List Tree} (h:WTL l) (g:WTL m):WTL (l ++ m):=by
 induction l with
 | nil=>exact g
 | cons x l ih=>exact ⟨h.1,ih h.2⟩
theorem WT.kids {t:Tree} (h:WT t):WTL t.kids:=by cases t; exact h.2
theorem WT.leaf {k:Int} {s:ByteArray} {n:Int} (h:k≠35∧k≠9∧k≠8∧k≠24∧k≠5∧k≠37∧k≠7∧k≠13∧k≠34):WT (.mk k s n []):=⟨Ar.any h,trivial⟩
def Sh (p:PR):Prop:=∀ t ts,p=some (.ok (t,ts))→WT t
theorem Sh.fail {e:Int} {ts:List Tok}:Sh (Z11 e ts):=by intro t ts' h; cases h
theorem Sh.none:Sh none:=by intro t ts' h; cases h
theorem Sh.err {e:Int×Nat}:Sh (some (.error e)):=by intro t ts' h; cases h
theorem Sh.ok {t:Tree} {ts:List Tok} (h:WT t):Sh (okT t ts):=by
 intro t' ts' h';simp only [okT,Option.some.injEq,Except.ok.injEq,Prod.mk.injEq] at h';rw [← h'.1]; exact h
theorem Sh.bind {p:PR} {k:Tree→List Tok→PR} (hp:Sh p) (hk:∀ t ts,WT t→Sh (k t ts)):Sh (Zh p k):=by
 cases p with
 | none=>exact Sh.none
 | some r =>
   cases r with
   | error e=>exact Sh.err
   | ok x=>obtain ⟨t,ts⟩:=x; exact hk t ts (hp t ts rfl)
theorem Sh.want {s:ByteArray} {ts:List Tok} {k:List Tok→PR} (hk:Sh (k ts.tail)):Sh (Z00 s ts k):=by
 unfold Z00;by_cases h:isT s ts=true;·rw [Y5 h]; exact hk
 ·rw [Y3 h]; exact Sh.fail
theorem Sh.name {ts:List Tok} {k:ByteArray→List Tok→PR} (hk:∀ s,Sh (k s ts.tail)):Sh (Z13 ts k):=by
 unfold Z13;by_cases h:(hdT ts).kind=1;·rw [Y5 h]; exact hk _
 ·rw [Y3 h]; exact Sh.fail
theorem Sh.within {d:Nat} {ts:List Tok} {p:PR} (h:Sh p):Sh (Zj d ts p):=by
 unfold Zj;by_cases h':30 < d + 1;·rw [Y5 h']; exact Sh.fail
 ·rw [Y3 h']; exact h
theorem Sh.ite {c:Prop} [Decidable c] {p q:PR} (hp:c→Sh p) (hq:¬ c→Sh q):Sh (if c then p else q):=by
 by_cases h:c;·rw [Y5 h]; exact hp h
 ·rw [Y3 h]; exact hq h
theorem Sh.comma {c:Prop} [Decidable c] {ts:List Tok} {k:List Tok→PR} (hk:∀ ts',Sh (k ts')):Sh ((if c then Z00 Z07 ts else fun k=>k ts) k):=by
 by_cases h:c;·rw [Y5 h]; exact Sh.want (hk _)
 ·rw [Y3 h]; exact hk _
theorem Sh.end' {t:Tree} {ts:List Tok} (h:WT t):Sh (endT t ts):=Sh.want (Sh.ok h)
def Job.good:Job→Prop
 | .stmts kind acc=>(kind=1∨kind=6)∧WTL acc
 | .func kind _=>kind=5∨kind=37
 | .params acc=>WTL acc
 | .decl kind _=>kind=2∨kind=3∨kind=4
 | .binLoop _ x=>WT x
 | .postLoop x=>WT x
 | .args acc=>WTL acc∧acc≠[]
 | .object acc=>WTL acc
 | _=>True
theorem Zdf (lv:Nat) (ts:List Tok):Z03 lv ts=0∨(25≤Z03 lv ts∧Z03 lv ts≤31):=by
 unfold Z03;split <;> (try split) <;> (try split) <;> omega
theorem Zcg (ts:List Tok):Z0i ts=0∨(32≤Z0i ts∧Z0i ts≤34):=by
 unfold Z0i;split <;> (try split) <;> (try split) <;> omega
theorem Zcr (ts:List Tok):Z0j ts=0∨(19≤Z0j ts∧Z0j ts≤22):=by
 unfold Z0j;split <;> (try split) <;> (try split) <;> (try split) <;> omega
theorem Z7s {k:Int} {s:ByteArray} {n:Int} {x y:Tree} (hx:WT x) (hy:WT y) (h:k≠13∧k≠34):WT (.mk k s n [x,y]):=
 ⟨⟨fun _=>by simp,fun _=>rfl,fun _=>.inl rfl,fun h'=>by omega⟩,hx,hy,trivial⟩
theorem Z55 {k:Int} {s:ByteArray} {n:Int} {x:Tree} (hx:WT x) (h:k≠9∧k≠8∧k≠24∧k≠5∧k≠37∧k≠7):WT (.mk k s n [x]):=
 ⟨⟨fun _=>by simp,fun h'=>by omega,fun h'=>by omega,fun _=>rfl⟩,hx,trivial⟩
theorem Z5k {k:Int} {s:ByteArray} {n:Int} {l:List Tree} (hx:WTL l) (h:k≠35∧k≠9∧k≠8∧k≠24∧k≠5∧k≠37∧k≠7∧k≠13∧k≠34):WT (.mk k s n l):=⟨Ar.any h,hx⟩
theorem Z9w:∀ (f:Nat) (job:Job) (d:Nat) (ts:List Tok),job.good→Sh (Z0 f job d ts):=by
 intro f;induction f with
 | zero=>intro job d ts _; unfold Z0; exact Sh.none
 | succ f ih =>
   intro job d ts hg;cases job with
   | stmts kind acc =>
     unfold Z0;refine Sh.ite (fun _=>Sh.ok (Z5k hg.2 (by have:=hg.1; omega))) fun _=>?_;exact Sh.bind (Sh.within (ih .stmt _ _ trivial)) fun t ts' h=>ih _ _ _ ⟨hg.1,Z68 hg.2 ⟨h,trivial⟩⟩
   | block body =>
     unfold Z0;refine Sh.want (Sh.bind (ih (.stmts 6 []) _ _ ⟨.inr rfl,trivial⟩) fun t ts' h'=>Sh.want (Sh.ok ?_));by_cases hb:body=true;·rw [Y5 hb]; exact h'
     ·rw [Y3 hb]; exact Z5k h'.kids (by omega)
   | func kind text =>
     unfold Z0;exact Sh.want (Sh.bind (ih (.params []) _ _ trivial) fun t ts' h'=>Sh.want (Sh.bind (ih (.block true) _ _ trivial) fun t ts' h3=>Sh.ok (Z7s h' h3 (by have:kind=5∨kind=37:=hg; omega))))
   | params acc =>
     unfold Z0;refine Sh.ite (fun _=>Sh.ok (Z5k hg (by omega))) fun _=>?_;exact Sh.comma fun ts'=>Sh.ite (fun _=>Sh.fail) fun _=>Sh.name fun s=>ih _ _ _ (Z68 hg ⟨WT.leaf (by omega),trivial⟩)
   | around =>
     unfold Z0;exact Sh.want (Sh.bind (ih .value _ _ trivial) fun t ts' h'=>Sh.want (Sh.ok h'))
   | stmt =>
     unfold Z0;refine Sh.ite (fun h=>ih _ _ _ trivial) fun _=>?_;refine Sh.ite (fun h=>Sh.ok (WT.leaf (by omega))) fun _=>?_;refine Sh.ite (fun h=>Sh.bind (ih (.decl 2 false) _ _ (.inl rfl)) fun t us h2=>Sh.end' h2) fun _=>?_;refine Sh.ite (fun h=>Sh.bind (ih (.decl 3 false) _ _ (.inr (.inl rfl))) fun t us h2=>Sh.end' h2) fun _=>?_;refine Sh.ite (fun h=>Sh.bind (ih (.decl 4 true) _ _ (.inr (.inr rfl))) fun t us h2=>Sh.end' h2) fun _=>?_;refine Sh.ite (fun h=>Sh.name fun s=>ih _ _ _ (.inl rfl)) fun _=>?_
     refine Sh.ite (fun h=>Sh.bind (ih .around _ _ trivial) fun x us h2=>Sh.bind (Sh.within (ih .stmt _ _ trivial)) fun y vs h3=>Sh.ite (fun h4=>Sh.bind (Sh.within (ih .stmt _ _ trivial)) fun z xs h5=>Sh.ok ⟨⟨by omega,by omega,fun _=>.inr rfl,by omega⟩,h2,h3,h5,trivial⟩) fun _=>Sh.ok (Z7s h2 h3 (by omega))) fun _=>?_;refine Sh.ite (fun h=>Sh.bind (ih .around _ _ trivial) fun t us h2=>Sh.bind (Sh.within (ih .stmt _ _ trivial)) fun t vs h3=>Sh.ok (Z7s h2 h3 (by omega))) fun _=>?_
     refine Sh.ite (fun h=>Sh.bind (ih .around _ _ trivial) fun t us h2=>Sh.bind (Sh.within (ih .stmt _ _ trivial)) fun t vs h3=>Sh.ok (Z7s h2 h3 (by omega))) fun _=>?_;refine Sh.ite (fun h=>Sh.ite (fun h1=>Sh.end' (WT.leaf (by omega))) (fun _=>Sh.bind (ih .value _ _ trivial) fun t us h2=>Sh.end' (Z55 h2 (by omega)))) fun _=>?_;refine Sh.ite (fun h=>Sh.bind (ih .value _ _ trivial) fun t us h2=>Sh.end' (Z55 h2 (by omega))) fun _=>?_;refine Sh.ite (fun h=>ih _ _ _ trivial) fun _=>?_;exact Sh.bind (ih .value _ _ trivial) fun t us h2=>Sh.end' (Z55 h2 (by omega))
   | decl kind must =>
     have hk:kind=2∨kind=3∨kind=4:=hg;unfold Z0;exact Sh.name fun s=>Sh.ite (fun _=>Sh.fail) fun _=>Sh.ite (fun h2=>Sh.bind (ih .value _ _ trivial) fun t us h3=>Sh.ok (Z55 h3 (by omega))) fun _=>Sh.ok (WT.leaf (by omega))
   | try_ =>
     unfold Z0;refine Sh.bind (ih (.block false) _ _ trivial) fun b us h=>?_;have hk:∀ (l:List Tree) (vs:List Tok),WTL l→Sh (if isT Zf vs then Zh (Z0 f (.block false) d vs.tail) fun c ts=>okT (.mk 12 ByteArray.empty 0 (l ++ [.mk 14 ByteArray.empty 0 [c]])) ts else if l.length=1 then Z11 3 vs else okT (.mk 12 ByteArray.empty 0 l) vs):=by
      intro l vs h2;exact Sh.ite (fun _=>Sh.bind (ih (.block false) _ _ trivial) fun t xs h3=>Sh.ok (Z5k (Z68 h2 ⟨Z55 h3 (by omega),trivial⟩) (by omega))) fun _=>Sh.ite (fun _=>Sh.fail) fun _=>Sh.ok (Z5k h2 (by omega))
     refine Sh.ite (fun h1=>?_) fun _=>hk _ _ ⟨h,trivial⟩;exact Sh.want (Sh.name fun s=>Sh.want (Sh.bind (ih (.block false) _ _ trivial) fun c vs h5=>hk _ _ ⟨h,Z55 h5 (by omega),trivial⟩))
   | value=>unfold Z0; exact Sh.within (ih _ _ _ trivial)
   | assign =>
     unfold Z0;exact Sh.bind (ih (.bin 0) _ _ trivial) fun x us h=>Sh.ite (fun h1=>Sh.ite (fun _=>Sh.bind (ih .value _ _ trivial) fun y vs h2=>Sh.ok (Z7s h h2 (by omega))) fun _=>Sh.err) fun _=>Sh.ok h
   | bin level =>
     unfold Z0;exact Sh.ite (fun _=>ih _ _ _ trivial) fun _=>Sh.bind (ih (.bin (level + 1)) _ _ trivial) fun x us h=>ih _ _ _ h
   | binLoop level x =>
     unfold Z0;exact Sh.ite (fun _=>Sh.ok hg) fun h0=>Sh.bind (ih (.bin (level + 1)) _ _ trivial) fun y us h=>ih _ _ _ (show Job.good (.binLoop level (.mk (Z03 level ts) ByteArray.empty 0 [x,y])) from Z7s (s:=ByteArray.empty) (n:=0) hg h (by have:=Zdf level ts; omega))
   | unary =>
     unfold Z0;exact Sh.ite (fun _=>ih _ _ _ trivial) fun h0=>Sh.bind (Sh.within (ih .unary _ _ trivial)) fun x us h=>Sh.ok (Z55 h (by have:=Zcg ts; omega))
   | postfix_ =>
     unfold Z0;exact Sh.bind (ih .primary _ _ trivial) fun x us h=>ih _ _ _ h
   | postLoop x =>
     unfold Z0;exact Sh.ite (fun _=>Sh.name fun s=>ih _ _ _ (show Job.good (.postLoop (.mk 36 s 0 [x])) from Z55 (s:=s) (n:=0) hg (by omega))) fun _=>Sh.ite (fun _=>Sh.bind (ih (.args [x]) _ _ ⟨⟨hg,trivial⟩,by simp⟩) fun n us h=>ih _ _ _ h) fun _=>Sh.ok hg
   | args acc =>
     unfold Z0;refine Sh.ite (fun _=>Sh.ok ⟨⟨fun _=>by have:=hg.2; simpa using this,by omega,by omega,by omega⟩,hg.1⟩) fun _=>?_;exact Sh.comma fun ts'=>Sh.ite (fun _=>Sh.fail) fun _=>Sh.bind (ih .value _ _ trivial) fun v us h=>ih _ _ _ ⟨Z68 hg.1 ⟨h,trivial⟩,by simp⟩
   | primary =>
     unfold Z0;refine Sh.ite (fun h=>Sh.ok (WT.leaf (by omega))) fun _=>?_;refine Sh.ite (fun h=>Sh.ok (WT.leaf (by omega))) fun _=>?_;refine Sh.ite (fun h=>Sh.ok (WT.leaf (by omega))) fun _=>?_;refine Sh.ite (fun h=>Sh.ok (WT.leaf (by have:=Zcr ts; omega))) fun _=>?_;refine Sh.ite (fun h=>ih _ _ _ trivial) fun _=>?_;refine Sh.ite (fun h=>Sh.ite (fun _=>ih _ _ _ (.inr rfl)) fun _=>ih _ _ _ (.inr rfl)) fun _=>?_;exact Sh.ite (fun h=>ih _ _ _ trivial) fun _=>Sh.fail
   | object acc =>
     unfold Z0;refine Sh.ite (fun _=>Sh.ok (Z5k hg (by omega))) fun _=>?_;exact Sh.comma fun ts'=>Sh.ite (fun _=>Sh.fail) fun _=>Sh.name fun s=>Sh.want (Sh.bind (ih .value _ _ trivial) fun v us h=>ih _ _ _ (Z68 hg ⟨Z55 h (by omega),trivial⟩))
def WA (a:ATree):Prop:=∀ x∈a.subs,Ar x.kind x.kids.length
theorem WA.kid {a k:ATree} (h:WA a) (hk:k∈a.kids):WA k:=fun x hx=>h x (Z8d hk hx)
theorem WA.self {a:ATree} (h:WA a):Ar a.kind a.kids.length:=h a (Z6z a)
theorem WA.call {a:ATree} (h:WA a):Zeb a:=fun x hx h35 e=>(h x hx).call h35 (by rw [e]; rfl)
mutual
theorem Zfu:∀ (a:ATree),WT a.tree→WA a
 | .mk b v k t n ks, h => by
   intro x hx;simp only [ATree.tree,WT] at h;simp only [ATree.subs,List.mem_cons] at hx;rcases hx with rfl | hx
   ·simp only [ATree.kind,ATree.kids];have:=h.1;rw [Z20,Ym] at this;exact this
   ·exact Zey ks h.2 x hx
theorem Zey:∀ (l:List ATree),WTL (Zp l)→∀ x∈Z3c l,Ar x.kind x.kids.length
 | [],_,x,hx=>by simp [Z3c] at hx
 | a :: l, h, x, hx => by
   simp only [Zp,WTL] at h;simp only [Z3c,List.mem_append] at hx;rcases hx with hx | hx;·exact Zfu a h.1 x hx
   ·exact Zey l h.2 x hx
end
theorem Zfr {l:List ATree} (h:l.length=2):∃ x y,l=[x,y]:=by
 match l,h with
 | [x,y],_=>exact ⟨x,y,rfl⟩
end Go.Proofs.YtedopiahfejdfaaGreatDoor
