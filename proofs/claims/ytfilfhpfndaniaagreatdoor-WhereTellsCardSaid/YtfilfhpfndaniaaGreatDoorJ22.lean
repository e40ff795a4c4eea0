/- The document's reading is package tree's. -/
import Derived.Test.YtfilfhpfndaniaaGreatDoorJ16
namespace Go.Proofs.YtfilfhpfndaniaaGreatDoor
open Go Go.RowKit
set_option maxRecDepth 100000
set_option maxHeartbeats 20000000
set_option linter.unusedVariables false
theorem Z1k.mk {t:Tree} {ts:List Tok} {e:Int×Nat}:Z1k (some (t,⟨ts,some e⟩)) e:=⟨t,ts,rfl⟩
theorem Z4t {t:Tree} {ts:List Tok} (hg:Zx ts):Agree (endT t ts) (some (t,Z0h Zj ⟨ts,none⟩)):=
 Agree.want (m:=fun σ=>some (t,σ)) hg (fun hg=>Agree.ok hg) fun _ _=>Z1k.mk
theorem Z8o {t:Tree} {ts:List Tok} {e:Int×Nat}:Z1k (some (t,Z0h Zj ⟨ts,some e⟩)) e:=Z1k.mk
theorem Zeg {s:ByteArray} {ts:List Tok} (h:isT s ts=true):(hdT ts).text=s:=by
 simp only [isT,Bool.and_eq_true,Z3r] at h;exact h.2
theorem Zim {s s':ByteArray} {ts:List Tok} (h:isT s ts=true) (hn:s≠s'):isT s' ts=false:=by
 have:=Zeg h;simp only [isT,this];have:Zt s s'=false:=by simp [Zt,hn]
 simp [this]
theorem Z77 {c1 c2:Prop} [Decidable c1] [Decidable c2] {b1 b2:Bool} {ts:List Tok} {k:List Tok→PR} {m:RS→RR} (hg:Zx ts) (h1:c1↔b1=true) (h2:c2↔b2=true)
 (hk:∀ ts,¬ c2→Zx ts→Agree (k ts) (m ⟨ts,none⟩)) (he:∀ ts e,Z1k (m ⟨ts,some e⟩) e) :
 Agree ((if c1 then Z10 Z0z ts else fun k=>k ts) fun ts=>if c2 then Z2v 4 ts else k ts) (m (Z5h b2 (Z41 b1 ⟨ts,none⟩))):=by
 have key:∀ ts,Zx ts→Agree (if c2 then Z2v 4 ts else k ts) (m (Z5h b2 ⟨ts,none⟩)):=by
  intro ts hg;unfold Z5h;by_cases hc:c2;·rw [Yb hc,h2.1 hc]; exact he _ _
  ·rw [Y9 hc];have : b2 = false := by cases b2; rfl; exact absurd (h2.2 rfl) hc
   rw [this]; exact hk ts hc hg
 by_cases hc:c1
 ·rw [Yb hc,Z41,h1.1 hc];exact Agree.want (m:=fun σ=>m (Z5h b2 σ)) hg (fun hg=>key _ hg) fun ts e=>by
   cases b2 <;> exact he _ _
 ·rw [Y9 hc];have : b1 = false := by cases b1; rfl; exact absurd (h1.2 rfl) hc
  rw [this];exact key ts hg
theorem Zex {level:Nat} {ts:List Tok} (hg:Zx ts):Z1r level ts=if decide ((hdT ts).kind=5) && Z5l level (hdT ts).text then Z3a (hdT ts).text else 0:=by
 have hG:=hg.hd.1;have h2:∀ {s:ByteArray},Z3a s≠0→isT s ts=(decide ((hdT ts).kind=5) && Zt (hdT ts).text s):=by
  intro s hs;unfold isT;by_cases ht:(hdT ts).text=s
  ·by_cases h : (hdT ts).kind = 2;·exact absurd (by rw [← ht]; exact hG h) hs
   ·simp [h]
  ·have : Zt (hdT ts).text s = false := by simp [Zt, ht]
   simp [this]
 have one:∀ {s:ByteArray},Z3a s≠0→(if isT s ts=true then Z3a s else 0)=if (decide ((hdT ts).kind=5) && Zt (hdT ts).text s)=true then Z3a (hdT ts).text else 0:=by
  intro s hs;rw [h2 hs];by_cases h:(decide ((hdT ts).kind=5) && Zt (hdT ts).text s)=true
  ·rw [Yb h,Yb h];have:=(Bool.and_eq_true _ _ ▸ h:_∧_).2;rw [Z3r.1 this]
  ·rw [Y9 h,Y9 h]
 match level with
 | 0=>exact one (s:=s_or) (by decide)
 | 1=>exact one (s:=Z6r) (by decide)
 | 2=>exact one (s:=Z4o) (by decide)
 | 3=>exact one (s:=Z4n) (by decide)
 | 4 =>
   have e1:=one (s:=Z56) (by decide);have e2:=one (s:=Z5y) (by decide);show (if isT Z56 ts=true then Z3a Z56 else if isT Z5y ts=true then Z3a Z5y else 0)=if (decide ((hdT ts).kind=5) && (Zt (hdT ts).text Z56 || Zt (hdT ts).text Z5y))=true then Z3a (hdT ts).text else 0;by_cases h:(decide ((hdT ts).kind=5) && Zt (hdT ts).text Z56)=true
   ·rw [Yb (by rw [h2 (by decide)]; exact h),Yb (by simp only [Bool.and_eq_true,Bool.or_eq_true] at h ⊢; exact ⟨h.1,.inl h.2⟩)];rw [Z3r.1 (by simp only [Bool.and_eq_true] at h; exact h.2:Zt (hdT ts).text Z56=true)]
   ·rw [Y9 (by rw [h2 (by decide)]; exact h),e2];have:(decide ((hdT ts).kind=5) && (Zt (hdT ts).text Z56 || Zt (hdT ts).text Z5y))=(decide ((hdT ts).kind=5) && Zt (hdT ts).text Z5y):=by
     cases h5:decide ((hdT ts).kind=5);·rfl
     ·rw [h5] at h; simp only [Bool.true_and,Bool.not_eq_true] at h; simp [h]
    rw [this]
 | 5=>exact one (s:=Z6q) (by decide)
 | n + 6=>simp [Z1r,Z5l]
theorem Zff {level:Nat} {s:ByteArray} (h:Z5l level s=true):Z3a s≠0:=by
 match level with
 | 0=>rw [Z3r.1 h]; decide
 | 1=>rw [Z3r.1 h]; decide
 | 2=>rw [Z3r.1 h]; decide
 | 3=>rw [Z3r.1 h]; decide
 | 4 =>
   simp only [Z5l,Bool.or_eq_true] at h;rcases h with h | h <;> (rw [Z3r.1 h]; decide)
 | 5=>rw [Z3r.1 h]; decide
 | n + 6=>simp [Z5l] at h
theorem Zg3 {ts:List Tok} (hg:Zx ts):Z38 ts=if (hdT ts).kind=2 then Z33 (hdT ts).text else 0:=by
 have hG:=hg.hd.2;unfold Z38 Z33 isT;by_cases h2:(hdT ts).kind=2;·simp [h2]
 ·rw [Y9 h2];by_cases h5 : (hdT ts).kind = 5
  ·have:=hG h5;unfold Z33 at this;simp only [h5,decide_true,Bool.true_or,Bool.true_and];exact this
  ·simp [h2,h5]
def Zki (g:Nat) (k:Int) (d:Nat) (σ:RS):RR:=
 if Zf s_eq (Z22 k (Zo σ).2) then
  Z08 (refF g .value (d + 1) (advR (Z22 k (Zo σ).2))) fun x σ'=>some (.mk k (Zo σ).1 0 [x],Z0h Zj σ')
 else some (.mk k (Zo σ).1 0 [],Z0h Zj (Z22 k (Zo σ).2))
def finR (g d:Nat) (l:List Tree) (σ:RS):RR:=
 if Zf Z03 σ then Z08 (refF g (.braces false) d (advR σ)) fun c σ=>tryF (l ++ [.mk 14 ByteArray.empty 0 [c]]) σ
 else tryF l σ
def Zef (g d:Nat) (b:Tree) (σ:RS):RR:=
 if Zf Z2q σ then
  Z08 (refF g (.braces false) d (Z0h Z0e (Zo (Z0h Z0f (advR σ))).2)) fun c σ'=>finR g d [b,.mk 13 (Zo (Z0h Z0f (advR σ))).1 0 [c]] σ'
 else finR g d [b] σ
def tryR (g d:Nat) (σ:RS):RR:=Z08 (refF g (.braces false) d σ) fun b σ=>Zef g d b σ
structure AG (f:Nat) (d:Nat) (ts:List Tok) (g:Nat):Prop where
 prog:∀ acc,d=0→Agree (Z0 f (.stmts 1 acc) d ts) (Z08 (refF g (.prog acc) 0 ⟨ts,none⟩) fun l σ=>some (.mk 1 (if Z23 l.kids then Zn else ByteArray.empty) 0 l.kids,σ))
 stmts:∀ acc,Agree (Z0 f (.stmts 6 acc) d ts) (Z08 (refF g (.bracesL acc) d ⟨ts,none⟩) fun l σ=>some (.mk 6 (if Z23 l.kids then Zn else ByteArray.empty) 0 l.kids,σ))
 block:∀ b,Agree (Z0 f (.block b) d ts) (refF g (.braces b) d ⟨ts,none⟩)
 func:∀ k s,Agree (Z0 f (.func k s) d ts) (refF g (.func k s) d ⟨ts,none⟩)
 params:∀ acc,Agree (Z01 (Z0 f (.params acc) d ts) fun p ts=>Z10 Z0e ts fun ts=>okT p ts) (Z08 (refF g (.params acc) d ⟨ts,none⟩) fun l σ=>some (.mk 40 ByteArray.empty 0 l.kids,σ))
 around:Agree (Z0 f .around d ts) (refF g .head d ⟨ts,none⟩)
 stmt:d≤30→Agree (Z0 f .stmt d ts) (refF g .stmt d ⟨ts,none⟩)
 decl:∀ k,Agree (Z01 (Z0 f (.decl k (decide (k=4))) d ts) endT) (Zki g k d ⟨ts,none⟩)
 try_:Agree (Z0 f .try_ d ts) (tryR g d ⟨ts,none⟩)
 value:Agree (Z0 f .value d ts) (refF g .value (d + 1) ⟨ts,none⟩)
 assign:d≤30→Agree (Z0 f .assign d ts) (refF g .value d ⟨ts,none⟩)
 bin:∀ lv,Agree (Z0 f (.bin lv) d ts) (refF g (.pairs lv) d ⟨ts,none⟩)
 binLoop:∀ lv x,Agree (Z0 f (.binLoop lv x) d ts) (refF g (.pairsL lv x) d ⟨ts,none⟩)
 unary:Agree (Z0 f .unary d ts) (refF g .single d ⟨ts,none⟩)
 postfix_:Agree (Z0 f .postfix_ d ts) (Z08 (refF g .first d ⟨ts,none⟩) fun x σ=>refF g (.singleL x) d σ)
 postLoop:∀ x,Agree (Z0 f (.postLoop x) d ts) (refF g (.singleL x) d ⟨ts,none⟩)
 args:∀ x out,out.length≤8→Agree (Z0 f (.args (x :: out)) d ts) (Z08 (refF g (.args out) d ⟨ts,none⟩) fun l σ=>some (.mk 35 ByteArray.empty 0 (x :: l.kids),σ))
 primary:Agree (Z0 f .primary d ts) (refF g .first d ⟨ts,none⟩)
 object:∀ acc,Agree (Z0 f (.object acc) d ts) (Z08 (refF g (.props acc) d ⟨ts,none⟩) fun l σ=>some (.mk 38 ByteArray.empty 0 l.kids,σ))
theorem Z75 {f d:Nat} {ts:List Tok} {g:Nat} (h:d + 1≤30→Agree (Z0 f .stmt (d + 1) ts) (refF (g + 1) .stmt (d + 1) ⟨ts,none⟩)):Agree (Z0v d ts (Z0 f .stmt (d + 1) ts)) (refF (g + 1) .stmt (d + 1) ⟨ts,none⟩):=by
 unfold Z0v;by_cases hd:30 < d + 1;·rw [Yb hd,refF,Yb hd]; exact Agree.fail
 ·rw [Y9 hd]; exact h (by omega)
theorem Z5c {f d:Nat} {ts:List Tok} {g:Nat} (h:d + 1≤30→Agree (Z0 f .stmt (d + 1) ts) (refF (g + 1) .stmt (d + 1) ⟨ts,none⟩)):Agree (Z0v d ts (Z0 f .stmt (d + 1) ts)) (refF (g + 2) .stmt2 d ⟨ts,none⟩):=by
 rw [refF,Yb (show (none:Option (Int×Nat)).isNone=true from rfl)]; exact Z75 h
theorem Zdt {p:PR} {k m:Tree→List Tok→PR}:Z01 (Z01 p k) m=Z01 p fun t ts=>Z01 (k t ts) m:=by
 rcases p with _ | e | ⟨t,ts⟩ <;> rfl
theorem Z45 (q:RR) (m n:Tree→RS→RR):Z08 (Z08 q m) n=Z08 q fun t σ=>Z08 (m t σ) n:=by
 rcases q with _ | ⟨t,σ⟩ <;> rfl
theorem Zem (l:List Tree) (ts:List Tok) (e:Int×Nat):Z1k (tryF l ⟨ts,some e⟩) e:=by
 unfold tryF;by_cases h:l.length=1;·rw [Yb h]; exact Z1k.mk
 ·rw [Y9 h]; exact Z1k.mk
theorem Z7p (g d:Nat) (l:List Tree) (ts:List Tok) (e:Int×Nat):Z1k (finR g d l ⟨ts,some e⟩) e:=by
 unfold finR; rw [Y9 (by simp [Z59])]; exact Zem ..
theorem Zfi (g d:Nat) (b:Tree) (ts:List Tok) (e:Int×Nat):Z1k (Zef g d b ⟨ts,some e⟩) e:=by
 unfold Zef; rw [Y9 (by simp [Z59])]; exact Z7p ..
theorem Zkw {s:ByteArray} {ts:List Tok}:(isT s ts=true)↔Zf s ⟨ts,none⟩=true:=by rw [Z0p]
theorem Agree.isT {s:ByteArray} {ts:List Tok} {p1 p2:PR} {q1 q2:RR} (h1:isT s ts=true→Agree p1 q1) (h2:isT s ts=false→Agree p2 q2):Agree (if isT s ts=true then p1 else p2) (if Zf s ⟨ts,none⟩=true then q1 else q2):=
 Agree.ite Zkw h1 fun h=>h2 (by simpa using h)
theorem Zap {ts:List Tok} {k:ByteArray→List Tok→PR} {m:Tree→List Tok→PR}:Z01 (Z3n ts k) m=Z3n ts fun s ts=>Z01 (k s ts) m:=by
 unfold Z3n;by_cases h:(hdT ts).kind=1;·rw [Yb h,Yb h]
 ·rw [Y9 h,Y9 h]; rfl
theorem Zg0 {s:ByteArray} {ts:List Tok} {k:List Tok→PR} {m:Tree→List Tok→PR}:Z01 (Z10 s ts k) m=Z10 s ts fun ts=>Z01 (k ts) m:=by
 unfold Z10;by_cases h:isT s ts=true;·rw [Yb h,Yb h]
 ·rw [Y9 h,Y9 h]; rfl
theorem Zf1 {c1 c2:Prop} [Decidable c1] [Decidable c2] {ts:List Tok} {k:List Tok→PR} {m:Tree→List Tok→PR} :
 Z01 ((if c1 then Z10 Z0z ts else fun k=>k ts) fun ts=>if c2 then Z2v 4 ts else k ts) m=(if c1 then Z10 Z0z ts else fun k=>k ts) fun ts=>if c2 then Z2v 4 ts else Z01 (k ts) m:=by
 have key:∀ ts,Z01 (if c2 then Z2v 4 ts else k ts) m=if c2 then Z2v 4 ts else Z01 (k ts) m:=by
  intro ts;by_cases h:c2;·rw [Yb h,Yb h]; rfl
  ·rw [Y9 h,Y9 h]
 by_cases h:c1
 ·simp only [if_pos h];rw [Zg0];simp only [key]
 ·simp only [if_neg h]; exact key ts
theorem Zlf {f d:Nat} {ts:List Tok} {g:Nat} (hg:Zx ts) (I:∀ {d:Nat} {ts:List Tok},Zx ts→AG f d ts (g + 3)) (I4:∀ {d:Nat} {ts:List Tok},Zx ts→AG f d ts (g + 4)):∀ acc,d=0→Agree (Z0 (f + 1) (.stmts 1 acc) d ts) (Z08 (refF (g + 4) (.prog acc) 0 ⟨ts,none⟩) fun l σ=>some (.mk 1 (if Z23 l.kids then Zn else ByteArray.empty) 0 l.kids,σ)):=by
 have HD:=hg.tail;rintro acc rfl;rw [Z0,refF];by_cases h6:(hdT ts).kind=6
 ·simp only [h6,if_true,decide_true,Option.isNone_none,Bool.not_true,Bool.and_false,Bool.false_eq_true,if_false,Z08];exact Agree.ok hg
 ·simp only [h6,if_true,decide_false,Option.isNone_none,Bool.not_false,Bool.and_true,Bool.false_eq_true,if_false];rw [Z45];exact Agree.bind (Z75 fun h=>(I (d:=0 + 1) hg).stmt h) (fun t ts hg=>(I hg).prog (acc ++ [t]) rfl) fun t ts e=>by rw [Zj3]; exact Z1k.mk
theorem Zjh {f d:Nat} {ts:List Tok} {g:Nat} (hg:Zx ts) (I:∀ {d:Nat} {ts:List Tok},Zx ts→AG f d ts (g + 3)) (I4:∀ {d:Nat} {ts:List Tok},Zx ts→AG f d ts (g + 4)):∀ acc,Agree (Z0 (f + 1) (.stmts 6 acc) d ts) (Z08 (refF (g + 4) (.bracesL acc) d ⟨ts,none⟩) fun l σ=>some (.mk 6 (if Z23 l.kids then Zn else ByteArray.empty) 0 l.kids,σ)):=by
 have HD:=hg.tail;intro acc;rw [Z0,refF];cases hb:isT Zp ts
 ·rw [Y9 (by simp)];simp only [Option.isNone_none,Z0p,hb,Bool.not_false,Bool.and_true,if_true];rw [Z45];exact Agree.bind (Z75 fun h=>(I (d:=d + 1) hg).stmt h) (fun t ts hg=>(I hg).stmts (acc ++ [t])) fun t ts e=>by rw [Z74]; exact Z1k.mk
 ·rw [Yb (by simp)];simp only [Option.isNone_none,Z0p,hb,Bool.not_true,Bool.and_false,Bool.false_eq_true,if_false,Z08,Tree.kids];exact Agree.ok hg
theorem Zjs {f d:Nat} {ts:List Tok} {g:Nat} (hg:Zx ts) (I:∀ {d:Nat} {ts:List Tok},Zx ts→AG f d ts (g + 3)) (I4:∀ {d:Nat} {ts:List Tok},Zx ts→AG f d ts (g + 4)):∀ b,Agree (Z0 (f + 1) (.block b) d ts) (refF (g + 4) (.braces b) d ⟨ts,none⟩):=by
 have HD:=hg.tail;intro b;rw [Z0,refF];refine Agree.want (m:=fun σ=>Z08 (refF (g + 3) (.bracesL []) d σ) fun l σ=>some (.mk 6 (if b && (Z0h Zp σ).f.isNone && Z23 l.kids then Zn else ByteArray.empty) 0 l.kids,Z0h Zp σ)) hg (fun hg=>?_) fun ts e=>by rw [Z74]; exact Z1k.mk
 have h:=(I (d:=d) hg).stmts [];revert h;generalize Z0 f (.stmts 6 []) d ts.tail=p;generalize refF (g + 3) (.bracesL []) d ⟨ts.tail,none⟩=q;intro h;rcases p with _ | e | ⟨t,us⟩;·trivial
 ·obtain ⟨t', ts', h⟩ := h;rcases q with _ | ⟨l, σ⟩;·simp [Z08] at h
  ·simp only [Z08,Option.some.injEq,Prod.mk.injEq] at h;obtain ⟨_,rfl⟩:=h;exact Z1k.mk
 ·obtain ⟨h, hg⟩ := h;rcases q with _ | ⟨l, σ⟩;·simp [Z08] at h
  ·simp only [Z08, Option.some.injEq, Prod.mk.injEq] at h;obtain ⟨rfl, rfl⟩ := h;show Agree (Z10 Zp us fun ts => okT (if b = true then _ else _) ts) (some (.mk 6 (if (b && (Z0h Zp ⟨us, none⟩).f.isNone && Z23 l.kids) = true then Zn else ByteArray.empty) 0 l.kids, Z0h Zp ⟨us, none⟩));refine Agree.want (m := fun σ => some (.mk 6 (if (b && σ.f.isNone && Z23 l.kids) = true then Zn else ByteArray.empty) 0 l.kids, σ)) hg (fun hg => ?_) fun ts e => Z1k.mk;cases b;·exact Agree.ok hg
   ·simp only [Option.isNone_none,Bool.true_and,if_true];exact Agree.ok hg
theorem Zla {f d:Nat} {ts:List Tok} {g:Nat} (hg:Zx ts) (I:∀ {d:Nat} {ts:List Tok},Zx ts→AG f d ts (g + 3)) (I4:∀ {d:Nat} {ts:List Tok},Zx ts→AG f d ts (g + 4)):∀ k s,Agree (Z0 (f + 1) (.func k s) d ts) (refF (g + 4) (.func k s) d ⟨ts,none⟩):=by
 have HD:=hg.tail;intro k s;rw [Z0,refF];refine Agree.want (m:=fun σ=>Z08 (refF (g + 3) (.params []) d σ) fun l σ=>Z08 (refF (g + 3) (.braces true) d σ) fun b σ=>some (.mk k s 0 [.mk 40 ByteArray.empty 0 l.kids,b],σ)) hg (fun hg=>?_) fun ts e=>by rw [Z6n]; simp only [Z08]; rw [Z4u]; exact Z1k.mk
 have h:=(I (d:=d) hg).params [];revert h;generalize Z0 f (.params []) d ts.tail=p;generalize refF (g + 3) (.params []) d ⟨ts.tail,none⟩=q;intro h;have e0:(fun (p:Tree) (ts:List Tok)=>Z10 Z0e ts fun ts=>Z01 (Z0 f (.block true) d ts) fun b ts=>okT (.mk k s 0 [p,b]) ts)=fun p ts=>Z01 (Z10 Z0e ts fun ts=>okT p ts) fun p ts=>Z01 (Z0 f (.block true) d ts) fun b ts=>okT (.mk k s 0 [p,b]) ts:=by
  funext p ts
  unfold Z10;by_cases hh:isT Z0e ts=true;·rw [Yb hh,Yb hh]; rfl
  ·rw [Y9 hh,Y9 hh]; rfl
 have e1:Z01 p (fun (p:Tree) (ts:List Tok)=>Z10 Z0e ts fun ts=>Z01 (Z0 f (.block true) d ts) fun b ts=>okT (.mk k s 0 [p,b]) ts)=Z01 (Z01 p fun p ts=>Z10 Z0e ts fun ts=>okT p ts) fun p ts=>Z01 (Z0 f (.block true) d ts) fun b ts=>okT (.mk k s 0 [p,b]) ts:=by
  rw [e0];rcases p with _ | e | ⟨t,us⟩ <;> rfl
 have e2:Z08 q (fun l σ=>Z08 (refF (g + 3) (.braces true) d σ) fun b σ=>some (.mk k s 0 [.mk 40 ByteArray.empty 0 l.kids,b],σ))=Z08 (Z08 q fun l σ=>some (.mk 40 ByteArray.empty 0 l.kids,σ)) fun p σ=>Z08 (refF (g + 3) (.braces true) d σ) fun b σ=>some (.mk k s 0 [p,b],σ):=by
  rw [Z45]; rfl
 rw [e1,e2];exact h.bind (fun t ts hg=>Agree.bind ((I hg).block true) (fun b ts hg=>Agree.ok hg) fun b ts e=>Z1k.mk) fun t ts e=>by rw [Z4u]; exact Z1k.mk
theorem Zgn {f d:Nat} {ts:List Tok} {g:Nat} (hg:Zx ts) (I:∀ {d:Nat} {ts:List Tok},Zx ts→AG f d ts (g + 3)) (I4:∀ {d:Nat} {ts:List Tok},Zx ts→AG f d ts (g + 4)):∀ acc,Agree (Z01 (Z0 (f + 1) (.params acc) d ts) fun p ts=>Z10 Z0e ts fun ts=>okT p ts) (Z08 (refF (g + 4) (.params acc) d ⟨ts,none⟩) fun l σ=>some (.mk 40 ByteArray.empty 0 l.kids,σ)):=by
 have HD:=hg.tail;intro acc;rw [Z0,refF];cases hb:isT Z0e ts
 ·simp only [Option.isNone_none, Z0p, hb, Bool.not_false, Bool.and_true, if_true, Bool.false_eq_true, if_false];rw [Zf1];refine Z77 (m := fun σ => Z08 (if σ.f.isNone = true then refF (g + 3) (.params (acc ++ [.mk 23 (Zo σ).1 0 []])) d (Zo σ).2 else refF (g + 3) (.params acc) d σ) fun l σ => some (.mk 40 ByteArray.empty 0 l.kids, σ)) (c1 := 0 < acc.length) (c2 := acc.length = 8) hg decide_eq_true_iff.symm decide_eq_true_iff.symm (fun us _ hg => ?_) fun us e => ?_
  ·rw [Yb (show (none:Option (Int×Nat)).isNone=true from rfl),Zap];exact Agree.name (k:=fun s ts=>Z01 (Z0 f (.params (acc ++ [.mk 23 s 0 []])) d ts) fun p ts=>Z10 Z0e ts fun ts=>okT p ts) (m:=fun s σ=>Z08 (refF (g + 3) (.params (acc ++ [.mk 23 s 0 []])) d σ) fun l σ=>some (.mk 40 ByteArray.empty 0 l.kids,σ)) hg (fun s hg=>(I hg).params (acc ++ [.mk 23 s 0 []])) fun s ts e=>by rw [Z6n]; exact Z1k.mk
  ·rw [Y9 (show ¬ (some e:Option (Int×Nat)).isNone=true by simp),Z6n]; exact Z1k.mk
 ·simp only [Option.isNone_none,Z0p,hb,Bool.not_true,Bool.and_false,if_true,Bool.false_eq_true,if_false];exact Agree.want (m:=fun σ=>some (.mk 40 ByteArray.empty 0 acc,σ)) hg (fun hg=>Agree.ok hg) fun _ _=>Z1k.mk
theorem Zgb {f d:Nat} {ts:List Tok} {g:Nat} (hg:Zx ts) (I:∀ {d:Nat} {ts:List Tok},Zx ts→AG f d ts (g + 3)) (I4:∀ {d:Nat} {ts:List Tok},Zx ts→AG f d ts (g + 4)):Agree (Z0 (f + 1) .around d ts) (refF (g + 4) .head d ⟨ts,none⟩):=by
 have HD:=hg.tail;rw [Z0,refF];refine Agree.want (m:=fun σ=>Z08 (refF (g + 3) .value (d + 1) σ) fun x σ=>some (x,Z0h Z0e σ)) hg (fun hg=>?_) fun ts e=>by rw [Z91]; exact Z1k.mk
 exact (I hg).value.bind (fun t ts hg=>Agree.want (m:=fun σ=>some (t,σ)) hg (fun hg=>Agree.ok hg) fun _ _=>Z1k.mk) fun t ts e=>Z1k.mk
theorem Zl9 {f d:Nat} {ts:List Tok} {g:Nat} (hg:Zx ts) (I:∀ {d:Nat} {ts:List Tok},Zx ts→AG f d ts (g + 3)) (I4:∀ {d:Nat} {ts:List Tok},Zx ts→AG f d ts (g + 4)):∀ k,Agree (Z01 (Z0 (f + 1) (.decl k (decide (k=4))) d ts) endT) (Zki (g + 4) k d ⟨ts,none⟩):=by
 have HD:=hg.tail;intro k;rw [Z0,Zki];rw [Zap];refine Agree.name (m:=fun s σ=>if Zf s_eq (Z22 k σ)=true then Z08 (refF (g + 4) .value (d + 1) (advR (Z22 k σ))) fun x σ'=>some (.mk k s 0 [x],Z0h Zj σ') else some (.mk k s 0 [],Z0h Zj (Z22 k σ))) hg (fun s hg=>?_) fun s ts e=>?_
 ·generalize ts.tail = us at hg;cases he : isT s_eq us
  ·by_cases hk : k = 4
   ·subst hk;have e1 : Z22 4 ⟨us, none⟩ = ⟨us, some (3, (hdT us).at')⟩ := by simp [Z22, Z0p, he, Z3c]
    rw [Yb (by simp),e1,Y9 (by simp [Z59])];exact Z1k.mk
   ·have e1 : Z22 k ⟨us, none⟩ = ⟨us, none⟩ := by simp [Z22, hk]
    rw [Y9 (by simp [hk]),Y9 (by simp),e1,Y9 (by rw [Z0p,he]; simp)];exact Z4t hg
  ·have e1 : Z22 k ⟨us, none⟩ = ⟨us, none⟩ := by simp [Z22, Z0p, he]
   rw [Y9 (by simp),Yb rfl,e1,Yb (by rw [Z0p,he])];have:=(I4 hg.tail).value (d:=d);rw [Zdt];exact this.bind (fun x us hg=>Z4t hg) fun t ts e=>Z8o
 ·have e1 : Z22 k ⟨ts, some e⟩ = ⟨ts, some e⟩ := by simp [Z22]
  rw [e1,Y9 (by simp [Z59])]; exact Z1k.mk
theorem Zkq {f d:Nat} {ts:List Tok} {g:Nat} (hg:Zx ts) (I:∀ {d:Nat} {ts:List Tok},Zx ts→AG f d ts (g + 3)) (I4:∀ {d:Nat} {ts:List Tok},Zx ts→AG f d ts (g + 4)):Agree (Z0 (f + 1) .try_ d ts) (tryR (g + 4) d ⟨ts,none⟩):=by
 have HD:=hg.tail;rw [Z0,tryR];refine ((I4 hg).block false).bind (fun b us hg=>?_) fun b ts e=>Zfi ..;have fin:∀ (l:List Tree) us,1≤l.length→Zx us→Agree (if isT Z03 us=true then Z01 (Z0 f (.block false) d us.tail) fun c ts=>okT (.mk 12 ByteArray.empty 0 (l ++ [.mk 14 ByteArray.empty 0 [c]])) ts else if l.length=1 then Z2v 3 us else okT (.mk 12 ByteArray.empty 0 l) us) (finR (g + 4) d l ⟨us,none⟩):=by
  intro l us hl hg;unfold finR;refine Agree.isT (fun h=>?_) fun h=>?_;·exact ((I4 hg.tail).block false).bind (fun c us hg=>by unfold tryF; rw [Y9 (by rw [Yq,List.length_singleton]; omega)]; exact Agree.ok hg) fun b ts e=>Zem ..
  ·unfold tryF;by_cases hl : l.length = 1;·rw [Yb hl, Yb hl]; exact Agree.fail
   ·rw [Y9 hl,Y9 hl]; exact Agree.ok hg
 unfold Zef;refine Agree.isT (fun h=>?_) fun h=>fin _ _ (by simp) hg;refine Agree.want (m:=fun σ=>Z08 (refF (g + 4) (.braces false) d (Z0h Z0e (Zo σ).2)) fun c σ'=>finR (g + 4) d [b,.mk 13 (Zo σ).1 0 [c]] σ') hg.tail (fun hg=>?_) fun us e=>by rw [Zgj,Z4p,Z4u]; exact Z7p ..
 refine Agree.name (m:=fun s σ=>Z08 (refF (g + 4) (.braces false) d (Z0h Z0e σ)) fun c σ'=>finR (g + 4) d [b,.mk 13 s 0 [c]] σ') hg (fun s hg=>?_) fun s us e=>by rw [Z4p,Z4u]; exact Z7p ..
 refine Agree.want (m:=fun σ=>Z08 (refF (g + 4) (.braces false) d σ) fun c σ'=>finR (g + 4) d [b,.mk 13 s 0 [c]] σ') hg (fun hg=>?_) fun us e=>by rw [Z4u]; exact Z7p ..
 exact ((I4 hg).block false).bind (fun c us hg=>fin _ _ (by simp) hg) fun b ts e=>Z7p ..
theorem Zit {f d:Nat} {ts:List Tok} {g:Nat} (hg:Zx ts) (I:∀ {d:Nat} {ts:List Tok},Zx ts→AG f d ts (g + 3)) (I4:∀ {d:Nat} {ts:List Tok},Zx ts→AG f d ts (g + 4)):Agree (Z0 (f + 1) .value d ts) (refF (g + 4) .value (d + 1) ⟨ts,none⟩):=by
 have HD:=hg.tail;rw [Z0];unfold Z0v;by_cases hd:30 < d + 1;·rw [Yb hd,refF,Yb (show (none:Option (Int×Nat)).isNone=true from rfl),Yb hd]; exact Agree.fail
 ·rw [Y9 hd]; exact (I4 hg).assign (by omega)
theorem Zgu {f d:Nat} {ts:List Tok} {g:Nat} (hg:Zx ts) (I:∀ {d:Nat} {ts:List Tok},Zx ts→AG f d ts (g + 3)) (I4:∀ {d:Nat} {ts:List Tok},Zx ts→AG f d ts (g + 4)):d≤30→Agree (Z0 (f + 1) .assign d ts) (refF (g + 4) .value d ⟨ts,none⟩):=by
 have HD:=hg.tail;intro hd;rw [Z0,refF,Yb (show (none:Option (Int×Nat)).isNone=true from rfl),Y9 (by omega)];refine ((I hg).bin 0).bind (fun t us hg=>?_) fun t ts e=>by rw [Y9 (by simp [Z59])]; exact Z1k.mk
 refine Agree.isT (fun h=>?_) fun h=>Agree.ok hg;by_cases hk:t.kind=23∨t.kind=36
 ·rw [Yb hk,Yb hk];exact (I hg.tail).value.bind (fun y us hg=>Agree.ok hg) fun t ts e=>Z1k.mk
 ·rw [Y9 hk,Y9 hk];exact Z1k.mk
theorem Zlj {f d:Nat} {ts:List Tok} {g:Nat} (hg:Zx ts) (I:∀ {d:Nat} {ts:List Tok},Zx ts→AG f d ts (g + 3)) (I4:∀ {d:Nat} {ts:List Tok},Zx ts→AG f d ts (g + 4)):∀ lv,Agree (Z0 (f + 1) (.bin lv) d ts) (refF (g + 4) (.pairs lv) d ⟨ts,none⟩):=by
 have HD:=hg.tail;intro lv;rw [Z0,refF];by_cases h:6≤lv;·rw [Yb h,Yb h]; exact (I hg).unary
 ·rw [Y9 h,Y9 h];exact ((I hg).bin (lv + 1)).bind (fun x us hg=>(I hg).binLoop lv x) fun t ts e=>by rw [Zaz]; exact Z1k.mk
theorem Zg8 {f d:Nat} {ts:List Tok} {g:Nat} (hg:Zx ts) (I:∀ {d:Nat} {ts:List Tok},Zx ts→AG f d ts (g + 3)) (I4:∀ {d:Nat} {ts:List Tok},Zx ts→AG f d ts (g + 4)):∀ lv x,Agree (Z0 (f + 1) (.binLoop lv x) d ts) (refF (g + 4) (.pairsL lv x) d ⟨ts,none⟩):=by
 have HD:=hg.tail;intro lv x;rw [Z0,refF,Zex hg];simp only;cases hb:decide ((hdT ts).kind=5) && Z5l lv (hdT ts).text
 ·rw [Y9 Bool.false_ne_true,Yb rfl,Y9 (by rw [show ((none:Option (Int×Nat)).isNone && decide ((hdT ts).kind=5) && Z5l lv (hdT ts).text)=(decide ((hdT ts).kind=5) && Z5l lv (hdT ts).text) by simp,hb]; simp)];exact Agree.ok hg
 ·rw [Yb rfl,Y9 (Zff (level:=lv) (by simp only [Bool.and_eq_true] at hb; exact hb.2)),Yb (by rw [show ((none:Option (Int×Nat)).isNone && decide ((hdT ts).kind=5) && Z5l lv (hdT ts).text)=(decide ((hdT ts).kind=5) && Z5l lv (hdT ts).text) by simp,hb])];exact ((I hg.tail).bin (lv + 1)).bind (fun y us hg=>(I hg).binLoop lv _) fun t ts e=>by rw [Zaz]; exact Z1k.mk
theorem Zk1 {f d:Nat} {ts:List Tok} {g:Nat} (hg:Zx ts) (I:∀ {d:Nat} {ts:List Tok},Zx ts→AG f d ts (g + 3)) (I4:∀ {d:Nat} {ts:List Tok},Zx ts→AG f d ts (g + 4)):Agree (Z0 (f + 1) .unary d ts) (refF (g + 4) .single d ⟨ts,none⟩):=by
 have HD:=hg.tail;have hu:Z6f ⟨ts,none⟩=Z2w ts:=by unfold Z6f Z2w; rw [Z0p,Z0p,Z0p]
 rw [Z0,refF,hu];by_cases h:Z2w ts=0
 ·rw [Yb h,Y9 (fun h'=>h' h)];exact (I hg).postfix_
 ·rw [Y9 h, Yb h];unfold Z0v;by_cases hd : 30 < d + 1;·rw [Yb hd, Yb hd]; exact Agree.fail
  ·rw [Y9 hd,Y9 hd];exact ((I HD).unary (d:=d + 1)).bind (fun x us hg=>Agree.ok hg) fun t ts e=>Z1k.mk
theorem Zdk {f d:Nat} {ts:List Tok} {g:Nat} (hg:Zx ts) (I:∀ {d:Nat} {ts:List Tok},Zx ts→AG f d ts (g + 3)) (I4:∀ {d:Nat} {ts:List Tok},Zx ts→AG f d ts (g + 4)):Agree (Z0 (f + 1) .postfix_ d ts) (Z08 (refF (g + 4) .first d ⟨ts,none⟩) fun x σ=>refF (g + 4) (.singleL x) d σ):=by
 have HD:=hg.tail;rw [Z0];exact (I4 hg).primary.bind (fun x us hg=>(I4 hg).postLoop x) fun t ts e=>by rw [Z72]; exact Z1k.mk
theorem Ze6 {f d:Nat} {ts:List Tok} {g:Nat} (hg:Zx ts) (I:∀ {d:Nat} {ts:List Tok},Zx ts→AG f d ts (g + 3)) (I4:∀ {d:Nat} {ts:List Tok},Zx ts→AG f d ts (g + 4)):∀ x,Agree (Z0 (f + 1) (.postLoop x) d ts) (refF (g + 4) (.singleL x) d ⟨ts,none⟩):=by
 have HD:=hg.tail;intro x;rw [Z0,refF];refine Agree.isT (fun h=>?_) fun h=>Agree.isT (fun h=>?_) fun h=>Agree.ok hg;·exact Agree.name (m:=fun s σ=>refF (g + 3) (.singleL (.mk 36 s 0 [x])) d σ) hg.tail (fun s hg=>(I hg).postLoop _) fun s ts e=>by rw [Z72]; exact Z1k.mk
 ·have := ((I (d := d) hg.tail).args x [] (by simp)).bind (m := fun n σ => refF (g + 3) (.singleL n) d σ) (fun n us hg => (I hg).postLoop n) fun t ts e => by rw [Z72]; exact Z1k.mk
  rw [Z45] at this;exact this
theorem Zko {f d:Nat} {ts:List Tok} {g:Nat} (hg:Zx ts) (I:∀ {d:Nat} {ts:List Tok},Zx ts→AG f d ts (g + 3)) (I4:∀ {d:Nat} {ts:List Tok},Zx ts→AG f d ts (g + 4)):∀ x out,out.length≤8→Agree (Z0 (f + 1) (.args (x :: out)) d ts) (Z08 (refF (g + 4) (.args out) d ⟨ts,none⟩) fun l σ=>some (.mk 35 ByteArray.empty 0 (x :: l.kids),σ)):=by
 have HD:=hg.tail;intro x out h8;rw [Z0,refF];cases hb:isT Z0e ts
 ·simp only [Option.isNone_none, Z0p, hb, Bool.not_false, Bool.and_true, if_true, Bool.false_eq_true, if_false]
  refine Z77 (c1:=1 < (x :: out).length) (c2:=8 < (x :: out).length) (b2:=decide (out.length=8)) (k:=fun ts=>Z01 (Z0 f .value d ts) fun v ts=>Z0 f (.args (x :: (out ++ [v]))) d ts) (m:=fun σ=>Z08 (if σ.f.isNone=true then Z08 (refF (g + 3) .value (d + 1) σ) fun v σ=>refF (g + 3) (.args (out ++ [v])) d σ else refF (g + 3) (.args out) d σ) fun l σ=>some (.mk 35 ByteArray.empty 0 (x :: l.kids),σ)) hg (by simp) (by rw [decide_eq_true_eq,List.length_cons]; omega) (fun us hn hg=>?_) fun us e=>?_
  ·rw [Yb (show (none:Option (Int×Nat)).isNone=true from rfl),Z45];exact ((I hg).value (d:=d)).bind (fun v us hg=>(I hg).args x (out ++ [v]) (by rw [Yq,List.length_singleton]; rw [List.length_cons] at hn; omega)) fun v us e=>by rw [Zed]; exact Z1k.mk
  ·rw [Y9 (show ¬ (some e:Option (Int×Nat)).isNone=true by simp),Zed]; exact Z1k.mk
 ·simp only [Option.isNone_none,Z0p,hb,Bool.not_true,Bool.and_false,if_true,Bool.false_eq_true,if_false];unfold Z0h;simp only [Option.isNone_none,hb,if_true];exact Agree.ok HD
theorem Zes {f d:Nat} {ts:List Tok} {g:Nat} (hg:Zx ts) (I:∀ {d:Nat} {ts:List Tok},Zx ts→AG f d ts (g + 3)) (I4:∀ {d:Nat} {ts:List Tok},Zx ts→AG f d ts (g + 4)):Agree (Z0 (f + 1) .primary d ts) (refF (g + 4) .first d ⟨ts,none⟩):=by
 have HD:=hg.tail;rw [Z0,refF,Yb (show (none:Option (Int×Nat)).isNone=true from rfl),Zg3 hg];simp only;by_cases h1:(hdT ts).kind=1;·rw [Yb h1,Yb h1]; exact Agree.ok HD
 rw [Y9 h1,Y9 h1];by_cases h3:(hdT ts).kind=3;·rw [Yb h3,Yb h3]; exact Agree.ok HD
 rw [Y9 h3,Y9 h3];by_cases h4:(hdT ts).kind=4;·rw [Yb h4,Yb h4]; exact Agree.ok HD
 rw [Y9 h4,Y9 h4];by_cases hc:(hdT ts).kind=2∧Z33 (hdT ts).text≠0
 ·have nt:∀ s,Z33 s=0→Zf s ⟨ts,none⟩=false:=fun s hs=>by
   rw [Z0p];cases hb:isT s ts;·rfl
   ·exact absurd (by rw [Zeg hb]; exact hs) hc.2
  rw [Yb hc.1,Yb hc.2,nt _ (by decide),nt _ (by decide),nt _ (by decide)];simp only [Bool.false_eq_true,if_false];rw [Yb hc];exact Agree.ok HD
 ·have e0:(if (hdT ts).kind=2 then Z33 (hdT ts).text else 0)=0:=by
   by_cases h2:(hdT ts).kind=2
   ·rw [Yb h2];exact Decidable.byContradiction fun h=>hc ⟨h2,h⟩
   ·rw [Y9 h2]
  rw [e0,Y9 (fun h=>h rfl),Y9 hc];refine Agree.isT (fun h=>(I hg).around) fun _=>?_;refine Agree.isT (fun h=>?_) fun _=>?_
  ·show Agree (if (hdT ts.tail).kind = 1 then _ else _) (if (hdT ts.tail).kind = 1 then refF (g + 3) (.func 37 (Zo ⟨ts.tail, none⟩).1) d (Zo ⟨ts.tail, none⟩).2 else refF (g + 3) (.func 37 ByteArray.empty) d ⟨ts.tail, none⟩);by_cases hk : (hdT ts.tail).kind = 1
   ·have ei : Zo ⟨ts.tail, none⟩ = ((hdT ts.tail).text, ⟨ts.tail.tail, none⟩) := by simp [Zo, hk, advR]
    rw [Yb hk,Yb hk,ei];exact (I HD.tail).func 37 _
   ·rw [Y9 hk,Y9 hk];exact (I HD).func 37 _
  refine Agree.isT (fun h=>(I HD).object []) fun _=>Agree.fail
theorem Zht {f d:Nat} {ts:List Tok} {g:Nat} (hg:Zx ts) (I:∀ {d:Nat} {ts:List Tok},Zx ts→AG f d ts (g + 3)) (I4:∀ {d:Nat} {ts:List Tok},Zx ts→AG f d ts (g + 4)):∀ acc,Agree (Z0 (f + 1) (.object acc) d ts) (Z08 (refF (g + 4) (.props acc) d ⟨ts,none⟩) fun l σ=>some (.mk 38 ByteArray.empty 0 l.kids,σ)):=by
 have HD:=hg.tail;intro acc;rw [Z0,refF];cases hb:isT Zp ts
 ·simp only [Option.isNone_none, Z0p, hb, Bool.not_false, Bool.and_true, if_true, Bool.false_eq_true, if_false]
  refine Z77 (c1:=0 < acc.length) (c2:=acc.length=8) (k:=fun ts=>Z3n ts fun s ts=>Z10 Z32 ts fun ts=>Z01 (Z0 f .value d ts) fun v ts=>Z0 f (.object (acc ++ [.mk 39 s 0 [v]])) d ts)
   (m:=fun σ=>Z08 (if σ.f.isNone=true then Z08 (refF (g + 3) .value (d + 1) (Z0h Z32 (Zo σ).2)) fun v σ'=>refF (g + 3) (.props (acc ++ [.mk 39 (Zo σ).1 0 [v]])) d σ' else refF (g + 3) (.props acc) d σ) fun l σ=>some (.mk 38 ByteArray.empty 0 l.kids,σ)) hg decide_eq_true_iff.symm decide_eq_true_iff.symm (fun us _ hg=>?_) fun us e=>?_
  ·rw [Yb (show (none : Option (Int × Nat)).isNone = true from rfl)];refine Agree.name (m := fun s σ => Z08 (Z08 (refF (g + 3) .value (d + 1) (Z0h Z32 σ)) fun v σ' => refF (g + 3) (.props (acc ++ [.mk 39 s 0 [v]])) d σ') fun l σ => some (.mk 38 ByteArray.empty 0 l.kids, σ)) hg (fun s hg => ?_) fun s us e => by rw [Z4p, Z91]; simp only [Z08]; rw [Z7r]; exact Z1k.mk
   refine Agree.want (m:=fun σ=>Z08 (Z08 (refF (g + 3) .value (d + 1) σ) fun v σ'=>refF (g + 3) (.props (acc ++ [.mk 39 s 0 [v]])) d σ') fun l σ=>some (.mk 38 ByteArray.empty 0 l.kids,σ)) hg (fun hg=>?_) fun us e=>by rw [Z91]; simp only [Z08]; rw [Z7r]; exact Z1k.mk
   rw [Z45];exact ((I hg).value (d:=d)).bind (fun v us hg=>(I hg).object _) fun v us e=>by rw [Z7r]; exact Z1k.mk
  ·rw [Y9 (show ¬ (some e:Option (Int×Nat)).isNone=true by simp),Z7r]; exact Z1k.mk
 ·simp only [Option.isNone_none,Z0p,hb,Bool.not_true,Bool.and_false,if_true,Bool.false_eq_true,if_false];unfold Z0h;simp only [Option.isNone_none,hb,if_true];exact Agree.ok HD
theorem Z3e {s:ByteArray} {ts:List Tok} (h:isT s ts=true):(∀ s',s≠s'→¬ isT s' ts=true)∧(∀ s',s≠s'→¬ Zf s' ⟨ts,none⟩=true):=
 ⟨fun s' hn=>by rw [Zim h hn]; simp,fun s' hn=>by rw [Z0p,Zim h hn]; simp⟩
theorem Z49 {s:ByteArray} {ts:List Tok} (h:isT s ts=true):Z4e ⟨ts,none⟩=if s=Z1l then 2 else if s=Z1q then 3 else if s=Z09 then 4 else 0:=by
 have e:∀ s',isT s' ts=decide (s=s'):=fun s'=>by
  by_cases hs:s=s';·rw [← hs,h]; simp
  ·rw [Zim h hs]; simp [hs]
 unfold Z4e;rw [Z0p,Z0p,Z0p,e,e,e];simp only [decide_eq_true_eq]
theorem Zh1 {f d:Nat} {ts:List Tok} {g:Nat} (hg:Zx ts) (hd:d≤30) (I:∀ {d:Nat} {ts:List Tok},Zx ts→AG f d ts (g + 3)) (I2:∀ {d:Nat} {ts:List Tok},Zx ts→AG f d ts (g + 2)) (h:isT Zc ts=true):Agree (Z0 (f + 1) .stmt d ts) (refF (g + 4) .stmt d ⟨ts,none⟩):=by
 have HD:=hg.tail;obtain ⟨n,m⟩:=Z3e h;have y:Zf Zc ⟨ts,none⟩=true:=by rw [Z0p]; exact h
 rw [Z0,refF];simp only [];rw [Yb h];rw [Y9 (show ¬ 30 < d by omega),Yb y];exact (I hg).block false
theorem Zl6 {f d:Nat} {ts:List Tok} {g:Nat} (hg:Zx ts) (hd:d≤30) (I:∀ {d:Nat} {ts:List Tok},Zx ts→AG f d ts (g + 3)) (I2:∀ {d:Nat} {ts:List Tok},Zx ts→AG f d ts (g + 2)) (h:isT Zj ts=true):Agree (Z0 (f + 1) .stmt d ts) (refF (g + 4) .stmt d ⟨ts,none⟩):=by
 have HD:=hg.tail;obtain ⟨n,m⟩:=Z3e h;have y:Zf Zj ⟨ts,none⟩=true:=by rw [Z0p]; exact h
 rw [Z0,refF];simp only [];rw [Y9 (n Zc (by decide)),Yb h];rw [Y9 (show ¬ 30 < d by omega),Y9 (m Zc (by decide)),Yb y];exact Agree.ok HD
theorem Zlm {f d:Nat} {ts:List Tok} {g:Nat} (hg:Zx ts) (hd:d≤30) (I:∀ {d:Nat} {ts:List Tok},Zx ts→AG f d ts (g + 3)) (I2:∀ {d:Nat} {ts:List Tok},Zx ts→AG f d ts (g + 2)) (h:isT Z1l ts=true):Agree (Z0 (f + 1) .stmt d ts) (refF (g + 4) .stmt d ⟨ts,none⟩):=by
 have HD:=hg.tail;obtain ⟨n,m⟩:=Z3e h;have y:Zf Z1l ⟨ts,none⟩=true:=by rw [Z0p]; exact h
 have dk:=Z49 h;rw [show (if Z1l=Z1l then (2:Int) else if Z1l=Z1q then 3 else if Z1l=Z09 then 4 else 0)=2 from by decide] at dk;rw [Z0,refF];simp only [];rw [Y9 (n Zc (by decide)),Y9 (n Zj (by decide)),Yb h];rw [Y9 (show ¬ 30 < d by omega),Y9 (m Zc (by decide)),Y9 (m Zj (by decide)),Y9 (m Za (by decide)),Y9 (m s_if (by decide)),Y9 (show ¬ (Zf Zz ⟨ts,none⟩ || Zf Z0c ⟨ts,none⟩)=true by rw [Bool.or_eq_true,not_or]; exact ⟨(m Zz (by decide)),(m Z0c (by decide))⟩),Y9 (m Z2k (by decide)),dk,Yb (by decide)];exact (I HD).decl 2
theorem Zlw {f d:Nat} {ts:List Tok} {g:Nat} (hg:Zx ts) (hd:d≤30) (I:∀ {d:Nat} {ts:List Tok},Zx ts→AG f d ts (g + 3)) (I2:∀ {d:Nat} {ts:List Tok},Zx ts→AG f d ts (g + 2)) (h:isT Z1q ts=true):Agree (Z0 (f + 1) .stmt d ts) (refF (g + 4) .stmt d ⟨ts,none⟩):=by
 have HD:=hg.tail;obtain ⟨n,m⟩:=Z3e h;have y:Zf Z1q ⟨ts,none⟩=true:=by rw [Z0p]; exact h
 have dk:=Z49 h;rw [show (if Z1q=Z1l then (2:Int) else if Z1q=Z1q then 3 else if Z1q=Z09 then 4 else 0)=3 from by decide] at dk;rw [Z0,refF];simp only [];rw [Y9 (n Zc (by decide)),Y9 (n Zj (by decide)),Y9 (n Z1l (by decide)),Yb h]
 rw [Y9 (show ¬ 30 < d by omega),Y9 (m Zc (by decide)),Y9 (m Zj (by decide)),Y9 (m Za (by decide)),Y9 (m s_if (by decide)),Y9 (show ¬ (Zf Zz ⟨ts,none⟩ || Zf Z0c ⟨ts,none⟩)=true by rw [Bool.or_eq_true,not_or]; exact ⟨(m Zz (by decide)),(m Z0c (by decide))⟩),Y9 (m Z2k (by decide)),dk,Yb (by decide)];exact (I HD).decl 3
theorem Zj7 {f d:Nat} {ts:List Tok} {g:Nat} (hg:Zx ts) (hd:d≤30) (I:∀ {d:Nat} {ts:List Tok},Zx ts→AG f d ts (g + 3)) (I2:∀ {d:Nat} {ts:List Tok},Zx ts→AG f d ts (g + 2)) (h:isT Z09 ts=true):Agree (Z0 (f + 1) .stmt d ts) (refF (g + 4) .stmt d ⟨ts,none⟩):=by
 have HD:=hg.tail;obtain ⟨n,m⟩:=Z3e h;have y:Zf Z09 ⟨ts,none⟩=true:=by rw [Z0p]; exact h
 have dk:=Z49 h;rw [show (if Z09=Z1l then (2:Int) else if Z09=Z1q then 3 else if Z09=Z09 then 4 else 0)=4 from by decide] at dk;rw [Z0,refF];simp only [];rw [Y9 (n Zc (by decide)),Y9 (n Zj (by decide)),Y9 (n Z1l (by decide)),Y9 (n Z1q (by decide)),Yb h]
 rw [Y9 (show ¬ 30 < d by omega),Y9 (m Zc (by decide)),Y9 (m Zj (by decide)),Y9 (m Za (by decide)),Y9 (m s_if (by decide)),Y9 (show ¬ (Zf Zz ⟨ts,none⟩ || Zf Z0c ⟨ts,none⟩)=true by rw [Bool.or_eq_true,not_or]; exact ⟨(m Zz (by decide)),(m Z0c (by decide))⟩),Y9 (m Z2k (by decide)),dk,Yb (by decide)];exact (I HD).decl 4
theorem Zd9 {f d:Nat} {ts:List Tok} {g:Nat} (hg:Zx ts) (hd:d≤30) (I:∀ {d:Nat} {ts:List Tok},Zx ts→AG f d ts (g + 3)) (I2:∀ {d:Nat} {ts:List Tok},Zx ts→AG f d ts (g + 2)) (h:isT Za ts=true):Agree (Z0 (f + 1) .stmt d ts) (refF (g + 4) .stmt d ⟨ts,none⟩):=by
 have HD:=hg.tail;obtain ⟨n,m⟩:=Z3e h;have y:Zf Za ⟨ts,none⟩=true:=by rw [Z0p]; exact h
 have dk:=Z49 h;rw [show (if Za=Z1l then (2:Int) else if Za=Z1q then 3 else if Za=Z09 then 4 else 0)=0 from by decide] at dk;rw [Z0,refF];simp only [];rw [Y9 (n Zc (by decide)),Y9 (n Zj (by decide)),Y9 (n Z1l (by decide)),Y9 (n Z1q (by decide)),Y9 (n Z09 (by decide)),Yb h];rw [Y9 (show ¬ 30 < d by omega),Y9 (m Zc (by decide)),Y9 (m Zj (by decide)),Yb y];exact Agree.name (m:=fun s σ=>refF (g + 3) (.func 5 s) d σ) HD (fun s hg=>(I hg).func 5 s) fun s ts e=>Zip ..
theorem Zm4 {f d:Nat} {ts:List Tok} {g:Nat} (hg:Zx ts) (hd:d≤30) (I:∀ {d:Nat} {ts:List Tok},Zx ts→AG f d ts (g + 3)) (I2:∀ {d:Nat} {ts:List Tok},Zx ts→AG f d ts (g + 2)) (h:isT s_if ts=true):Agree (Z0 (f + 1) .stmt d ts) (refF (g + 4) .stmt d ⟨ts,none⟩):=by
 have HD:=hg.tail;obtain ⟨n,m⟩:=Z3e h;have y:Zf s_if ⟨ts,none⟩=true:=by rw [Z0p]; exact h
 have dk:=Z49 h;rw [show (if s_if=Z1l then (2:Int) else if s_if=Z1q then 3 else if s_if=Z09 then 4 else 0)=0 from by decide] at dk;rw [Z0,refF];simp only [];rw [Y9 (n Zc (by decide)),Y9 (n Zj (by decide)),Y9 (n Z1l (by decide)),Y9 (n Z1q (by decide)),Y9 (n Z09 (by decide)),Y9 (n Za (by decide)),Yb h];rw [Y9 (show ¬ 30 < d by omega),Y9 (m Zc (by decide)),Y9 (m Zj (by decide)),Y9 (m Za (by decide)),Yb y]
 refine ((I HD).around (d:=d)).bind (fun x us hg=>?_) fun t ts e=>by rw [Z94]; simp only [Z08]; rw [Y9 (by simp [Z59])]; exact Z1k.mk
 refine (Z5c fun h=>(I2 hg).stmt h).bind (fun y us hg=>?_) fun t ts e=>by rw [Y9 (by simp [Z59])]; exact Z1k.mk
 refine Agree.isT (fun h=>?_) fun _=>Agree.ok hg;exact (Z5c fun h=>(I2 hg.tail).stmt h).bind (fun z us hg=>Agree.ok hg) fun t ts e=>Z1k.mk
theorem Zjc {f d:Nat} {ts:List Tok} {g:Nat} (hg:Zx ts) (hd:d≤30) (I:∀ {d:Nat} {ts:List Tok},Zx ts→AG f d ts (g + 3)) (I2:∀ {d:Nat} {ts:List Tok},Zx ts→AG f d ts (g + 2)) (h:isT Zz ts=true):Agree (Z0 (f + 1) .stmt d ts) (refF (g + 4) .stmt d ⟨ts,none⟩):=by
 have HD:=hg.tail;obtain ⟨n,m⟩:=Z3e h;have y:Zf Zz ⟨ts,none⟩=true:=by rw [Z0p]; exact h
 have dk:=Z49 h;rw [show (if Zz=Z1l then (2:Int) else if Zz=Z1q then 3 else if Zz=Z09 then 4 else 0)=0 from by decide] at dk;rw [Z0,refF];simp only [];rw [Y9 (n Zc (by decide)),Y9 (n Zj (by decide)),Y9 (n Z1l (by decide)),Y9 (n Z1q (by decide)),Y9 (n Z09 (by decide)),Y9 (n Za (by decide)),Y9 (n s_if (by decide)),Yb h];rw [Y9 (show ¬ 30 < d by omega),Y9 (m Zc (by decide)),Y9 (m Zj (by decide)),Y9 (m Za (by decide)),Y9 (m s_if (by decide)),Yb (by rw [Bool.or_eq_true]; exact .inl y)]
 refine ((I HD).around (d:=d)).bind (fun x us hg=>?_) fun t ts e=>by rw [Z94]; exact Z1k.mk
 rw [Y9 (m Z0c (by decide))];exact (Z5c fun h=>(I2 hg).stmt h).bind (fun y us hg=>Agree.ok hg) fun t ts e=>Z1k.mk
theorem Zl0 {f d:Nat} {ts:List Tok} {g:Nat} (hg:Zx ts) (hd:d≤30) (I:∀ {d:Nat} {ts:List Tok},Zx ts→AG f d ts (g + 3)) (I2:∀ {d:Nat} {ts:List Tok},Zx ts→AG f d ts (g + 2)) (h:isT Z0c ts=true):Agree (Z0 (f + 1) .stmt d ts) (refF (g + 4) .stmt d ⟨ts,none⟩):=by
 have HD:=hg.tail;obtain ⟨n,m⟩:=Z3e h;have y:Zf Z0c ⟨ts,none⟩=true:=by rw [Z0p]; exact h
 have dk:=Z49 h;rw [show (if Z0c=Z1l then (2:Int) else if Z0c=Z1q then 3 else if Z0c=Z09 then 4 else 0)=0 from by decide] at dk;rw [Z0,refF];simp only [];rw [Y9 (n Zc (by decide)),Y9 (n Zj (by decide)),Y9 (n Z1l (by decide)),Y9 (n Z1q (by decide)),Y9 (n Z09 (by decide)),Y9 (n Za (by decide)),Y9 (n s_if (by decide)),Y9 (n Zz (by decide)),Yb h];rw [Y9 (show ¬ 30 < d by omega),Y9 (m Zc (by decide)),Y9 (m Zj (by decide)),Y9 (m Za (by decide)),Y9 (m s_if (by decide)),Yb (by rw [Bool.or_eq_true]; exact .inr y)]
 refine ((I HD).around (d:=d)).bind (fun x us hg=>?_) fun t ts e=>by rw [Z94]; exact Z1k.mk
 rw [Yb y];exact (Z5c fun h=>(I2 hg).stmt h).bind (fun y us hg=>Agree.ok hg) fun t ts e=>Z1k.mk
theorem Zgw {f d:Nat} {ts:List Tok} {g:Nat} (hg:Zx ts) (hd:d≤30) (I:∀ {d:Nat} {ts:List Tok},Zx ts→AG f d ts (g + 3)) (I2:∀ {d:Nat} {ts:List Tok},Zx ts→AG f d ts (g + 2)) (h:isT Z0k ts=true):Agree (Z0 (f + 1) .stmt d ts) (refF (g + 4) .stmt d ⟨ts,none⟩):=by
 have HD:=hg.tail;obtain ⟨n,m⟩:=Z3e h;have y:Zf Z0k ⟨ts,none⟩=true:=by rw [Z0p]; exact h
 have dk:=Z49 h;rw [show (if Z0k=Z1l then (2:Int) else if Z0k=Z1q then 3 else if Z0k=Z09 then 4 else 0)=0 from by decide] at dk;rw [Z0,refF];simp only [];rw [Y9 (n Zc (by decide)),Y9 (n Zj (by decide)),Y9 (n Z1l (by decide)),Y9 (n Z1q (by decide)),Y9 (n Z09 (by decide)),Y9 (n Za (by decide)),Y9 (n s_if (by decide)),Y9 (n Zz (by decide)),Y9 (n Z0c (by decide)),Yb h]
 rw [Y9 (show ¬ 30 < d by omega),Y9 (m Zc (by decide)),Y9 (m Zj (by decide)),Y9 (m Za (by decide)),Y9 (m s_if (by decide)),Y9 (show ¬ (Zf Zz ⟨ts,none⟩ || Zf Z0c ⟨ts,none⟩)=true by rw [Bool.or_eq_true,not_or]; exact ⟨(m Zz (by decide)),(m Z0c (by decide))⟩),Y9 (m Z2k (by decide)),Y9 (show ¬ Z4e ⟨ts,none⟩≠0 from fun e=>e dk),Yb y];refine Agree.isT (fun h=>Z4t HD) fun _=>?_;exact ((I HD).value (d:=d)).bind (fun x us hg=>Z4t hg) fun t ts e=>Z8o
theorem Zj5 {f d:Nat} {ts:List Tok} {g:Nat} (hg:Zx ts) (hd:d≤30) (I:∀ {d:Nat} {ts:List Tok},Zx ts→AG f d ts (g + 3)) (I2:∀ {d:Nat} {ts:List Tok},Zx ts→AG f d ts (g + 2)) (h:isT Z1u ts=true):Agree (Z0 (f + 1) .stmt d ts) (refF (g + 4) .stmt d ⟨ts,none⟩):=by
 have HD:=hg.tail;obtain ⟨n,m⟩:=Z3e h;have y:Zf Z1u ⟨ts,none⟩=true:=by rw [Z0p]; exact h
 have dk:=Z49 h;rw [show (if Z1u=Z1l then (2:Int) else if Z1u=Z1q then 3 else if Z1u=Z09 then 4 else 0)=0 from by decide] at dk;rw [Z0,refF];simp only [];rw [Y9 (n Zc (by decide)),Y9 (n Zj (by decide)),Y9 (n Z1l (by decide)),Y9 (n Z1q (by decide)),Y9 (n Z09 (by decide)),Y9 (n Za (by decide)),Y9 (n s_if (by decide)),Y9 (n Zz (by decide)),Y9 (n Z0c (by decide)),Y9 (n Z0k (by decide)),Yb h]
 rw [Y9 (show ¬ 30 < d by omega),Y9 (m Zc (by decide)),Y9 (m Zj (by decide)),Y9 (m Za (by decide)),Y9 (m s_if (by decide)),Y9 (show ¬ (Zf Zz ⟨ts,none⟩ || Zf Z0c ⟨ts,none⟩)=true by rw [Bool.or_eq_true,not_or]; exact ⟨(m Zz (by decide)),(m Z0c (by decide))⟩),Y9 (m Z2k (by decide)),Y9 (show ¬ Z4e ⟨ts,none⟩≠0 from fun e=>e dk),Y9 (m Z0k (by decide)),Yb y];exact ((I HD).value (d:=d)).bind (fun x us hg=>Z4t hg) fun t ts e=>Z8o
theorem Zll {f d:Nat} {ts:List Tok} {g:Nat} (hg:Zx ts) (hd:d≤30) (I:∀ {d:Nat} {ts:List Tok},Zx ts→AG f d ts (g + 3)) (I2:∀ {d:Nat} {ts:List Tok},Zx ts→AG f d ts (g + 2)) (h:isT Z2k ts=true):Agree (Z0 (f + 1) .stmt d ts) (refF (g + 4) .stmt d ⟨ts,none⟩):=by
 have HD:=hg.tail;obtain ⟨n,m⟩:=Z3e h;have y:Zf Z2k ⟨ts,none⟩=true:=by rw [Z0p]; exact h
 have dk:=Z49 h;rw [show (if Z2k=Z1l then (2:Int) else if Z2k=Z1q then 3 else if Z2k=Z09 then 4 else 0)=0 from by decide] at dk;rw [Z0,refF];simp only [];rw [Y9 (n Zc (by decide)),Y9 (n Zj (by decide)),Y9 (n Z1l (by decide)),Y9 (n Z1q (by decide)),Y9 (n Z09 (by decide)),Y9 (n Za (by decide)),Y9 (n s_if (by decide)),Y9 (n Zz (by decide)),Y9 (n Z0c (by decide)),Y9 (n Z0k (by decide)),Y9 (n Z1u (by decide)),Yb h]
 rw [Y9 (show ¬ 30 < d by omega),Y9 (m Zc (by decide)),Y9 (m Zj (by decide)),Y9 (m Za (by decide)),Y9 (m s_if (by decide)),Y9 (show ¬ (Zf Zz ⟨ts,none⟩ || Zf Z0c ⟨ts,none⟩)=true by rw [Bool.or_eq_true,not_or]; exact ⟨(m Zz (by decide)),(m Z0c (by decide))⟩),Yb y];exact (I HD).try_
theorem Zkx {f d:Nat} {ts:List Tok} {g:Nat} (hg:Zx ts) (hd:d≤30) (I:∀ {d:Nat} {ts:List Tok},Zx ts→AG f d ts (g + 3)) (I2:∀ {d:Nat} {ts:List Tok},Zx ts→AG f d ts (g + 2)):Agree (Z0 (f + 1) .stmt d ts) (refF (g + 4) .stmt d ⟨ts,none⟩):=by
 by_cases h_lbrace:isT Zc ts=true;·exact Zh1 hg hd I I2 h_lbrace
 by_cases h_semi:isT Zj ts=true;·exact Zl6 hg hd I I2 h_semi
 by_cases h_var:isT Z1l ts=true;·exact Zlm hg hd I I2 h_var
 by_cases h_let:isT Z1q ts=true;·exact Zlw hg hd I I2 h_let
 by_cases h_const:isT Z09 ts=true;·exact Zj7 hg hd I I2 h_const
 by_cases h_function:isT Za ts=true;·exact Zd9 hg hd I I2 h_function
 by_cases h_if:isT s_if ts=true;·exact Zm4 hg hd I I2 h_if
 by_cases h_while:isT Zz ts=true;·exact Zjc hg hd I I2 h_while
 by_cases h_with:isT Z0c ts=true;·exact Zl0 hg hd I I2 h_with
 by_cases h_return:isT Z0k ts=true;·exact Zgw hg hd I I2 h_return
 by_cases h_throw:isT Z1u ts=true;·exact Zj5 hg hd I I2 h_throw
 by_cases h_try:isT Z2k ts=true;·exact Zll hg hd I I2 h_try
 have m:∀ s,¬ isT s ts=true→¬ Zf s ⟨ts,none⟩=true:=fun s h=>by rw [Z0p]; exact h
 have dk:Z4e ⟨ts,none⟩=0:=by unfold Z4e; rw [Z0p,Z0p,Z0p,Y9 h_var,Y9 h_let,Y9 h_const]
 rw [Z0,refF];rw [Y9 h_lbrace,Y9 h_semi,Y9 h_var,Y9 h_let,Y9 h_const,Y9 h_function,Y9 h_if,Y9 h_while,Y9 h_with,Y9 h_return,Y9 h_throw,Y9 h_try];rw [Y9 (show ¬ 30 < d by omega),Y9 (m _ h_lbrace),Y9 (m _ h_semi),Y9 (m _ h_function),Y9 (m _ h_if),Y9 (show ¬ (Zf Zz ⟨ts,none⟩ || Zf Z0c ⟨ts,none⟩)=true by rw [Bool.or_eq_true,not_or]; exact ⟨m _ h_while,m _ h_with⟩),Y9 (m _ h_try),Y9 (show ¬ Z4e ⟨ts,none⟩≠0 from fun e=>e dk),Y9 (m _ h_return),Y9 (m _ h_throw)]
 exact ((I hg).value (d:=d)).bind (fun x us hg=>Z4t hg) fun t ts e=>Z8o
theorem agree:∀ (f d:Nat) (ts:List Tok),Zx ts→∀ g,2 * f + 8≤g→AG f d ts g:=by
 intro f;induction f with
 | zero=>intro d ts hg g hf; constructor <;> intros <;> trivial
 | succ f ih =>
   intro d ts hg g hf;obtain ⟨g,rfl⟩:∃ g',g=g' + 4:=⟨g - 4,by omega⟩
   have I:∀ {d ts},Zx ts→AG f d ts (g + 3):=fun h=>ih _ _ h _ (by omega);have I2:∀ {d ts},Zx ts→AG f d ts (g + 2):=fun h=>ih _ _ h _ (by omega);have I4:∀ {d ts},Zx ts→AG f d ts (g + 4):=fun h=>ih _ _ h _ (by omega);constructor;case prog=>exact Zlf hg I I4
   case stmts=>exact Zjh hg I I4
   case block=>exact Zjs hg I I4
   case func=>exact Zla hg I I4
   case params=>exact Zgn hg I I4
   case around=>exact Zgb hg I I4
   case stmt=>exact fun hd=>Zkx hg hd I I2
   case decl=>exact Zl9 hg I I4
   case try_=>exact Zkq hg I I4
   case value=>exact Zit hg I I4
   case assign=>exact Zgu hg I I4
   case bin=>exact Zlj hg I I4
   case binLoop=>exact Zg8 hg I I4
   case unary=>exact Zk1 hg I I4
   case postfix_=>exact Zdk hg I I4
   case postLoop=>exact Ze6 hg I I4
   case args=>exact Zko hg I I4
   case primary=>exact Zes hg I I4
   case object=>exact Zht hg I I4
end Go.Proofs.YtfilfhpfndaniaaGreatDoor
namespace Go.Proofs.YtfilfhpfndaniaaGreatDoor
open Go Go.RowKit Go.Maps
set_option maxRecDepth 100000
set_option maxHeartbeats 20000000
set_option linter.unusedVariables false
theorem Zjl (w:World) (s:ByteArray) (hlen:s.size≤maxLen) (c0:Int) (hc:(litD Zk7).atKey (.string s.data.toList) (.lit (.int .i64 0))=.lit (.int .i64 c0)) :
 Calls Tryz.prog 123 #[.string s] w fun e w'=>e=.returned (.int .i64 c0)∧Below w.heap.size w w':=by
 have hmm:=@run_makeMap Tryz.prog;have h0:=World.ownsMap_made (H:=Unit) w Tryz.prog 9 (plainElem Tryz.prog 3);have hB0:Below w.heap.size w (w.alloc (.map #[] 0)):=(Y8 _ _).alloc (Y5 _) _;have HL:=lh hlen;have HC:=lh hc;clear hlen hc;go_enter Tryz.func123,Tryz.ntmps123
 go_wp2_with (first | (refine Z8 _ rfl _ _ _ 100 rfl 9 3 Tryz.keyedS Yt _ _ 0 _ rfl h0 (by unfold maxLen; omega) _ _ _ rfl rfl (Yz Yr (by decide)) _ [] (plainElem_int Ys (by decide)) ?_; intro w1 h1 g1) | (refine Z8 _ rfl _ _ _ 100 rfl 9 3 Tryz.keyedS Yt _ _ 1 _ rfl h1 (by unfold maxLen; omega) _ _ _ rfl rfl (Yz Yr (by decide)) _ [] (plainElem_int Ys (by decide)) ?_; intro w2 h2 g2) | (refine Z8 _ rfl _ _ _ 100 rfl 9 3 Tryz.keyedS Yt _ _ 2 _ rfl h2 (by unfold maxLen; omega) _ _ _ rfl rfl (Yz Yr (by decide)) _ [] (plainElem_int Ys (by decide)) ?_; intro w3 h3 g3) | (refine Z8 _ rfl _ _ _ 100 rfl 9 3 Tryz.keyedS Yt _ _ 3 _ rfl h3 (by unfold maxLen; omega) _ _ _ rfl rfl (Yz Yr (by decide)) _ [] (plainElem_int Ys (by decide)) ?_; intro w4 h4 g4) | (refine Z8 _ rfl _ _ _ 100 rfl 9 3 Tryz.keyedS Yt _ _ 4 _ rfl h4 (by unfold maxLen; omega) _ _ _ rfl rfl (Yz Yr (by decide)) _ [] (plainElem_int Ys (by decide)) ?_; intro w5 h5 g5) | (refine Z8 _ rfl _ _ _ 100 rfl 9 3 Tryz.keyedS Yt _ _ 5 _ rfl h5 (by unfold maxLen; omega) _ _ _ rfl rfl (Yz Yr (by decide)) _ [] (plainElem_int Ys (by decide)) ?_; intro w6 h6 g6) | (refine Z8 _ rfl _ _ _ 100 rfl 9 3 Tryz.keyedS Yt _ _ 6 _ rfl h6 (by unfold maxLen; omega) _ _ _ rfl rfl (Yz Yr (by decide)) _ [] (plainElem_int Ys (by decide)) ?_; intro w7 h7 g7) | (at_lookup; refine wpList_lookup_own_int _ rfl _ _ 100 rfl 9 3 .i64 Tryz.keyedS Yt Ys (Tryz.zeroI _) _ 7 _ rfl h7 _ _ rfl (Yz Yr HL.out) ?_; intro c hat hwc))
 go_ret;have e:=HC.out.symm.trans hat;obtain rfl:c0=c:=by
  have:(DataW.lit (.int .i64 c0):DataW Unit)=.lit (.int .i64 c):=e;simpa using this
 have s0:w.heap.size≤(w.alloc (.map #[] 0)).heap.size:=hB0.size;have B1:=Zs hB0 g1 (Y5 _) s0;have B2:=Zs B1 g2 (Y5 _) B1.size;have B3:=Zs B2 g3 (Y5 _) B2.size;have B4:=Zs B3 g4 (Y5 _) B3.size;have B5:=Zs B4 g5 (Y5 _) B4.size;have B6:=Zs B5 g6 (Y5 _) B5.size;exact ⟨rfl,Zs B6 g7 (Y5 _) B6.size⟩
theorem Zkf (w:World) (s:ByteArray) (hs:Z3a s≠0):Calls Tryz.prog 123 #[.string s] w fun e w'=>e=.returned (.int .i64 (Z3a s))∧Below w.heap.size w w':=by
 have key:s=s_or∨s=Z6r∨s=Z4o∨s=Z4n∨s=Z56∨s=Z5y∨s=Z6q:=by
  unfold Z3a Zt at hs;simp only [decide_eq_true_eq] at hs;by_cases h1:s=s_or;·exact .inl h1
  by_cases h2:s=Z6r;·exact .inr (.inl h2)
  by_cases h3:s=Z4o;·exact .inr (.inr (.inl h3))
  by_cases h4:s=Z4n;·exact .inr (.inr (.inr (.inl h4)))
  by_cases h5:s=Z56;·exact .inr (.inr (.inr (.inr (.inl h5))))
  by_cases h6:s=Z5y;·exact .inr (.inr (.inr (.inr (.inr (.inl h6)))))
  by_cases h7:s=Z6q;·exact .inr (.inr (.inr (.inr (.inr (.inr h7)))))
  simp [h1,h2,h3,h4,h5,h6,h7] at hs
 rcases key with rfl | rfl | rfl | rfl | rfl | rfl | rfl;all_goals exact Zjl w _ (by decide) _ (by kernel_rfl)
end Go.Proofs.YtfilfhpfndaniaaGreatDoor
