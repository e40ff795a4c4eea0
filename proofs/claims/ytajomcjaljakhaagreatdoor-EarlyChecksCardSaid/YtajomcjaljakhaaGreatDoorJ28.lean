/- The document's reading is package tree's. -/
import Derived.Test.YtajomcjaljakhaaGreatDoorJ10
namespace Go.Proofs.YtajomcjaljakhaaGreatDoor
open Go Go.RowKit
set_option maxRecDepth 100000
set_option maxHeartbeats 20000000
set_option linter.unusedVariables false
theorem Z1b.mk {t:Tree} {ts:List Tok} {e:Int×Nat}:Z1b (some (t,⟨ts,some e⟩)) e:=⟨t,ts,rfl⟩
theorem Z4e {t:Tree} {ts:List Tok} (hg:Zt ts):Agree (endT t ts) (some (t,Z0a Zh ⟨ts,none⟩)):=
 Agree.want (m:=fun σ=>some (t,σ)) hg (fun hg=>Agree.ok hg) fun _ _=>Z1b.mk
theorem Z8e {t:Tree} {ts:List Tok} {e:Int×Nat}:Z1b (some (t,Z0a Zh ⟨ts,some e⟩)) e:=Z1b.mk
theorem Ze2 {s:ByteArray} {ts:List Tok} (h:isT s ts=true):(hdT ts).text=s:=by
 simp only [isT,Bool.and_eq_true,Z0z] at h;exact h.2
theorem Zhd {s s':ByteArray} {ts:List Tok} (h:isT s ts=true) (hn:s≠s'):isT s' ts=false:=by
 have:=Ze2 h;simp only [isT,this];have:Zp s s'=false:=by simp [Zp,hn]
 simp [this]
theorem Z6l {c1 c2:Prop} [Decidable c1] [Decidable c2] {b1 b2:Bool} {ts:List Tok} {k:List Tok→PR} {m:RS→RR} (hg:Zt ts) (h1:c1↔b1=true) (h2:c2↔b2=true)
 (hk:∀ ts,¬ c2→Zt ts→Agree (k ts) (m ⟨ts,none⟩)) (he:∀ ts e,Z1b (m ⟨ts,some e⟩) e) :
 Agree ((if c1 then Z0s Z0n ts else fun k=>k ts) fun ts=>if c2 then Z2j 4 ts else k ts) (m (Z52 b2 (Z3l b1 ⟨ts,none⟩))):=by
 have key:∀ ts,Zt ts→Agree (if c2 then Z2j 4 ts else k ts) (m (Z52 b2 ⟨ts,none⟩)):=by
  intro ts hg;unfold Z52;by_cases hc:c2;·rw [Yb hc,h2.1 hc]; exact he _ _
  ·rw [Y9 hc];have : b2 = false := by cases b2; rfl; exact absurd (h2.2 rfl) hc
   rw [this]; exact hk ts hc hg
 by_cases hc:c1
 ·rw [Yb hc,Z3l,h1.1 hc];exact Agree.want (m:=fun σ=>m (Z52 b2 σ)) hg (fun hg=>key _ hg) fun ts e=>by
   cases b2 <;> exact he _ _
 ·rw [Y9 hc];have : b1 = false := by cases b1; rfl; exact absurd (h1.2 rfl) hc
  rw [this];exact key ts hg
theorem Zet {level:Nat} {ts:List Tok} (hg:Zt ts):Z1j level ts=if decide ((hdT ts).kind=5) && Z55 level (hdT ts).text then Z30 (hdT ts).text else 0:=by
 have hG:=hg.hd.1;have h2:∀ {s:ByteArray},Z30 s≠0→isT s ts=(decide ((hdT ts).kind=5) && Zp (hdT ts).text s):=by
  intro s hs;unfold isT;by_cases ht:(hdT ts).text=s
  ·by_cases h : (hdT ts).kind = 2;·exact absurd (by rw [← ht]; exact hG h) hs
   ·simp [h]
  ·have : Zp (hdT ts).text s = false := by simp [Zp, ht]
   simp [this]
 have one:∀ {s:ByteArray},Z30 s≠0→(if isT s ts=true then Z30 s else 0)=if (decide ((hdT ts).kind=5) && Zp (hdT ts).text s)=true then Z30 (hdT ts).text else 0:=by
  intro s hs;rw [h2 hs];by_cases h:(decide ((hdT ts).kind=5) && Zp (hdT ts).text s)=true
  ·rw [Yb h,Yb h];have:=(Bool.and_eq_true _ _ ▸ h:_∧_).2;rw [Z0z.1 this]
  ·rw [Y9 h,Y9 h]
 match level with
 | 0=>exact one (s:=s_or) (by decide)
 | 1=>exact one (s:=Z6d) (by decide)
 | 2=>exact one (s:=Z4a) (by decide)
 | 3=>exact one (s:=Z46) (by decide)
 | 4 =>
   have e1:=one (s:=Z4r) (by decide);have e2:=one (s:=Z56) (by decide);show (if isT Z4r ts=true then Z30 Z4r else if isT Z56 ts=true then Z30 Z56 else 0)=if (decide ((hdT ts).kind=5) && (Zp (hdT ts).text Z4r || Zp (hdT ts).text Z56))=true then Z30 (hdT ts).text else 0;by_cases h:(decide ((hdT ts).kind=5) && Zp (hdT ts).text Z4r)=true
   ·rw [Yb (by rw [h2 (by decide)]; exact h),Yb (by simp only [Bool.and_eq_true,Bool.or_eq_true] at h ⊢; exact ⟨h.1,.inl h.2⟩)];rw [Z0z.1 (by simp only [Bool.and_eq_true] at h; exact h.2:Zp (hdT ts).text Z4r=true)]
   ·rw [Y9 (by rw [h2 (by decide)]; exact h),e2];have:(decide ((hdT ts).kind=5) && (Zp (hdT ts).text Z4r || Zp (hdT ts).text Z56))=(decide ((hdT ts).kind=5) && Zp (hdT ts).text Z56):=by
     cases h5:decide ((hdT ts).kind=5);·rfl
     ·rw [h5] at h; simp only [Bool.true_and,Bool.not_eq_true] at h; simp [h]
    rw [this]
 | 5=>exact one (s:=Z6e) (by decide)
 | n + 6=>simp [Z1j,Z55]
theorem Zem {level:Nat} {s:ByteArray} (h:Z55 level s=true):Z30 s≠0:=by
 match level with
 | 0=>rw [Z0z.1 h]; decide
 | 1=>rw [Z0z.1 h]; decide
 | 2=>rw [Z0z.1 h]; decide
 | 3=>rw [Z0z.1 h]; decide
 | 4 =>
   simp only [Z55,Bool.or_eq_true] at h;rcases h with h | h <;> (rw [Z0z.1 h]; decide)
 | 5=>rw [Z0z.1 h]; decide
 | n + 6=>simp [Z55] at h
theorem Zf9 {ts:List Tok} (hg:Zt ts):Z2z ts=if (hdT ts).kind=2 then Z2q (hdT ts).text else 0:=by
 have hG:=hg.hd.2;unfold Z2z Z2q isT;by_cases h2:(hdT ts).kind=2;·simp [h2]
 ·rw [Y9 h2];by_cases h5 : (hdT ts).kind = 5
  ·have:=hG h5;unfold Z2q at this;simp only [h5,decide_true,Bool.true_or,Bool.true_and];exact this
  ·simp [h2,h5]
def Zka (g:Nat) (k:Int) (d:Nat) (σ:RS):RR:=
 if Ze s_eq (Z1t k (Zk σ).2) then
  Z02 (refF g .value (d + 1) (advR (Z1t k (Zk σ).2))) fun x σ'=>some (.mk k (Zk σ).1 0 [x],Z0a Zh σ')
 else some (.mk k (Zk σ).1 0 [],Z0a Zh (Z1t k (Zk σ).2))
def finR (g d:Nat) (l:List Tree) (σ:RS):RR:=
 if Ze Zx σ then Z02 (refF g (.braces false) d (advR σ)) fun c σ=>tryF (l ++ [.mk 14 ByteArray.empty 0 [c]]) σ
 else tryF l σ
def Zed (g d:Nat) (b:Tree) (σ:RS):RR:=
 if Ze Z2e σ then
  Z02 (refF g (.braces false) d (Z0a Z08 (Zk (Z0a Z07 (advR σ))).2)) fun c σ'=>finR g d [b,.mk 13 (Zk (Z0a Z07 (advR σ))).1 0 [c]] σ'
 else finR g d [b] σ
def tryR (g d:Nat) (σ:RS):RR:=Z02 (refF g (.braces false) d σ) fun b σ=>Zed g d b σ
structure AG (f:Nat) (d:Nat) (ts:List Tok) (g:Nat):Prop where
 prog:∀ acc,d=0→Agree (Z3 f (.stmts 1 acc) d ts) (Z02 (refF g (.prog acc) 0 ⟨ts,none⟩) fun l σ=>some (.mk 1 (if Z1u l.kids then Z03 else ByteArray.empty) 0 l.kids,σ))
 stmts:∀ acc,Agree (Z3 f (.stmts 6 acc) d ts) (Z02 (refF g (.bracesL acc) d ⟨ts,none⟩) fun l σ=>some (.mk 6 (if Z1u l.kids then Z03 else ByteArray.empty) 0 l.kids,σ))
 block:∀ b,Agree (Z3 f (.block b) d ts) (refF g (.braces b) d ⟨ts,none⟩)
 func:∀ k s,Agree (Z3 f (.func k s) d ts) (refF g (.func k s) d ⟨ts,none⟩)
 params:∀ acc,Agree (Zw (Z3 f (.params acc) d ts) fun p ts=>Z0s Z08 ts fun ts=>okT p ts) (Z02 (refF g (.params acc) d ⟨ts,none⟩) fun l σ=>some (.mk 40 ByteArray.empty 0 l.kids,σ))
 around:Agree (Z3 f .around d ts) (refF g .head d ⟨ts,none⟩)
 stmt:d≤30→Agree (Z3 f .stmt d ts) (refF g .stmt d ⟨ts,none⟩)
 decl:∀ k,Agree (Zw (Z3 f (.decl k (decide (k=4))) d ts) endT) (Zka g k d ⟨ts,none⟩)
 try_:Agree (Z3 f .try_ d ts) (tryR g d ⟨ts,none⟩)
 value:Agree (Z3 f .value d ts) (refF g .value (d + 1) ⟨ts,none⟩)
 assign:d≤30→Agree (Z3 f .assign d ts) (refF g .value d ⟨ts,none⟩)
 bin:∀ lv,Agree (Z3 f (.bin lv) d ts) (refF g (.pairs lv) d ⟨ts,none⟩)
 binLoop:∀ lv x,Agree (Z3 f (.binLoop lv x) d ts) (refF g (.pairsL lv x) d ⟨ts,none⟩)
 unary:Agree (Z3 f .unary d ts) (refF g .single d ⟨ts,none⟩)
 postfix_:Agree (Z3 f .postfix_ d ts) (Z02 (refF g .first d ⟨ts,none⟩) fun x σ=>refF g (.singleL x) d σ)
 postLoop:∀ x,Agree (Z3 f (.postLoop x) d ts) (refF g (.singleL x) d ⟨ts,none⟩)
 args:∀ x out,out.length≤8→Agree (Z3 f (.args (x :: out)) d ts) (Z02 (refF g (.args out) d ⟨ts,none⟩) fun l σ=>some (.mk 35 ByteArray.empty 0 (x :: l.kids),σ))
 primary:Agree (Z3 f .primary d ts) (refF g .first d ⟨ts,none⟩)
 object:∀ acc,Agree (Z3 f (.object acc) d ts) (Z02 (refF g (.props acc) d ⟨ts,none⟩) fun l σ=>some (.mk 38 ByteArray.empty 0 l.kids,σ))
theorem Z6w {f d:Nat} {ts:List Tok} {g:Nat} (h:d + 1≤30→Agree (Z3 f .stmt (d + 1) ts) (refF (g + 1) .stmt (d + 1) ⟨ts,none⟩)):Agree (Z0l d ts (Z3 f .stmt (d + 1) ts)) (refF (g + 1) .stmt (d + 1) ⟨ts,none⟩):=by
 unfold Z0l;by_cases hd:30 < d + 1;·rw [Yb hd,refF,Yb hd]; exact Agree.fail
 ·rw [Y9 hd]; exact h (by omega)
theorem Z4v {f d:Nat} {ts:List Tok} {g:Nat} (h:d + 1≤30→Agree (Z3 f .stmt (d + 1) ts) (refF (g + 1) .stmt (d + 1) ⟨ts,none⟩)):Agree (Z0l d ts (Z3 f .stmt (d + 1) ts)) (refF (g + 2) .stmt2 d ⟨ts,none⟩):=by
 rw [refF,Yb (show (none:Option (Int×Nat)).isNone=true from rfl)]; exact Z6w h
theorem Zco {p:PR} {k m:Tree→List Tok→PR}:Zw (Zw p k) m=Zw p fun t ts=>Zw (k t ts) m:=by
 rcases p with _ | e | ⟨t,ts⟩ <;> rfl
theorem Z3n (q:RR) (m n:Tree→RS→RR):Z02 (Z02 q m) n=Z02 q fun t σ=>Z02 (m t σ) n:=by
 rcases q with _ | ⟨t,σ⟩ <;> rfl
theorem Zej (l:List Tree) (ts:List Tok) (e:Int×Nat):Z1b (tryF l ⟨ts,some e⟩) e:=by
 unfold tryF;by_cases h:l.length=1;·rw [Yb h]; exact Z1b.mk
 ·rw [Y9 h]; exact Z1b.mk
theorem Z74 (g d:Nat) (l:List Tree) (ts:List Tok) (e:Int×Nat):Z1b (finR g d l ⟨ts,some e⟩) e:=by
 unfold finR; rw [Y9 (by simp [Z4y])]; exact Zej ..
theorem Zfa (g d:Nat) (b:Tree) (ts:List Tok) (e:Int×Nat):Z1b (Zed g d b ⟨ts,some e⟩) e:=by
 unfold Zed; rw [Y9 (by simp [Z4y])]; exact Z74 ..
theorem Zkx {s:ByteArray} {ts:List Tok}:(isT s ts=true)↔Ze s ⟨ts,none⟩=true:=by rw [Z0i]
theorem Agree.isT {s:ByteArray} {ts:List Tok} {p1 p2:PR} {q1 q2:RR} (h1:isT s ts=true→Agree p1 q1) (h2:isT s ts=false→Agree p2 q2):Agree (if isT s ts=true then p1 else p2) (if Ze s ⟨ts,none⟩=true then q1 else q2):=
 Agree.ite Zkx h1 fun h=>h2 (by simpa using h)
theorem Zae {ts:List Tok} {k:ByteArray→List Tok→PR} {m:Tree→List Tok→PR}:Zw (Z3a ts k) m=Z3a ts fun s ts=>Zw (k s ts) m:=by
 unfold Z3a;by_cases h:(hdT ts).kind=1;·rw [Yb h,Yb h]
 ·rw [Y9 h,Y9 h]; rfl
theorem Zff {s:ByteArray} {ts:List Tok} {k:List Tok→PR} {m:Tree→List Tok→PR}:Zw (Z0s s ts k) m=Z0s s ts fun ts=>Zw (k ts) m:=by
 unfold Z0s;by_cases h:isT s ts=true;·rw [Yb h,Yb h]
 ·rw [Y9 h,Y9 h]; rfl
theorem Zev {c1 c2:Prop} [Decidable c1] [Decidable c2] {ts:List Tok} {k:List Tok→PR} {m:Tree→List Tok→PR} :
 Zw ((if c1 then Z0s Z0n ts else fun k=>k ts) fun ts=>if c2 then Z2j 4 ts else k ts) m=(if c1 then Z0s Z0n ts else fun k=>k ts) fun ts=>if c2 then Z2j 4 ts else Zw (k ts) m:=by
 have key:∀ ts,Zw (if c2 then Z2j 4 ts else k ts) m=if c2 then Z2j 4 ts else Zw (k ts) m:=by
  intro ts;by_cases h:c2;·rw [Yb h,Yb h]; rfl
  ·rw [Y9 h,Y9 h]
 by_cases h:c1
 ·simp only [if_pos h];rw [Zff];simp only [key]
 ·simp only [if_neg h]; exact key ts
theorem Zkc {f d:Nat} {ts:List Tok} {g:Nat} (hg:Zt ts) (I:∀ {d:Nat} {ts:List Tok},Zt ts→AG f d ts (g + 3)) (I4:∀ {d:Nat} {ts:List Tok},Zt ts→AG f d ts (g + 4)):∀ acc,d=0→Agree (Z3 (f + 1) (.stmts 1 acc) d ts) (Z02 (refF (g + 4) (.prog acc) 0 ⟨ts,none⟩) fun l σ=>some (.mk 1 (if Z1u l.kids then Z03 else ByteArray.empty) 0 l.kids,σ)):=by
 have HD:=hg.tail;rintro acc rfl;rw [Z3,refF];by_cases h6:(hdT ts).kind=6
 ·simp only [h6,if_true,decide_true,Option.isNone_none,Bool.not_true,Bool.and_false,Bool.false_eq_true,if_false,Z02];exact Agree.ok hg
 ·simp only [h6,if_true,decide_false,Option.isNone_none,Bool.not_false,Bool.and_true,Bool.false_eq_true,if_false];rw [Z3n];exact Agree.bind (Z6w fun h=>(I (d:=0 + 1) hg).stmt h) (fun t ts hg=>(I hg).prog (acc ++ [t]) rfl) fun t ts e=>by rw [Zj0]; exact Z1b.mk
theorem Zjw {f d:Nat} {ts:List Tok} {g:Nat} (hg:Zt ts) (I:∀ {d:Nat} {ts:List Tok},Zt ts→AG f d ts (g + 3)) (I4:∀ {d:Nat} {ts:List Tok},Zt ts→AG f d ts (g + 4)):∀ acc,Agree (Z3 (f + 1) (.stmts 6 acc) d ts) (Z02 (refF (g + 4) (.bracesL acc) d ⟨ts,none⟩) fun l σ=>some (.mk 6 (if Z1u l.kids then Z03 else ByteArray.empty) 0 l.kids,σ)):=by
 have HD:=hg.tail;intro acc;rw [Z3,refF];cases hb:isT Zl ts
 ·rw [Y9 (by simp)];simp only [Option.isNone_none,Z0i,hb,Bool.not_false,Bool.and_true,if_true];rw [Z3n];exact Agree.bind (Z6w fun h=>(I (d:=d + 1) hg).stmt h) (fun t ts hg=>(I hg).stmts (acc ++ [t])) fun t ts e=>by rw [Z6j]; exact Z1b.mk
 ·rw [Yb (by simp)];simp only [Option.isNone_none,Z0i,hb,Bool.not_true,Bool.and_false,Bool.false_eq_true,if_false,Z02,Tree.kids];exact Agree.ok hg
theorem Zjv {f d:Nat} {ts:List Tok} {g:Nat} (hg:Zt ts) (I:∀ {d:Nat} {ts:List Tok},Zt ts→AG f d ts (g + 3)) (I4:∀ {d:Nat} {ts:List Tok},Zt ts→AG f d ts (g + 4)):∀ b,Agree (Z3 (f + 1) (.block b) d ts) (refF (g + 4) (.braces b) d ⟨ts,none⟩):=by
 have HD:=hg.tail;intro b;rw [Z3,refF];refine Agree.want (m:=fun σ=>Z02 (refF (g + 3) (.bracesL []) d σ) fun l σ=>some (.mk 6 (if b && (Z0a Zl σ).f.isNone && Z1u l.kids then Z03 else ByteArray.empty) 0 l.kids,Z0a Zl σ)) hg (fun hg=>?_) fun ts e=>by rw [Z6j]; exact Z1b.mk
 have h:=(I (d:=d) hg).stmts [];revert h;generalize Z3 f (.stmts 6 []) d ts.tail=p;generalize refF (g + 3) (.bracesL []) d ⟨ts.tail,none⟩=q;intro h;rcases p with _ | e | ⟨t,us⟩;·trivial
 ·obtain ⟨t', ts', h⟩ := h;rcases q with _ | ⟨l, σ⟩;·simp [Z02] at h
  ·simp only [Z02,Option.some.injEq,Prod.mk.injEq] at h;obtain ⟨_,rfl⟩:=h;exact Z1b.mk
 ·obtain ⟨h, hg⟩ := h;rcases q with _ | ⟨l, σ⟩;·simp [Z02] at h
  ·simp only [Z02, Option.some.injEq, Prod.mk.injEq] at h;obtain ⟨rfl, rfl⟩ := h;show Agree (Z0s Zl us fun ts => okT (if b = true then _ else _) ts) (some (.mk 6 (if (b && (Z0a Zl ⟨us, none⟩).f.isNone && Z1u l.kids) = true then Z03 else ByteArray.empty) 0 l.kids, Z0a Zl ⟨us, none⟩));refine Agree.want (m := fun σ => some (.mk 6 (if (b && σ.f.isNone && Z1u l.kids) = true then Z03 else ByteArray.empty) 0 l.kids, σ)) hg (fun hg => ?_) fun ts e => Z1b.mk;cases b;·exact Agree.ok hg
   ·simp only [Option.isNone_none,Bool.true_and,if_true];exact Agree.ok hg
theorem Zlf {f d:Nat} {ts:List Tok} {g:Nat} (hg:Zt ts) (I:∀ {d:Nat} {ts:List Tok},Zt ts→AG f d ts (g + 3)) (I4:∀ {d:Nat} {ts:List Tok},Zt ts→AG f d ts (g + 4)):∀ k s,Agree (Z3 (f + 1) (.func k s) d ts) (refF (g + 4) (.func k s) d ⟨ts,none⟩):=by
 have HD:=hg.tail;intro k s;rw [Z3,refF];refine Agree.want (m:=fun σ=>Z02 (refF (g + 3) (.params []) d σ) fun l σ=>Z02 (refF (g + 3) (.braces true) d σ) fun b σ=>some (.mk k s 0 [.mk 40 ByteArray.empty 0 l.kids,b],σ)) hg (fun hg=>?_) fun ts e=>by rw [Z6b]; simp only [Z02]; rw [Z4g]; exact Z1b.mk
 have h:=(I (d:=d) hg).params [];revert h;generalize Z3 f (.params []) d ts.tail=p;generalize refF (g + 3) (.params []) d ⟨ts.tail,none⟩=q;intro h;have e0:(fun (p:Tree) (ts:List Tok)=>Z0s Z08 ts fun ts=>Zw (Z3 f (.block true) d ts) fun b ts=>okT (.mk k s 0 [p,b]) ts)=fun p ts=>Zw (Z0s Z08 ts fun ts=>okT p ts) fun p ts=>Zw (Z3 f (.block true) d ts) fun b ts=>okT (.mk k s 0 [p,b]) ts:=by
  funext p ts
  unfold Z0s;by_cases hh:isT Z08 ts=true;·rw [Yb hh,Yb hh]; rfl
  ·rw [Y9 hh,Y9 hh]; rfl
 have e1:Zw p (fun (p:Tree) (ts:List Tok)=>Z0s Z08 ts fun ts=>Zw (Z3 f (.block true) d ts) fun b ts=>okT (.mk k s 0 [p,b]) ts)=Zw (Zw p fun p ts=>Z0s Z08 ts fun ts=>okT p ts) fun p ts=>Zw (Z3 f (.block true) d ts) fun b ts=>okT (.mk k s 0 [p,b]) ts:=by
  rw [e0];rcases p with _ | e | ⟨t,us⟩ <;> rfl
 have e2:Z02 q (fun l σ=>Z02 (refF (g + 3) (.braces true) d σ) fun b σ=>some (.mk k s 0 [.mk 40 ByteArray.empty 0 l.kids,b],σ))=Z02 (Z02 q fun l σ=>some (.mk 40 ByteArray.empty 0 l.kids,σ)) fun p σ=>Z02 (refF (g + 3) (.braces true) d σ) fun b σ=>some (.mk k s 0 [p,b],σ):=by
  rw [Z3n]; rfl
 rw [e1,e2];exact h.bind (fun t ts hg=>Agree.bind ((I hg).block true) (fun b ts hg=>Agree.ok hg) fun b ts e=>Z1b.mk) fun t ts e=>by rw [Z4g]; exact Z1b.mk
theorem Zgf {f d:Nat} {ts:List Tok} {g:Nat} (hg:Zt ts) (I:∀ {d:Nat} {ts:List Tok},Zt ts→AG f d ts (g + 3)) (I4:∀ {d:Nat} {ts:List Tok},Zt ts→AG f d ts (g + 4)):∀ acc,Agree (Zw (Z3 (f + 1) (.params acc) d ts) fun p ts=>Z0s Z08 ts fun ts=>okT p ts) (Z02 (refF (g + 4) (.params acc) d ⟨ts,none⟩) fun l σ=>some (.mk 40 ByteArray.empty 0 l.kids,σ)):=by
 have HD:=hg.tail;intro acc;rw [Z3,refF];cases hb:isT Z08 ts
 ·simp only [Option.isNone_none, Z0i, hb, Bool.not_false, Bool.and_true, if_true, Bool.false_eq_true, if_false];rw [Zev];refine Z6l (m := fun σ => Z02 (if σ.f.isNone = true then refF (g + 3) (.params (acc ++ [.mk 23 (Zk σ).1 0 []])) d (Zk σ).2 else refF (g + 3) (.params acc) d σ) fun l σ => some (.mk 40 ByteArray.empty 0 l.kids, σ)) (c1 := 0 < acc.length) (c2 := acc.length = 8) hg decide_eq_true_iff.symm decide_eq_true_iff.symm (fun us _ hg => ?_) fun us e => ?_
  ·rw [Yb (show (none:Option (Int×Nat)).isNone=true from rfl),Zae];exact Agree.name (k:=fun s ts=>Zw (Z3 f (.params (acc ++ [.mk 23 s 0 []])) d ts) fun p ts=>Z0s Z08 ts fun ts=>okT p ts) (m:=fun s σ=>Z02 (refF (g + 3) (.params (acc ++ [.mk 23 s 0 []])) d σ) fun l σ=>some (.mk 40 ByteArray.empty 0 l.kids,σ)) hg (fun s hg=>(I hg).params (acc ++ [.mk 23 s 0 []])) fun s ts e=>by rw [Z6b]; exact Z1b.mk
  ·rw [Y9 (show ¬ (some e:Option (Int×Nat)).isNone=true by simp),Z6b]; exact Z1b.mk
 ·simp only [Option.isNone_none,Z0i,hb,Bool.not_true,Bool.and_false,if_true,Bool.false_eq_true,if_false];exact Agree.want (m:=fun σ=>some (.mk 40 ByteArray.empty 0 acc,σ)) hg (fun hg=>Agree.ok hg) fun _ _=>Z1b.mk
theorem Zgv {f d:Nat} {ts:List Tok} {g:Nat} (hg:Zt ts) (I:∀ {d:Nat} {ts:List Tok},Zt ts→AG f d ts (g + 3)) (I4:∀ {d:Nat} {ts:List Tok},Zt ts→AG f d ts (g + 4)):Agree (Z3 (f + 1) .around d ts) (refF (g + 4) .head d ⟨ts,none⟩):=by
 have HD:=hg.tail;rw [Z3,refF];refine Agree.want (m:=fun σ=>Z02 (refF (g + 3) .value (d + 1) σ) fun x σ=>some (x,Z0a Z08 σ)) hg (fun hg=>?_) fun ts e=>by rw [Z8q]; exact Z1b.mk
 exact (I hg).value.bind (fun t ts hg=>Agree.want (m:=fun σ=>some (t,σ)) hg (fun hg=>Agree.ok hg) fun _ _=>Z1b.mk) fun t ts e=>Z1b.mk
theorem Zle {f d:Nat} {ts:List Tok} {g:Nat} (hg:Zt ts) (I:∀ {d:Nat} {ts:List Tok},Zt ts→AG f d ts (g + 3)) (I4:∀ {d:Nat} {ts:List Tok},Zt ts→AG f d ts (g + 4)):∀ k,Agree (Zw (Z3 (f + 1) (.decl k (decide (k=4))) d ts) endT) (Zka (g + 4) k d ⟨ts,none⟩):=by
 have HD:=hg.tail;intro k;rw [Z3,Zka];rw [Zae];refine Agree.name (m:=fun s σ=>if Ze s_eq (Z1t k σ)=true then Z02 (refF (g + 4) .value (d + 1) (advR (Z1t k σ))) fun x σ'=>some (.mk k s 0 [x],Z0a Zh σ') else some (.mk k s 0 [],Z0a Zh (Z1t k σ))) hg (fun s hg=>?_) fun s ts e=>?_
 ·generalize ts.tail = us at hg;cases he : isT s_eq us
  ·by_cases hk : k = 4
   ·subst hk;have e1 : Z1t 4 ⟨us, none⟩ = ⟨us, some (3, (hdT us).at')⟩ := by simp [Z1t, Z0i, he, Z32]
    rw [Yb (by simp),e1,Y9 (by simp [Z4y])];exact Z1b.mk
   ·have e1 : Z1t k ⟨us, none⟩ = ⟨us, none⟩ := by simp [Z1t, hk]
    rw [Y9 (by simp [hk]),Y9 (by simp),e1,Y9 (by rw [Z0i,he]; simp)];exact Z4e hg
  ·have e1 : Z1t k ⟨us, none⟩ = ⟨us, none⟩ := by simp [Z1t, Z0i, he]
   rw [Y9 (by simp),Yb rfl,e1,Yb (by rw [Z0i,he])];have:=(I4 hg.tail).value (d:=d);rw [Zco];exact this.bind (fun x us hg=>Z4e hg) fun t ts e=>Z8e
 ·have e1 : Z1t k ⟨ts, some e⟩ = ⟨ts, some e⟩ := by simp [Z1t]
  rw [e1,Y9 (by simp [Z4y])]; exact Z1b.mk
theorem Zkm {f d:Nat} {ts:List Tok} {g:Nat} (hg:Zt ts) (I:∀ {d:Nat} {ts:List Tok},Zt ts→AG f d ts (g + 3)) (I4:∀ {d:Nat} {ts:List Tok},Zt ts→AG f d ts (g + 4)):Agree (Z3 (f + 1) .try_ d ts) (tryR (g + 4) d ⟨ts,none⟩):=by
 have HD:=hg.tail;rw [Z3,tryR];refine ((I4 hg).block false).bind (fun b us hg=>?_) fun b ts e=>Zfa ..;have fin:∀ (l:List Tree) us,1≤l.length→Zt us→Agree (if isT Zx us=true then Zw (Z3 f (.block false) d us.tail) fun c ts=>okT (.mk 12 ByteArray.empty 0 (l ++ [.mk 14 ByteArray.empty 0 [c]])) ts else if l.length=1 then Z2j 3 us else okT (.mk 12 ByteArray.empty 0 l) us) (finR (g + 4) d l ⟨us,none⟩):=by
  intro l us hl hg;unfold finR;refine Agree.isT (fun h=>?_) fun h=>?_;·exact ((I4 hg.tail).block false).bind (fun c us hg=>by unfold tryF; rw [Y9 (by rw [Yq,List.length_singleton]; omega)]; exact Agree.ok hg) fun b ts e=>Zej ..
  ·unfold tryF;by_cases hl : l.length = 1;·rw [Yb hl, Yb hl]; exact Agree.fail
   ·rw [Y9 hl,Y9 hl]; exact Agree.ok hg
 unfold Zed;refine Agree.isT (fun h=>?_) fun h=>fin _ _ (by simp) hg;refine Agree.want (m:=fun σ=>Z02 (refF (g + 4) (.braces false) d (Z0a Z08 (Zk σ).2)) fun c σ'=>finR (g + 4) d [b,.mk 13 (Zk σ).1 0 [c]] σ') hg.tail (fun hg=>?_) fun us e=>by rw [Zh6,Z4c,Z4g]; exact Z74 ..
 refine Agree.name (m:=fun s σ=>Z02 (refF (g + 4) (.braces false) d (Z0a Z08 σ)) fun c σ'=>finR (g + 4) d [b,.mk 13 s 0 [c]] σ') hg (fun s hg=>?_) fun s us e=>by rw [Z4c,Z4g]; exact Z74 ..
 refine Agree.want (m:=fun σ=>Z02 (refF (g + 4) (.braces false) d σ) fun c σ'=>finR (g + 4) d [b,.mk 13 s 0 [c]] σ') hg (fun hg=>?_) fun us e=>by rw [Z4g]; exact Z74 ..
 exact ((I4 hg).block false).bind (fun c us hg=>fin _ _ (by simp) hg) fun b ts e=>Z74 ..
theorem Ziq {f d:Nat} {ts:List Tok} {g:Nat} (hg:Zt ts) (I:∀ {d:Nat} {ts:List Tok},Zt ts→AG f d ts (g + 3)) (I4:∀ {d:Nat} {ts:List Tok},Zt ts→AG f d ts (g + 4)):Agree (Z3 (f + 1) .value d ts) (refF (g + 4) .value (d + 1) ⟨ts,none⟩):=by
 have HD:=hg.tail;rw [Z3];unfold Z0l;by_cases hd:30 < d + 1;·rw [Yb hd,refF,Yb (show (none:Option (Int×Nat)).isNone=true from rfl),Yb hd]; exact Agree.fail
 ·rw [Y9 hd]; exact (I4 hg).assign (by omega)
theorem Zgg {f d:Nat} {ts:List Tok} {g:Nat} (hg:Zt ts) (I:∀ {d:Nat} {ts:List Tok},Zt ts→AG f d ts (g + 3)) (I4:∀ {d:Nat} {ts:List Tok},Zt ts→AG f d ts (g + 4)):d≤30→Agree (Z3 (f + 1) .assign d ts) (refF (g + 4) .value d ⟨ts,none⟩):=by
 have HD:=hg.tail;intro hd;rw [Z3,refF,Yb (show (none:Option (Int×Nat)).isNone=true from rfl),Y9 (by omega)];refine ((I hg).bin 0).bind (fun t us hg=>?_) fun t ts e=>by rw [Y9 (by simp [Z4y])]; exact Z1b.mk
 refine Agree.isT (fun h=>?_) fun h=>Agree.ok hg;by_cases hk:t.kind=23∨t.kind=36
 ·rw [Yb hk,Yb hk];exact (I hg.tail).value.bind (fun y us hg=>Agree.ok hg) fun t ts e=>Z1b.mk
 ·rw [Y9 hk,Y9 hk];exact Z1b.mk
theorem Zm0 {f d:Nat} {ts:List Tok} {g:Nat} (hg:Zt ts) (I:∀ {d:Nat} {ts:List Tok},Zt ts→AG f d ts (g + 3)) (I4:∀ {d:Nat} {ts:List Tok},Zt ts→AG f d ts (g + 4)):∀ lv,Agree (Z3 (f + 1) (.bin lv) d ts) (refF (g + 4) (.pairs lv) d ⟨ts,none⟩):=by
 have HD:=hg.tail;intro lv;rw [Z3,refF];by_cases h:6≤lv;·rw [Yb h,Yb h]; exact (I hg).unary
 ·rw [Y9 h,Y9 h];exact ((I hg).bin (lv + 1)).bind (fun x us hg=>(I hg).binLoop lv x) fun t ts e=>by rw [Zaj]; exact Z1b.mk
theorem Zfo {f d:Nat} {ts:List Tok} {g:Nat} (hg:Zt ts) (I:∀ {d:Nat} {ts:List Tok},Zt ts→AG f d ts (g + 3)) (I4:∀ {d:Nat} {ts:List Tok},Zt ts→AG f d ts (g + 4)):∀ lv x,Agree (Z3 (f + 1) (.binLoop lv x) d ts) (refF (g + 4) (.pairsL lv x) d ⟨ts,none⟩):=by
 have HD:=hg.tail;intro lv x;rw [Z3,refF,Zet hg];simp only;cases hb:decide ((hdT ts).kind=5) && Z55 lv (hdT ts).text
 ·rw [Y9 Bool.false_ne_true,Yb rfl,Y9 (by rw [show ((none:Option (Int×Nat)).isNone && decide ((hdT ts).kind=5) && Z55 lv (hdT ts).text)=(decide ((hdT ts).kind=5) && Z55 lv (hdT ts).text) by simp,hb]; simp)];exact Agree.ok hg
 ·rw [Yb rfl,Y9 (Zem (level:=lv) (by simp only [Bool.and_eq_true] at hb; exact hb.2)),Yb (by rw [show ((none:Option (Int×Nat)).isNone && decide ((hdT ts).kind=5) && Z55 lv (hdT ts).text)=(decide ((hdT ts).kind=5) && Z55 lv (hdT ts).text) by simp,hb])];exact ((I hg.tail).bin (lv + 1)).bind (fun y us hg=>(I hg).binLoop lv _) fun t ts e=>by rw [Zaj]; exact Z1b.mk
theorem Zjp {f d:Nat} {ts:List Tok} {g:Nat} (hg:Zt ts) (I:∀ {d:Nat} {ts:List Tok},Zt ts→AG f d ts (g + 3)) (I4:∀ {d:Nat} {ts:List Tok},Zt ts→AG f d ts (g + 4)):Agree (Z3 (f + 1) .unary d ts) (refF (g + 4) .single d ⟨ts,none⟩):=by
 have HD:=hg.tail;have hu:Z5x ⟨ts,none⟩=Z2m ts:=by unfold Z5x Z2m; rw [Z0i,Z0i,Z0i]
 rw [Z3,refF,hu];by_cases h:Z2m ts=0
 ·rw [Yb h,Y9 (fun h'=>h' h)];exact (I hg).postfix_
 ·rw [Y9 h, Yb h];unfold Z0l;by_cases hd : 30 < d + 1;·rw [Yb hd, Yb hd]; exact Agree.fail
  ·rw [Y9 hd,Y9 hd];exact ((I HD).unary (d:=d + 1)).bind (fun x us hg=>Agree.ok hg) fun t ts e=>Z1b.mk
theorem Zcy {f d:Nat} {ts:List Tok} {g:Nat} (hg:Zt ts) (I:∀ {d:Nat} {ts:List Tok},Zt ts→AG f d ts (g + 3)) (I4:∀ {d:Nat} {ts:List Tok},Zt ts→AG f d ts (g + 4)):Agree (Z3 (f + 1) .postfix_ d ts) (Z02 (refF (g + 4) .first d ⟨ts,none⟩) fun x σ=>refF (g + 4) (.singleL x) d σ):=by
 have HD:=hg.tail;rw [Z3];exact (I4 hg).primary.bind (fun x us hg=>(I4 hg).postLoop x) fun t ts e=>by rw [Z6m]; exact Z1b.mk
theorem Zda {f d:Nat} {ts:List Tok} {g:Nat} (hg:Zt ts) (I:∀ {d:Nat} {ts:List Tok},Zt ts→AG f d ts (g + 3)) (I4:∀ {d:Nat} {ts:List Tok},Zt ts→AG f d ts (g + 4)):∀ x,Agree (Z3 (f + 1) (.postLoop x) d ts) (refF (g + 4) (.singleL x) d ⟨ts,none⟩):=by
 have HD:=hg.tail;intro x;rw [Z3,refF];refine Agree.isT (fun h=>?_) fun h=>Agree.isT (fun h=>?_) fun h=>Agree.ok hg;·exact Agree.name (m:=fun s σ=>refF (g + 3) (.singleL (.mk 36 s 0 [x])) d σ) hg.tail (fun s hg=>(I hg).postLoop _) fun s ts e=>by rw [Z6m]; exact Z1b.mk
 ·have := ((I (d := d) hg.tail).args x [] (by simp)).bind (m := fun n σ => refF (g + 3) (.singleL n) d σ) (fun n us hg => (I hg).postLoop n) fun t ts e => by rw [Z6m]; exact Z1b.mk
  rw [Z3n] at this;exact this
theorem Zkg {f d:Nat} {ts:List Tok} {g:Nat} (hg:Zt ts) (I:∀ {d:Nat} {ts:List Tok},Zt ts→AG f d ts (g + 3)) (I4:∀ {d:Nat} {ts:List Tok},Zt ts→AG f d ts (g + 4)):∀ x out,out.length≤8→Agree (Z3 (f + 1) (.args (x :: out)) d ts) (Z02 (refF (g + 4) (.args out) d ⟨ts,none⟩) fun l σ=>some (.mk 35 ByteArray.empty 0 (x :: l.kids),σ)):=by
 have HD:=hg.tail;intro x out h8;rw [Z3,refF];cases hb:isT Z08 ts
 ·simp only [Option.isNone_none, Z0i, hb, Bool.not_false, Bool.and_true, if_true, Bool.false_eq_true, if_false]
  refine Z6l (c1:=1 < (x :: out).length) (c2:=8 < (x :: out).length) (b2:=decide (out.length=8)) (k:=fun ts=>Zw (Z3 f .value d ts) fun v ts=>Z3 f (.args (x :: (out ++ [v]))) d ts) (m:=fun σ=>Z02 (if σ.f.isNone=true then Z02 (refF (g + 3) .value (d + 1) σ) fun v σ=>refF (g + 3) (.args (out ++ [v])) d σ else refF (g + 3) (.args out) d σ) fun l σ=>some (.mk 35 ByteArray.empty 0 (x :: l.kids),σ)) hg (by simp) (by rw [decide_eq_true_eq,List.length_cons]; omega) (fun us hn hg=>?_) fun us e=>?_
  ·rw [Yb (show (none:Option (Int×Nat)).isNone=true from rfl),Z3n];exact ((I hg).value (d:=d)).bind (fun v us hg=>(I hg).args x (out ++ [v]) (by rw [Yq,List.length_singleton]; rw [List.length_cons] at hn; omega)) fun v us e=>by rw [Zek]; exact Z1b.mk
  ·rw [Y9 (show ¬ (some e:Option (Int×Nat)).isNone=true by simp),Zek]; exact Z1b.mk
 ·simp only [Option.isNone_none,Z0i,hb,Bool.not_true,Bool.and_false,if_true,Bool.false_eq_true,if_false];unfold Z0a;simp only [Option.isNone_none,hb,if_true];exact Agree.ok HD
theorem Zfm {f d:Nat} {ts:List Tok} {g:Nat} (hg:Zt ts) (I:∀ {d:Nat} {ts:List Tok},Zt ts→AG f d ts (g + 3)) (I4:∀ {d:Nat} {ts:List Tok},Zt ts→AG f d ts (g + 4)):Agree (Z3 (f + 1) .primary d ts) (refF (g + 4) .first d ⟨ts,none⟩):=by
 have HD:=hg.tail;rw [Z3,refF,Yb (show (none:Option (Int×Nat)).isNone=true from rfl),Zf9 hg];simp only;by_cases h1:(hdT ts).kind=1;·rw [Yb h1,Yb h1]; exact Agree.ok HD
 rw [Y9 h1,Y9 h1];by_cases h3:(hdT ts).kind=3;·rw [Yb h3,Yb h3]; exact Agree.ok HD
 rw [Y9 h3,Y9 h3];by_cases h4:(hdT ts).kind=4;·rw [Yb h4,Yb h4]; exact Agree.ok HD
 rw [Y9 h4,Y9 h4];by_cases hc:(hdT ts).kind=2∧Z2q (hdT ts).text≠0
 ·have nt:∀ s,Z2q s=0→Ze s ⟨ts,none⟩=false:=fun s hs=>by
   rw [Z0i];cases hb:isT s ts;·rfl
   ·exact absurd (by rw [Ze2 hb]; exact hs) hc.2
  rw [Yb hc.1,Yb hc.2,nt _ (by decide),nt _ (by decide),nt _ (by decide)];simp only [Bool.false_eq_true,if_false];rw [Yb hc];exact Agree.ok HD
 ·have e0:(if (hdT ts).kind=2 then Z2q (hdT ts).text else 0)=0:=by
   by_cases h2:(hdT ts).kind=2
   ·rw [Yb h2];exact Decidable.byContradiction fun h=>hc ⟨h2,h⟩
   ·rw [Y9 h2]
  rw [e0,Y9 (fun h=>h rfl),Y9 hc];refine Agree.isT (fun h=>(I hg).around) fun _=>?_;refine Agree.isT (fun h=>?_) fun _=>?_
  ·show Agree (if (hdT ts.tail).kind = 1 then _ else _) (if (hdT ts.tail).kind = 1 then refF (g + 3) (.func 37 (Zk ⟨ts.tail, none⟩).1) d (Zk ⟨ts.tail, none⟩).2 else refF (g + 3) (.func 37 ByteArray.empty) d ⟨ts.tail, none⟩);by_cases hk : (hdT ts.tail).kind = 1
   ·have ei : Zk ⟨ts.tail, none⟩ = ((hdT ts.tail).text, ⟨ts.tail.tail, none⟩) := by simp [Zk, hk, advR]
    rw [Yb hk,Yb hk,ei];exact (I HD.tail).func 37 _
   ·rw [Y9 hk,Y9 hk];exact (I HD).func 37 _
  refine Agree.isT (fun h=>(I HD).object []) fun _=>Agree.fail
theorem Zif {f d:Nat} {ts:List Tok} {g:Nat} (hg:Zt ts) (I:∀ {d:Nat} {ts:List Tok},Zt ts→AG f d ts (g + 3)) (I4:∀ {d:Nat} {ts:List Tok},Zt ts→AG f d ts (g + 4)):∀ acc,Agree (Z3 (f + 1) (.object acc) d ts) (Z02 (refF (g + 4) (.props acc) d ⟨ts,none⟩) fun l σ=>some (.mk 38 ByteArray.empty 0 l.kids,σ)):=by
 have HD:=hg.tail;intro acc;rw [Z3,refF];cases hb:isT Zl ts
 ·simp only [Option.isNone_none, Z0i, hb, Bool.not_false, Bool.and_true, if_true, Bool.false_eq_true, if_false]
  refine Z6l (c1:=0 < acc.length) (c2:=acc.length=8) (k:=fun ts=>Z3a ts fun s ts=>Z0s Z2r ts fun ts=>Zw (Z3 f .value d ts) fun v ts=>Z3 f (.object (acc ++ [.mk 39 s 0 [v]])) d ts)
   (m:=fun σ=>Z02 (if σ.f.isNone=true then Z02 (refF (g + 3) .value (d + 1) (Z0a Z2r (Zk σ).2)) fun v σ'=>refF (g + 3) (.props (acc ++ [.mk 39 (Zk σ).1 0 [v]])) d σ' else refF (g + 3) (.props acc) d σ) fun l σ=>some (.mk 38 ByteArray.empty 0 l.kids,σ)) hg decide_eq_true_iff.symm decide_eq_true_iff.symm (fun us _ hg=>?_) fun us e=>?_
  ·rw [Yb (show (none : Option (Int × Nat)).isNone = true from rfl)];refine Agree.name (m := fun s σ => Z02 (Z02 (refF (g + 3) .value (d + 1) (Z0a Z2r σ)) fun v σ' => refF (g + 3) (.props (acc ++ [.mk 39 s 0 [v]])) d σ') fun l σ => some (.mk 38 ByteArray.empty 0 l.kids, σ)) hg (fun s hg => ?_) fun s us e => by rw [Z4c, Z8q]; simp only [Z02]; rw [Z71]; exact Z1b.mk
   refine Agree.want (m:=fun σ=>Z02 (Z02 (refF (g + 3) .value (d + 1) σ) fun v σ'=>refF (g + 3) (.props (acc ++ [.mk 39 s 0 [v]])) d σ') fun l σ=>some (.mk 38 ByteArray.empty 0 l.kids,σ)) hg (fun hg=>?_) fun us e=>by rw [Z8q]; simp only [Z02]; rw [Z71]; exact Z1b.mk
   rw [Z3n];exact ((I hg).value (d:=d)).bind (fun v us hg=>(I hg).object _) fun v us e=>by rw [Z71]; exact Z1b.mk
  ·rw [Y9 (show ¬ (some e:Option (Int×Nat)).isNone=true by simp),Z71]; exact Z1b.mk
 ·simp only [Option.isNone_none,Z0i,hb,Bool.not_true,Bool.and_false,if_true,Bool.false_eq_true,if_false];unfold Z0a;simp only [Option.isNone_none,hb,if_true];exact Agree.ok HD
theorem Z36 {s:ByteArray} {ts:List Tok} (h:isT s ts=true):(∀ s',s≠s'→¬ isT s' ts=true)∧(∀ s',s≠s'→¬ Ze s' ⟨ts,none⟩=true):=
 ⟨fun s' hn=>by rw [Zhd h hn]; simp,fun s' hn=>by rw [Z0i,Zhd h hn]; simp⟩
theorem Z3u {s:ByteArray} {ts:List Tok} (h:isT s ts=true):Z3z ⟨ts,none⟩=if s=Z1a then 2 else if s=Z1h then 3 else if s=Z01 then 4 else 0:=by
 have e:∀ s',isT s' ts=decide (s=s'):=fun s'=>by
  by_cases hs:s=s';·rw [← hs,h]; simp
  ·rw [Zhd h hs]; simp [hs]
 unfold Z3z;rw [Z0i,Z0i,Z0i,e,e,e];simp only [decide_eq_true_eq]
theorem Zhs {f d:Nat} {ts:List Tok} {g:Nat} (hg:Zt ts) (hd:d≤30) (I:∀ {d:Nat} {ts:List Tok},Zt ts→AG f d ts (g + 3)) (I2:∀ {d:Nat} {ts:List Tok},Zt ts→AG f d ts (g + 2)) (h:isT Zc ts=true):Agree (Z3 (f + 1) .stmt d ts) (refF (g + 4) .stmt d ⟨ts,none⟩):=by
 have HD:=hg.tail;obtain ⟨n,m⟩:=Z36 h;have y:Ze Zc ⟨ts,none⟩=true:=by rw [Z0i]; exact h
 rw [Z3,refF];simp only [];rw [Yb h];rw [Y9 (show ¬ 30 < d by omega),Yb y];exact (I hg).block false
theorem Zl7 {f d:Nat} {ts:List Tok} {g:Nat} (hg:Zt ts) (hd:d≤30) (I:∀ {d:Nat} {ts:List Tok},Zt ts→AG f d ts (g + 3)) (I2:∀ {d:Nat} {ts:List Tok},Zt ts→AG f d ts (g + 2)) (h:isT Zh ts=true):Agree (Z3 (f + 1) .stmt d ts) (refF (g + 4) .stmt d ⟨ts,none⟩):=by
 have HD:=hg.tail;obtain ⟨n,m⟩:=Z36 h;have y:Ze Zh ⟨ts,none⟩=true:=by rw [Z0i]; exact h
 rw [Z3,refF];simp only [];rw [Y9 (n Zc (by decide)),Yb h];rw [Y9 (show ¬ 30 < d by omega),Y9 (m Zc (by decide)),Yb y];exact Agree.ok HD
theorem Zma {f d:Nat} {ts:List Tok} {g:Nat} (hg:Zt ts) (hd:d≤30) (I:∀ {d:Nat} {ts:List Tok},Zt ts→AG f d ts (g + 3)) (I2:∀ {d:Nat} {ts:List Tok},Zt ts→AG f d ts (g + 2)) (h:isT Z1a ts=true):Agree (Z3 (f + 1) .stmt d ts) (refF (g + 4) .stmt d ⟨ts,none⟩):=by
 have HD:=hg.tail;obtain ⟨n,m⟩:=Z36 h;have y:Ze Z1a ⟨ts,none⟩=true:=by rw [Z0i]; exact h
 have dk:=Z3u h;rw [show (if Z1a=Z1a then (2:Int) else if Z1a=Z1h then 3 else if Z1a=Z01 then 4 else 0)=2 from by decide] at dk;rw [Z3,refF];simp only [];rw [Y9 (n Zc (by decide)),Y9 (n Zh (by decide)),Yb h];rw [Y9 (show ¬ 30 < d by omega),Y9 (m Zc (by decide)),Y9 (m Zh (by decide)),Y9 (m Z9 (by decide)),Y9 (m s_if (by decide)),Y9 (show ¬ (Ze Zu ⟨ts,none⟩ || Ze Z05 ⟨ts,none⟩)=true by rw [Bool.or_eq_true,not_or]; exact ⟨(m Zu (by decide)),(m Z05 (by decide))⟩),Y9 (m Z26 (by decide)),dk,Yb (by decide)];exact (I HD).decl 2
theorem Zm6 {f d:Nat} {ts:List Tok} {g:Nat} (hg:Zt ts) (hd:d≤30) (I:∀ {d:Nat} {ts:List Tok},Zt ts→AG f d ts (g + 3)) (I2:∀ {d:Nat} {ts:List Tok},Zt ts→AG f d ts (g + 2)) (h:isT Z1h ts=true):Agree (Z3 (f + 1) .stmt d ts) (refF (g + 4) .stmt d ⟨ts,none⟩):=by
 have HD:=hg.tail;obtain ⟨n,m⟩:=Z36 h;have y:Ze Z1h ⟨ts,none⟩=true:=by rw [Z0i]; exact h
 have dk:=Z3u h;rw [show (if Z1h=Z1a then (2:Int) else if Z1h=Z1h then 3 else if Z1h=Z01 then 4 else 0)=3 from by decide] at dk;rw [Z3,refF];simp only [];rw [Y9 (n Zc (by decide)),Y9 (n Zh (by decide)),Y9 (n Z1a (by decide)),Yb h]
 rw [Y9 (show ¬ 30 < d by omega),Y9 (m Zc (by decide)),Y9 (m Zh (by decide)),Y9 (m Z9 (by decide)),Y9 (m s_if (by decide)),Y9 (show ¬ (Ze Zu ⟨ts,none⟩ || Ze Z05 ⟨ts,none⟩)=true by rw [Bool.or_eq_true,not_or]; exact ⟨(m Zu (by decide)),(m Z05 (by decide))⟩),Y9 (m Z26 (by decide)),dk,Yb (by decide)];exact (I HD).decl 3
theorem Ziy {f d:Nat} {ts:List Tok} {g:Nat} (hg:Zt ts) (hd:d≤30) (I:∀ {d:Nat} {ts:List Tok},Zt ts→AG f d ts (g + 3)) (I2:∀ {d:Nat} {ts:List Tok},Zt ts→AG f d ts (g + 2)) (h:isT Z01 ts=true):Agree (Z3 (f + 1) .stmt d ts) (refF (g + 4) .stmt d ⟨ts,none⟩):=by
 have HD:=hg.tail;obtain ⟨n,m⟩:=Z36 h;have y:Ze Z01 ⟨ts,none⟩=true:=by rw [Z0i]; exact h
 have dk:=Z3u h;rw [show (if Z01=Z1a then (2:Int) else if Z01=Z1h then 3 else if Z01=Z01 then 4 else 0)=4 from by decide] at dk;rw [Z3,refF];simp only [];rw [Y9 (n Zc (by decide)),Y9 (n Zh (by decide)),Y9 (n Z1a (by decide)),Y9 (n Z1h (by decide)),Yb h]
 rw [Y9 (show ¬ 30 < d by omega),Y9 (m Zc (by decide)),Y9 (m Zh (by decide)),Y9 (m Z9 (by decide)),Y9 (m s_if (by decide)),Y9 (show ¬ (Ze Zu ⟨ts,none⟩ || Ze Z05 ⟨ts,none⟩)=true by rw [Bool.or_eq_true,not_or]; exact ⟨(m Zu (by decide)),(m Z05 (by decide))⟩),Y9 (m Z26 (by decide)),dk,Yb (by decide)];exact (I HD).decl 4
theorem Zd8 {f d:Nat} {ts:List Tok} {g:Nat} (hg:Zt ts) (hd:d≤30) (I:∀ {d:Nat} {ts:List Tok},Zt ts→AG f d ts (g + 3)) (I2:∀ {d:Nat} {ts:List Tok},Zt ts→AG f d ts (g + 2)) (h:isT Z9 ts=true):Agree (Z3 (f + 1) .stmt d ts) (refF (g + 4) .stmt d ⟨ts,none⟩):=by
 have HD:=hg.tail;obtain ⟨n,m⟩:=Z36 h;have y:Ze Z9 ⟨ts,none⟩=true:=by rw [Z0i]; exact h
 have dk:=Z3u h;rw [show (if Z9=Z1a then (2:Int) else if Z9=Z1h then 3 else if Z9=Z01 then 4 else 0)=0 from by decide] at dk;rw [Z3,refF];simp only [];rw [Y9 (n Zc (by decide)),Y9 (n Zh (by decide)),Y9 (n Z1a (by decide)),Y9 (n Z1h (by decide)),Y9 (n Z01 (by decide)),Yb h];rw [Y9 (show ¬ 30 < d by omega),Y9 (m Zc (by decide)),Y9 (m Zh (by decide)),Yb y];exact Agree.name (m:=fun s σ=>refF (g + 3) (.func 5 s) d σ) HD (fun s hg=>(I hg).func 5 s) fun s ts e=>Zjd ..
theorem Zmf {f d:Nat} {ts:List Tok} {g:Nat} (hg:Zt ts) (hd:d≤30) (I:∀ {d:Nat} {ts:List Tok},Zt ts→AG f d ts (g + 3)) (I2:∀ {d:Nat} {ts:List Tok},Zt ts→AG f d ts (g + 2)) (h:isT s_if ts=true):Agree (Z3 (f + 1) .stmt d ts) (refF (g + 4) .stmt d ⟨ts,none⟩):=by
 have HD:=hg.tail;obtain ⟨n,m⟩:=Z36 h;have y:Ze s_if ⟨ts,none⟩=true:=by rw [Z0i]; exact h
 have dk:=Z3u h;rw [show (if s_if=Z1a then (2:Int) else if s_if=Z1h then 3 else if s_if=Z01 then 4 else 0)=0 from by decide] at dk;rw [Z3,refF];simp only [];rw [Y9 (n Zc (by decide)),Y9 (n Zh (by decide)),Y9 (n Z1a (by decide)),Y9 (n Z1h (by decide)),Y9 (n Z01 (by decide)),Y9 (n Z9 (by decide)),Yb h];rw [Y9 (show ¬ 30 < d by omega),Y9 (m Zc (by decide)),Y9 (m Zh (by decide)),Y9 (m Z9 (by decide)),Yb y]
 refine ((I HD).around (d:=d)).bind (fun x us hg=>?_) fun t ts e=>by rw [Z8y]; simp only [Z02]; rw [Y9 (by simp [Z4y])]; exact Z1b.mk
 refine (Z4v fun h=>(I2 hg).stmt h).bind (fun y us hg=>?_) fun t ts e=>by rw [Y9 (by simp [Z4y])]; exact Z1b.mk
 refine Agree.isT (fun h=>?_) fun _=>Agree.ok hg;exact (Z4v fun h=>(I2 hg.tail).stmt h).bind (fun z us hg=>Agree.ok hg) fun t ts e=>Z1b.mk
theorem Zjq {f d:Nat} {ts:List Tok} {g:Nat} (hg:Zt ts) (hd:d≤30) (I:∀ {d:Nat} {ts:List Tok},Zt ts→AG f d ts (g + 3)) (I2:∀ {d:Nat} {ts:List Tok},Zt ts→AG f d ts (g + 2)) (h:isT Zu ts=true):Agree (Z3 (f + 1) .stmt d ts) (refF (g + 4) .stmt d ⟨ts,none⟩):=by
 have HD:=hg.tail;obtain ⟨n,m⟩:=Z36 h;have y:Ze Zu ⟨ts,none⟩=true:=by rw [Z0i]; exact h
 have dk:=Z3u h;rw [show (if Zu=Z1a then (2:Int) else if Zu=Z1h then 3 else if Zu=Z01 then 4 else 0)=0 from by decide] at dk;rw [Z3,refF];simp only [];rw [Y9 (n Zc (by decide)),Y9 (n Zh (by decide)),Y9 (n Z1a (by decide)),Y9 (n Z1h (by decide)),Y9 (n Z01 (by decide)),Y9 (n Z9 (by decide)),Y9 (n s_if (by decide)),Yb h];rw [Y9 (show ¬ 30 < d by omega),Y9 (m Zc (by decide)),Y9 (m Zh (by decide)),Y9 (m Z9 (by decide)),Y9 (m s_if (by decide)),Yb (by rw [Bool.or_eq_true]; exact .inl y)]
 refine ((I HD).around (d:=d)).bind (fun x us hg=>?_) fun t ts e=>by rw [Z8y]; exact Z1b.mk
 rw [Y9 (m Z05 (by decide))];exact (Z4v fun h=>(I2 hg).stmt h).bind (fun y us hg=>Agree.ok hg) fun t ts e=>Z1b.mk
theorem Zlb {f d:Nat} {ts:List Tok} {g:Nat} (hg:Zt ts) (hd:d≤30) (I:∀ {d:Nat} {ts:List Tok},Zt ts→AG f d ts (g + 3)) (I2:∀ {d:Nat} {ts:List Tok},Zt ts→AG f d ts (g + 2)) (h:isT Z05 ts=true):Agree (Z3 (f + 1) .stmt d ts) (refF (g + 4) .stmt d ⟨ts,none⟩):=by
 have HD:=hg.tail;obtain ⟨n,m⟩:=Z36 h;have y:Ze Z05 ⟨ts,none⟩=true:=by rw [Z0i]; exact h
 have dk:=Z3u h;rw [show (if Z05=Z1a then (2:Int) else if Z05=Z1h then 3 else if Z05=Z01 then 4 else 0)=0 from by decide] at dk;rw [Z3,refF];simp only [];rw [Y9 (n Zc (by decide)),Y9 (n Zh (by decide)),Y9 (n Z1a (by decide)),Y9 (n Z1h (by decide)),Y9 (n Z01 (by decide)),Y9 (n Z9 (by decide)),Y9 (n s_if (by decide)),Y9 (n Zu (by decide)),Yb h];rw [Y9 (show ¬ 30 < d by omega),Y9 (m Zc (by decide)),Y9 (m Zh (by decide)),Y9 (m Z9 (by decide)),Y9 (m s_if (by decide)),Yb (by rw [Bool.or_eq_true]; exact .inr y)]
 refine ((I HD).around (d:=d)).bind (fun x us hg=>?_) fun t ts e=>by rw [Z8y]; exact Z1b.mk
 rw [Yb y];exact (Z4v fun h=>(I2 hg).stmt h).bind (fun y us hg=>Agree.ok hg) fun t ts e=>Z1b.mk
theorem Zh4 {f d:Nat} {ts:List Tok} {g:Nat} (hg:Zt ts) (hd:d≤30) (I:∀ {d:Nat} {ts:List Tok},Zt ts→AG f d ts (g + 3)) (I2:∀ {d:Nat} {ts:List Tok},Zt ts→AG f d ts (g + 2)) (h:isT Z0d ts=true):Agree (Z3 (f + 1) .stmt d ts) (refF (g + 4) .stmt d ⟨ts,none⟩):=by
 have HD:=hg.tail;obtain ⟨n,m⟩:=Z36 h;have y:Ze Z0d ⟨ts,none⟩=true:=by rw [Z0i]; exact h
 have dk:=Z3u h;rw [show (if Z0d=Z1a then (2:Int) else if Z0d=Z1h then 3 else if Z0d=Z01 then 4 else 0)=0 from by decide] at dk;rw [Z3,refF];simp only [];rw [Y9 (n Zc (by decide)),Y9 (n Zh (by decide)),Y9 (n Z1a (by decide)),Y9 (n Z1h (by decide)),Y9 (n Z01 (by decide)),Y9 (n Z9 (by decide)),Y9 (n s_if (by decide)),Y9 (n Zu (by decide)),Y9 (n Z05 (by decide)),Yb h]
 rw [Y9 (show ¬ 30 < d by omega),Y9 (m Zc (by decide)),Y9 (m Zh (by decide)),Y9 (m Z9 (by decide)),Y9 (m s_if (by decide)),Y9 (show ¬ (Ze Zu ⟨ts,none⟩ || Ze Z05 ⟨ts,none⟩)=true by rw [Bool.or_eq_true,not_or]; exact ⟨(m Zu (by decide)),(m Z05 (by decide))⟩),Y9 (m Z26 (by decide)),Y9 (show ¬ Z3z ⟨ts,none⟩≠0 from fun e=>e dk),Yb y];refine Agree.isT (fun h=>Z4e HD) fun _=>?_;exact ((I HD).value (d:=d)).bind (fun x us hg=>Z4e hg) fun t ts e=>Z8e
theorem Zj5 {f d:Nat} {ts:List Tok} {g:Nat} (hg:Zt ts) (hd:d≤30) (I:∀ {d:Nat} {ts:List Tok},Zt ts→AG f d ts (g + 3)) (I2:∀ {d:Nat} {ts:List Tok},Zt ts→AG f d ts (g + 2)) (h:isT Z1n ts=true):Agree (Z3 (f + 1) .stmt d ts) (refF (g + 4) .stmt d ⟨ts,none⟩):=by
 have HD:=hg.tail;obtain ⟨n,m⟩:=Z36 h;have y:Ze Z1n ⟨ts,none⟩=true:=by rw [Z0i]; exact h
 have dk:=Z3u h;rw [show (if Z1n=Z1a then (2:Int) else if Z1n=Z1h then 3 else if Z1n=Z01 then 4 else 0)=0 from by decide] at dk;rw [Z3,refF];simp only [];rw [Y9 (n Zc (by decide)),Y9 (n Zh (by decide)),Y9 (n Z1a (by decide)),Y9 (n Z1h (by decide)),Y9 (n Z01 (by decide)),Y9 (n Z9 (by decide)),Y9 (n s_if (by decide)),Y9 (n Zu (by decide)),Y9 (n Z05 (by decide)),Y9 (n Z0d (by decide)),Yb h]
 rw [Y9 (show ¬ 30 < d by omega),Y9 (m Zc (by decide)),Y9 (m Zh (by decide)),Y9 (m Z9 (by decide)),Y9 (m s_if (by decide)),Y9 (show ¬ (Ze Zu ⟨ts,none⟩ || Ze Z05 ⟨ts,none⟩)=true by rw [Bool.or_eq_true,not_or]; exact ⟨(m Zu (by decide)),(m Z05 (by decide))⟩),Y9 (m Z26 (by decide)),Y9 (show ¬ Z3z ⟨ts,none⟩≠0 from fun e=>e dk),Y9 (m Z0d (by decide)),Yb y];exact ((I HD).value (d:=d)).bind (fun x us hg=>Z4e hg) fun t ts e=>Z8e
theorem Zlu {f d:Nat} {ts:List Tok} {g:Nat} (hg:Zt ts) (hd:d≤30) (I:∀ {d:Nat} {ts:List Tok},Zt ts→AG f d ts (g + 3)) (I2:∀ {d:Nat} {ts:List Tok},Zt ts→AG f d ts (g + 2)) (h:isT Z26 ts=true):Agree (Z3 (f + 1) .stmt d ts) (refF (g + 4) .stmt d ⟨ts,none⟩):=by
 have HD:=hg.tail;obtain ⟨n,m⟩:=Z36 h;have y:Ze Z26 ⟨ts,none⟩=true:=by rw [Z0i]; exact h
 have dk:=Z3u h;rw [show (if Z26=Z1a then (2:Int) else if Z26=Z1h then 3 else if Z26=Z01 then 4 else 0)=0 from by decide] at dk;rw [Z3,refF];simp only [];rw [Y9 (n Zc (by decide)),Y9 (n Zh (by decide)),Y9 (n Z1a (by decide)),Y9 (n Z1h (by decide)),Y9 (n Z01 (by decide)),Y9 (n Z9 (by decide)),Y9 (n s_if (by decide)),Y9 (n Zu (by decide)),Y9 (n Z05 (by decide)),Y9 (n Z0d (by decide)),Y9 (n Z1n (by decide)),Yb h]
 rw [Y9 (show ¬ 30 < d by omega),Y9 (m Zc (by decide)),Y9 (m Zh (by decide)),Y9 (m Z9 (by decide)),Y9 (m s_if (by decide)),Y9 (show ¬ (Ze Zu ⟨ts,none⟩ || Ze Z05 ⟨ts,none⟩)=true by rw [Bool.or_eq_true,not_or]; exact ⟨(m Zu (by decide)),(m Z05 (by decide))⟩),Yb y];exact (I HD).try_
theorem Zky {f d:Nat} {ts:List Tok} {g:Nat} (hg:Zt ts) (hd:d≤30) (I:∀ {d:Nat} {ts:List Tok},Zt ts→AG f d ts (g + 3)) (I2:∀ {d:Nat} {ts:List Tok},Zt ts→AG f d ts (g + 2)):Agree (Z3 (f + 1) .stmt d ts) (refF (g + 4) .stmt d ⟨ts,none⟩):=by
 by_cases h_lbrace:isT Zc ts=true;·exact Zhs hg hd I I2 h_lbrace
 by_cases h_semi:isT Zh ts=true;·exact Zl7 hg hd I I2 h_semi
 by_cases h_var:isT Z1a ts=true;·exact Zma hg hd I I2 h_var
 by_cases h_let:isT Z1h ts=true;·exact Zm6 hg hd I I2 h_let
 by_cases h_const:isT Z01 ts=true;·exact Ziy hg hd I I2 h_const
 by_cases h_function:isT Z9 ts=true;·exact Zd8 hg hd I I2 h_function
 by_cases h_if:isT s_if ts=true;·exact Zmf hg hd I I2 h_if
 by_cases h_while:isT Zu ts=true;·exact Zjq hg hd I I2 h_while
 by_cases h_with:isT Z05 ts=true;·exact Zlb hg hd I I2 h_with
 by_cases h_return:isT Z0d ts=true;·exact Zh4 hg hd I I2 h_return
 by_cases h_throw:isT Z1n ts=true;·exact Zj5 hg hd I I2 h_throw
 by_cases h_try:isT Z26 ts=true;·exact Zlu hg hd I I2 h_try
 have m:∀ s,¬ isT s ts=true→¬ Ze s ⟨ts,none⟩=true:=fun s h=>by rw [Z0i]; exact h
 have dk:Z3z ⟨ts,none⟩=0:=by unfold Z3z; rw [Z0i,Z0i,Z0i,Y9 h_var,Y9 h_let,Y9 h_const]
 rw [Z3,refF];rw [Y9 h_lbrace,Y9 h_semi,Y9 h_var,Y9 h_let,Y9 h_const,Y9 h_function,Y9 h_if,Y9 h_while,Y9 h_with,Y9 h_return,Y9 h_throw,Y9 h_try];rw [Y9 (show ¬ 30 < d by omega),Y9 (m _ h_lbrace),Y9 (m _ h_semi),Y9 (m _ h_function),Y9 (m _ h_if),Y9 (show ¬ (Ze Zu ⟨ts,none⟩ || Ze Z05 ⟨ts,none⟩)=true by rw [Bool.or_eq_true,not_or]; exact ⟨m _ h_while,m _ h_with⟩),Y9 (m _ h_try),Y9 (show ¬ Z3z ⟨ts,none⟩≠0 from fun e=>e dk),Y9 (m _ h_return),Y9 (m _ h_throw)]
 exact ((I hg).value (d:=d)).bind (fun x us hg=>Z4e hg) fun t ts e=>Z8e
theorem agree:∀ (f d:Nat) (ts:List Tok),Zt ts→∀ g,2 * f + 8≤g→AG f d ts g:=by
 intro f;induction f with
 | zero=>intro d ts hg g hf; constructor <;> intros <;> trivial
 | succ f ih =>
   intro d ts hg g hf;obtain ⟨g,rfl⟩:∃ g',g=g' + 4:=⟨g - 4,by omega⟩
   have I:∀ {d ts},Zt ts→AG f d ts (g + 3):=fun h=>ih _ _ h _ (by omega);have I2:∀ {d ts},Zt ts→AG f d ts (g + 2):=fun h=>ih _ _ h _ (by omega);have I4:∀ {d ts},Zt ts→AG f d ts (g + 4):=fun h=>ih _ _ h _ (by omega);constructor;case prog=>exact Zkc hg I I4
   case stmts=>exact Zjw hg I I4
   case block=>exact Zjv hg I I4
   case func=>exact Zlf hg I I4
   case params=>exact Zgf hg I I4
   case around=>exact Zgv hg I I4
   case stmt=>exact fun hd=>Zky hg hd I I2
   case decl=>exact Zle hg I I4
   case try_=>exact Zkm hg I I4
   case value=>exact Ziq hg I I4
   case assign=>exact Zgg hg I I4
   case bin=>exact Zm0 hg I I4
   case binLoop=>exact Zfo hg I I4
   case unary=>exact Zjp hg I I4
   case postfix_=>exact Zcy hg I I4
   case postLoop=>exact Zda hg I I4
   case args=>exact Zkg hg I I4
   case primary=>exact Zfm hg I I4
   case object=>exact Zif hg I I4
end Go.Proofs.YtajomcjaljakhaaGreatDoor
