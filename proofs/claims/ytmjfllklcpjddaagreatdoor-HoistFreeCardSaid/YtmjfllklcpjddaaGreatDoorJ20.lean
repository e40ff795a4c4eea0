/- The document's reading is package tree's. -/
import Derived.Test.YtmjfllklcpjddaaGreatDoorJ11
namespace Go.Proofs.YtmjfllklcpjddaaGreatDoor
open Go Go.RowKit
set_option maxRecDepth 100000
set_option maxHeartbeats 20000000
set_option linter.unusedVariables false
theorem Z18.mk {t:Tree} {ts:List Tok} {e:Int×Nat}:Z18 (some (t,⟨ts,some e⟩)) e:=⟨t,ts,rfl⟩
theorem Z44 {t:Tree} {ts:List Tok} (hg:Zu ts):Agree (endT t ts) (some (t,Z09 Zg ⟨ts,none⟩)):=
 Agree.want (m:=fun σ=>some (t,σ)) hg (fun hg=>Agree.ok hg) fun _ _=>Z18.mk
theorem Z8c {t:Tree} {ts:List Tok} {e:Int×Nat}:Z18 (some (t,Z09 Zg ⟨ts,some e⟩)) e:=Z18.mk
theorem Zdn {s:ByteArray} {ts:List Tok} (h:isT s ts=true):(hdT ts).text=s:=by
 simp only [isT,Bool.and_eq_true,Z2x] at h;exact h.2
theorem Zfy {s s':ByteArray} {ts:List Tok} (h:isT s ts=true) (hn:s≠s'):isT s' ts=false:=by
 have:=Zdn h;simp only [isT,this];have:Z0n s s'=false:=by simp [Z0n,hn]
 simp [this]
theorem Z6n {c1 c2:Prop} [Decidable c1] [Decidable c2] {b1 b2:Bool} {ts:List Tok} {k:List Tok→PR} {m:RS→RR} (hg:Zu ts) (h1:c1↔b1=true) (h2:c2↔b2=true)
 (hk:∀ ts,¬ c2→Zu ts→Agree (k ts) (m ⟨ts,none⟩)) (he:∀ ts e,Z18 (m ⟨ts,some e⟩) e) :
 Agree ((if c1 then Z0p Z0l ts else fun k=>k ts) fun ts=>if c2 then Z2c 4 ts else k ts) (m (Z4r b2 (Z3f b1 ⟨ts,none⟩))):=by
 have key:∀ ts,Zu ts→Agree (if c2 then Z2c 4 ts else k ts) (m (Z4r b2 ⟨ts,none⟩)):=by
  intro ts hg;unfold Z4r;by_cases hc:c2;·rw [Yb hc,h2.1 hc]; exact he _ _
  ·rw [Y9 hc];have : b2 = false := by cases b2; rfl; exact absurd (h2.2 rfl) hc
   rw [this]; exact hk ts hc hg
 by_cases hc:c1
 ·rw [Yb hc,Z3f,h1.1 hc];exact Agree.want (m:=fun σ=>m (Z4r b2 σ)) hg (fun hg=>key _ hg) fun ts e=>by
   cases b2 <;> exact he _ _
 ·rw [Y9 hc];have : b1 = false := by cases b1; rfl; exact absurd (h1.2 rfl) hc
  rw [this];exact key ts hg
theorem Zf0 {level:Nat} {ts:List Tok} (hg:Zu ts):Z15 level ts=if decide ((hdT ts).kind=5) && Z4s level (hdT ts).text then Z2v (hdT ts).text else 0:=by
 have hG:=hg.hd.1;have h2:∀ {s:ByteArray},Z2v s≠0→isT s ts=(decide ((hdT ts).kind=5) && Z0n (hdT ts).text s):=by
  intro s hs;unfold isT;by_cases ht:(hdT ts).text=s
  ·by_cases h : (hdT ts).kind = 2;·exact absurd (by rw [← ht]; exact hG h) hs
   ·simp [h]
  ·have : Z0n (hdT ts).text s = false := by simp [Z0n, ht]
   simp [this]
 have one:∀ {s:ByteArray},Z2v s≠0→(if isT s ts=true then Z2v s else 0)=if (decide ((hdT ts).kind=5) && Z0n (hdT ts).text s)=true then Z2v (hdT ts).text else 0:=by
  intro s hs;rw [h2 hs];by_cases h:(decide ((hdT ts).kind=5) && Z0n (hdT ts).text s)=true
  ·rw [Yb h,Yb h];have:=(Bool.and_eq_true _ _ ▸ h:_∧_).2;rw [Z2x.1 this]
  ·rw [Y9 h,Y9 h]
 match level with
 | 0=>exact one (s:=s_or) (by decide)
 | 1=>exact one (s:=Z67) (by decide)
 | 2=>exact one (s:=Z3w) (by decide)
 | 3=>exact one (s:=Z41) (by decide)
 | 4 =>
   have e1:=one (s:=Z4f) (by decide);have e2:=one (s:=Z54) (by decide);show (if isT Z4f ts=true then Z2v Z4f else if isT Z54 ts=true then Z2v Z54 else 0)=if (decide ((hdT ts).kind=5) && (Z0n (hdT ts).text Z4f || Z0n (hdT ts).text Z54))=true then Z2v (hdT ts).text else 0;by_cases h:(decide ((hdT ts).kind=5) && Z0n (hdT ts).text Z4f)=true
   ·rw [Yb (by rw [h2 (by decide)]; exact h),Yb (by simp only [Bool.and_eq_true,Bool.or_eq_true] at h ⊢; exact ⟨h.1,.inl h.2⟩)];rw [Z2x.1 (by simp only [Bool.and_eq_true] at h; exact h.2:Z0n (hdT ts).text Z4f=true)]
   ·rw [Y9 (by rw [h2 (by decide)]; exact h),e2];have:(decide ((hdT ts).kind=5) && (Z0n (hdT ts).text Z4f || Z0n (hdT ts).text Z54))=(decide ((hdT ts).kind=5) && Z0n (hdT ts).text Z54):=by
     cases h5:decide ((hdT ts).kind=5);·rfl
     ·rw [h5] at h; simp only [Bool.true_and,Bool.not_eq_true] at h; simp [h]
    rw [this]
 | 5=>exact one (s:=Z66) (by decide)
 | n + 6=>simp [Z15,Z4s]
theorem Zez {level:Nat} {s:ByteArray} (h:Z4s level s=true):Z2v s≠0:=by
 match level with
 | 0=>rw [Z2x.1 h]; decide
 | 1=>rw [Z2x.1 h]; decide
 | 2=>rw [Z2x.1 h]; decide
 | 3=>rw [Z2x.1 h]; decide
 | 4 =>
   simp only [Z4s,Bool.or_eq_true] at h;rcases h with h | h <;> (rw [Z2x.1 h]; decide)
 | 5=>rw [Z2x.1 h]; decide
 | n + 6=>simp [Z4s] at h
theorem Zej {ts:List Tok} (hg:Zu ts):Z24 ts=if (hdT ts).kind=2 then Z2o (hdT ts).text else 0:=by
 have hG:=hg.hd.2;unfold Z24 Z2o isT;by_cases h2:(hdT ts).kind=2;·simp [h2]
 ·rw [Y9 h2];by_cases h5 : (hdT ts).kind = 5
  ·have:=hG h5;unfold Z2o at this;simp only [h5,decide_true,Bool.true_or,Bool.true_and];exact this
  ·simp [h2,h5]
def Zkf (g:Nat) (k:Int) (d:Nat) (σ:RS):RR:=
 if Zd s_eq (Z1o k (Zj σ).2) then
  Z03 (refF g .value (d + 1) (advR (Z1o k (Zj σ).2))) fun x σ'=>some (.mk k (Zj σ).1 0 [x],Z09 Zg σ')
 else some (.mk k (Zj σ).1 0 [],Z09 Zg (Z1o k (Zj σ).2))
def finR (g d:Nat) (l:List Tree) (σ:RS):RR:=
 if Zd Zy σ then Z03 (refF g (.braces false) d (advR σ)) fun c σ=>tryF (l ++ [.mk 14 ByteArray.empty 0 [c]]) σ
 else tryF l σ
def Zdv (g d:Nat) (b:Tree) (σ:RS):RR:=
 if Zd Z2a σ then
  Z03 (refF g (.braces false) d (Z09 Z07 (Zj (Z09 Z08 (advR σ))).2)) fun c σ'=>finR g d [b,.mk 13 (Zj (Z09 Z08 (advR σ))).1 0 [c]] σ'
 else finR g d [b] σ
def tryR (g d:Nat) (σ:RS):RR:=Z03 (refF g (.braces false) d σ) fun b σ=>Zdv g d b σ
structure AG (f:Nat) (d:Nat) (ts:List Tok) (g:Nat):Prop where
 prog:∀ acc,d=0→Agree (Z0 f (.stmts 1 acc) d ts) (Z03 (refF g (.prog acc) 0 ⟨ts,none⟩) fun l σ=>some (.mk 1 (if Z1p l.kids then Z27 else ByteArray.empty) 0 l.kids,σ))
 stmts:∀ acc,Agree (Z0 f (.stmts 6 acc) d ts) (Z03 (refF g (.bracesL acc) d ⟨ts,none⟩) fun l σ=>some (.mk 6 (if Z1p l.kids then Z27 else ByteArray.empty) 0 l.kids,σ))
 block:∀ b,Agree (Z0 f (.block b) d ts) (refF g (.braces b) d ⟨ts,none⟩)
 func:∀ k s,Agree (Z0 f (.func k s) d ts) (refF g (.func k s) d ⟨ts,none⟩)
 params:∀ acc,Agree (Zx (Z0 f (.params acc) d ts) fun p ts=>Z0p Z07 ts fun ts=>okT p ts) (Z03 (refF g (.params acc) d ⟨ts,none⟩) fun l σ=>some (.mk 40 ByteArray.empty 0 l.kids,σ))
 around:Agree (Z0 f .around d ts) (refF g .head d ⟨ts,none⟩)
 stmt:d≤30→Agree (Z0 f .stmt d ts) (refF g .stmt d ⟨ts,none⟩)
 decl:∀ k,Agree (Zx (Z0 f (.decl k (decide (k=4))) d ts) endT) (Zkf g k d ⟨ts,none⟩)
 try_:Agree (Z0 f .try_ d ts) (tryR g d ⟨ts,none⟩)
 value:Agree (Z0 f .value d ts) (refF g .value (d + 1) ⟨ts,none⟩)
 assign:d≤30→Agree (Z0 f .assign d ts) (refF g .value d ⟨ts,none⟩)
 bin:∀ lv,Agree (Z0 f (.bin lv) d ts) (refF g (.pairs lv) d ⟨ts,none⟩)
 binLoop:∀ lv x,Agree (Z0 f (.binLoop lv x) d ts) (refF g (.pairsL lv x) d ⟨ts,none⟩)
 unary:Agree (Z0 f .unary d ts) (refF g .single d ⟨ts,none⟩)
 postfix_:Agree (Z0 f .postfix_ d ts) (Z03 (refF g .first d ⟨ts,none⟩) fun x σ=>refF g (.singleL x) d σ)
 postLoop:∀ x,Agree (Z0 f (.postLoop x) d ts) (refF g (.singleL x) d ⟨ts,none⟩)
 args:∀ x out,out.length≤8→Agree (Z0 f (.args (x :: out)) d ts) (Z03 (refF g (.args out) d ⟨ts,none⟩) fun l σ=>some (.mk 35 ByteArray.empty 0 (x :: l.kids),σ))
 primary:Agree (Z0 f .primary d ts) (refF g .first d ⟨ts,none⟩)
 object:∀ acc,Agree (Z0 f (.object acc) d ts) (Z03 (refF g (.props acc) d ⟨ts,none⟩) fun l σ=>some (.mk 38 ByteArray.empty 0 l.kids,σ))
theorem Z6m {f d:Nat} {ts:List Tok} {g:Nat} (h:d + 1≤30→Agree (Z0 f .stmt (d + 1) ts) (refF (g + 1) .stmt (d + 1) ⟨ts,none⟩)):Agree (Z0e d ts (Z0 f .stmt (d + 1) ts)) (refF (g + 1) .stmt (d + 1) ⟨ts,none⟩):=by
 unfold Z0e;by_cases hd:30 < d + 1;·rw [Yb hd,refF,Yb hd]; exact Agree.fail
 ·rw [Y9 hd]; exact h (by omega)
theorem Z4i {f d:Nat} {ts:List Tok} {g:Nat} (h:d + 1≤30→Agree (Z0 f .stmt (d + 1) ts) (refF (g + 1) .stmt (d + 1) ⟨ts,none⟩)):Agree (Z0e d ts (Z0 f .stmt (d + 1) ts)) (refF (g + 2) .stmt2 d ⟨ts,none⟩):=by
 rw [refF,Yb (show (none:Option (Int×Nat)).isNone=true from rfl)]; exact Z6m h
theorem Zdg {p:PR} {k m:Tree→List Tok→PR}:Zx (Zx p k) m=Zx p fun t ts=>Zx (k t ts) m:=by
 rcases p with _ | e | ⟨t,ts⟩ <;> rfl
theorem Z3i (q:RR) (m n:Tree→RS→RR):Z03 (Z03 q m) n=Z03 q fun t σ=>Z03 (m t σ) n:=by
 rcases q with _ | ⟨t,σ⟩ <;> rfl
theorem Zdy (l:List Tree) (ts:List Tok) (e:Int×Nat):Z18 (tryF l ⟨ts,some e⟩) e:=by
 unfold tryF;by_cases h:l.length=1;·rw [Yb h]; exact Z18.mk
 ·rw [Y9 h]; exact Z18.mk
theorem Z7a (g d:Nat) (l:List Tree) (ts:List Tok) (e:Int×Nat):Z18 (finR g d l ⟨ts,some e⟩) e:=by
 unfold finR; rw [Y9 (by simp [Z4m])]; exact Zdy ..
theorem Ze4 (g d:Nat) (b:Tree) (ts:List Tok) (e:Int×Nat):Z18 (Zdv g d b ⟨ts,some e⟩) e:=by
 unfold Zdv; rw [Y9 (by simp [Z4m])]; exact Z7a ..
theorem Zjb {s:ByteArray} {ts:List Tok}:(isT s ts=true)↔Zd s ⟨ts,none⟩=true:=by rw [Z0i]
theorem Agree.isT {s:ByteArray} {ts:List Tok} {p1 p2:PR} {q1 q2:RR} (h1:isT s ts=true→Agree p1 q1) (h2:isT s ts=false→Agree p2 q2):Agree (if isT s ts=true then p1 else p2) (if Zd s ⟨ts,none⟩=true then q1 else q2):=
 Agree.ite Zjb h1 fun h=>h2 (by simpa using h)
theorem Za5 {ts:List Tok} {k:ByteArray→List Tok→PR} {m:Tree→List Tok→PR}:Zx (Z2w ts k) m=Z2w ts fun s ts=>Zx (k s ts) m:=by
 unfold Z2w;by_cases h:(hdT ts).kind=1;·rw [Yb h,Yb h]
 ·rw [Y9 h,Y9 h]; rfl
theorem Zei {s:ByteArray} {ts:List Tok} {k:List Tok→PR} {m:Tree→List Tok→PR}:Zx (Z0p s ts k) m=Z0p s ts fun ts=>Zx (k ts) m:=by
 unfold Z0p;by_cases h:isT s ts=true;·rw [Yb h,Yb h]
 ·rw [Y9 h,Y9 h]; rfl
theorem Zed {c1 c2:Prop} [Decidable c1] [Decidable c2] {ts:List Tok} {k:List Tok→PR} {m:Tree→List Tok→PR} :
 Zx ((if c1 then Z0p Z0l ts else fun k=>k ts) fun ts=>if c2 then Z2c 4 ts else k ts) m=(if c1 then Z0p Z0l ts else fun k=>k ts) fun ts=>if c2 then Z2c 4 ts else Zx (k ts) m:=by
 have key:∀ ts,Zx (if c2 then Z2c 4 ts else k ts) m=if c2 then Z2c 4 ts else Zx (k ts) m:=by
  intro ts;by_cases h:c2;·rw [Yb h,Yb h]; rfl
  ·rw [Y9 h,Y9 h]
 by_cases h:c1
 ·simp only [if_pos h];rw [Zei];simp only [key]
 ·simp only [if_neg h]; exact key ts
theorem Zju {f d:Nat} {ts:List Tok} {g:Nat} (hg:Zu ts) (I:∀ {d:Nat} {ts:List Tok},Zu ts→AG f d ts (g + 3)) (I4:∀ {d:Nat} {ts:List Tok},Zu ts→AG f d ts (g + 4)):∀ acc,d=0→Agree (Z0 (f + 1) (.stmts 1 acc) d ts) (Z03 (refF (g + 4) (.prog acc) 0 ⟨ts,none⟩) fun l σ=>some (.mk 1 (if Z1p l.kids then Z27 else ByteArray.empty) 0 l.kids,σ)):=by
 have HD:=hg.tail;rintro acc rfl;rw [Z0,refF];by_cases h6:(hdT ts).kind=6
 ·simp only [h6,if_true,decide_true,Option.isNone_none,Bool.not_true,Bool.and_false,Bool.false_eq_true,if_false,Z03];exact Agree.ok hg
 ·simp only [h6,if_true,decide_false,Option.isNone_none,Bool.not_false,Bool.and_true,Bool.false_eq_true,if_false];rw [Z3i];exact Agree.bind (Z6m fun h=>(I (d:=0 + 1) hg).stmt h) (fun t ts hg=>(I hg).prog (acc ++ [t]) rfl) fun t ts e=>by rw [Zi8]; exact Z18.mk
theorem Zil {f d:Nat} {ts:List Tok} {g:Nat} (hg:Zu ts) (I:∀ {d:Nat} {ts:List Tok},Zu ts→AG f d ts (g + 3)) (I4:∀ {d:Nat} {ts:List Tok},Zu ts→AG f d ts (g + 4)):∀ acc,Agree (Z0 (f + 1) (.stmts 6 acc) d ts) (Z03 (refF (g + 4) (.bracesL acc) d ⟨ts,none⟩) fun l σ=>some (.mk 6 (if Z1p l.kids then Z27 else ByteArray.empty) 0 l.kids,σ)):=by
 have HD:=hg.tail;intro acc;rw [Z0,refF];cases hb:isT Zk ts
 ·rw [Y9 (by simp)];simp only [Option.isNone_none,Z0i,hb,Bool.not_false,Bool.and_true,if_true];rw [Z3i];exact Agree.bind (Z6m fun h=>(I (d:=d + 1) hg).stmt h) (fun t ts hg=>(I hg).stmts (acc ++ [t])) fun t ts e=>by rw [Z6f]; exact Z18.mk
 ·rw [Yb (by simp)];simp only [Option.isNone_none,Z0i,hb,Bool.not_true,Bool.and_false,Bool.false_eq_true,if_false,Z03,Tree.kids];exact Agree.ok hg
theorem Zik {f d:Nat} {ts:List Tok} {g:Nat} (hg:Zu ts) (I:∀ {d:Nat} {ts:List Tok},Zu ts→AG f d ts (g + 3)) (I4:∀ {d:Nat} {ts:List Tok},Zu ts→AG f d ts (g + 4)):∀ b,Agree (Z0 (f + 1) (.block b) d ts) (refF (g + 4) (.braces b) d ⟨ts,none⟩):=by
 have HD:=hg.tail;intro b;rw [Z0,refF];refine Agree.want (m:=fun σ=>Z03 (refF (g + 3) (.bracesL []) d σ) fun l σ=>some (.mk 6 (if b && (Z09 Zk σ).f.isNone && Z1p l.kids then Z27 else ByteArray.empty) 0 l.kids,Z09 Zk σ)) hg (fun hg=>?_) fun ts e=>by rw [Z6f]; exact Z18.mk
 have h:=(I (d:=d) hg).stmts [];revert h;generalize Z0 f (.stmts 6 []) d ts.tail=p;generalize refF (g + 3) (.bracesL []) d ⟨ts.tail,none⟩=q;intro h;rcases p with _ | e | ⟨t,us⟩;·trivial
 ·obtain ⟨t', ts', h⟩ := h;rcases q with _ | ⟨l, σ⟩;·simp [Z03] at h
  ·simp only [Z03,Option.some.injEq,Prod.mk.injEq] at h;obtain ⟨_,rfl⟩:=h;exact Z18.mk
 ·obtain ⟨h, hg⟩ := h;rcases q with _ | ⟨l, σ⟩;·simp [Z03] at h
  ·simp only [Z03, Option.some.injEq, Prod.mk.injEq] at h;obtain ⟨rfl, rfl⟩ := h;show Agree (Z0p Zk us fun ts => okT (if b = true then _ else _) ts) (some (.mk 6 (if (b && (Z09 Zk ⟨us, none⟩).f.isNone && Z1p l.kids) = true then Z27 else ByteArray.empty) 0 l.kids, Z09 Zk ⟨us, none⟩));refine Agree.want (m := fun σ => some (.mk 6 (if (b && σ.f.isNone && Z1p l.kids) = true then Z27 else ByteArray.empty) 0 l.kids, σ)) hg (fun hg => ?_) fun ts e => Z18.mk;cases b;·exact Agree.ok hg
   ·simp only [Option.isNone_none,Bool.true_and,if_true];exact Agree.ok hg
theorem Zkc {f d:Nat} {ts:List Tok} {g:Nat} (hg:Zu ts) (I:∀ {d:Nat} {ts:List Tok},Zu ts→AG f d ts (g + 3)) (I4:∀ {d:Nat} {ts:List Tok},Zu ts→AG f d ts (g + 4)):∀ k s,Agree (Z0 (f + 1) (.func k s) d ts) (refF (g + 4) (.func k s) d ⟨ts,none⟩):=by
 have HD:=hg.tail;intro k s;rw [Z0,refF];refine Agree.want (m:=fun σ=>Z03 (refF (g + 3) (.params []) d σ) fun l σ=>Z03 (refF (g + 3) (.braces true) d σ) fun b σ=>some (.mk k s 0 [.mk 40 ByteArray.empty 0 l.kids,b],σ)) hg (fun hg=>?_) fun ts e=>by rw [Z65]; simp only [Z03]; rw [Z43]; exact Z18.mk
 have h:=(I (d:=d) hg).params [];revert h;generalize Z0 f (.params []) d ts.tail=p;generalize refF (g + 3) (.params []) d ⟨ts.tail,none⟩=q;intro h;have e0:(fun (p:Tree) (ts:List Tok)=>Z0p Z07 ts fun ts=>Zx (Z0 f (.block true) d ts) fun b ts=>okT (.mk k s 0 [p,b]) ts)=fun p ts=>Zx (Z0p Z07 ts fun ts=>okT p ts) fun p ts=>Zx (Z0 f (.block true) d ts) fun b ts=>okT (.mk k s 0 [p,b]) ts:=by
  funext p ts
  unfold Z0p;by_cases hh:isT Z07 ts=true;·rw [Yb hh,Yb hh]; rfl
  ·rw [Y9 hh,Y9 hh]; rfl
 have e1:Zx p (fun (p:Tree) (ts:List Tok)=>Z0p Z07 ts fun ts=>Zx (Z0 f (.block true) d ts) fun b ts=>okT (.mk k s 0 [p,b]) ts)=Zx (Zx p fun p ts=>Z0p Z07 ts fun ts=>okT p ts) fun p ts=>Zx (Z0 f (.block true) d ts) fun b ts=>okT (.mk k s 0 [p,b]) ts:=by
  rw [e0];rcases p with _ | e | ⟨t,us⟩ <;> rfl
 have e2:Z03 q (fun l σ=>Z03 (refF (g + 3) (.braces true) d σ) fun b σ=>some (.mk k s 0 [.mk 40 ByteArray.empty 0 l.kids,b],σ))=Z03 (Z03 q fun l σ=>some (.mk 40 ByteArray.empty 0 l.kids,σ)) fun p σ=>Z03 (refF (g + 3) (.braces true) d σ) fun b σ=>some (.mk k s 0 [p,b],σ):=by
  rw [Z3i]; rfl
 rw [e1,e2];exact h.bind (fun t ts hg=>Agree.bind ((I hg).block true) (fun b ts hg=>Agree.ok hg) fun b ts e=>Z18.mk) fun t ts e=>by rw [Z43]; exact Z18.mk
theorem Zgm {f d:Nat} {ts:List Tok} {g:Nat} (hg:Zu ts) (I:∀ {d:Nat} {ts:List Tok},Zu ts→AG f d ts (g + 3)) (I4:∀ {d:Nat} {ts:List Tok},Zu ts→AG f d ts (g + 4)):∀ acc,Agree (Zx (Z0 (f + 1) (.params acc) d ts) fun p ts=>Z0p Z07 ts fun ts=>okT p ts) (Z03 (refF (g + 4) (.params acc) d ⟨ts,none⟩) fun l σ=>some (.mk 40 ByteArray.empty 0 l.kids,σ)):=by
 have HD:=hg.tail;intro acc;rw [Z0,refF];cases hb:isT Z07 ts
 ·simp only [Option.isNone_none, Z0i, hb, Bool.not_false, Bool.and_true, if_true, Bool.false_eq_true, if_false];rw [Zed];refine Z6n (m := fun σ => Z03 (if σ.f.isNone = true then refF (g + 3) (.params (acc ++ [.mk 23 (Zj σ).1 0 []])) d (Zj σ).2 else refF (g + 3) (.params acc) d σ) fun l σ => some (.mk 40 ByteArray.empty 0 l.kids, σ)) (c1 := 0 < acc.length) (c2 := acc.length = 8) hg decide_eq_true_iff.symm decide_eq_true_iff.symm (fun us _ hg => ?_) fun us e => ?_
  ·rw [Yb (show (none:Option (Int×Nat)).isNone=true from rfl),Za5];exact Agree.name (k:=fun s ts=>Zx (Z0 f (.params (acc ++ [.mk 23 s 0 []])) d ts) fun p ts=>Z0p Z07 ts fun ts=>okT p ts) (m:=fun s σ=>Z03 (refF (g + 3) (.params (acc ++ [.mk 23 s 0 []])) d σ) fun l σ=>some (.mk 40 ByteArray.empty 0 l.kids,σ)) hg (fun s hg=>(I hg).params (acc ++ [.mk 23 s 0 []])) fun s ts e=>by rw [Z65]; exact Z18.mk
  ·rw [Y9 (show ¬ (some e:Option (Int×Nat)).isNone=true by simp),Z65]; exact Z18.mk
 ·simp only [Option.isNone_none,Z0i,hb,Bool.not_true,Bool.and_false,if_true,Bool.false_eq_true,if_false];exact Agree.want (m:=fun σ=>some (.mk 40 ByteArray.empty 0 acc,σ)) hg (fun hg=>Agree.ok hg) fun _ _=>Z18.mk
theorem Zh5 {f d:Nat} {ts:List Tok} {g:Nat} (hg:Zu ts) (I:∀ {d:Nat} {ts:List Tok},Zu ts→AG f d ts (g + 3)) (I4:∀ {d:Nat} {ts:List Tok},Zu ts→AG f d ts (g + 4)):Agree (Z0 (f + 1) .around d ts) (refF (g + 4) .head d ⟨ts,none⟩):=by
 have HD:=hg.tail;rw [Z0,refF];refine Agree.want (m:=fun σ=>Z03 (refF (g + 3) .value (d + 1) σ) fun x σ=>some (x,Z09 Z07 σ)) hg (fun hg=>?_) fun ts e=>by rw [Z8o]; exact Z18.mk
 exact (I hg).value.bind (fun t ts hg=>Agree.want (m:=fun σ=>some (t,σ)) hg (fun hg=>Agree.ok hg) fun _ _=>Z18.mk) fun t ts e=>Z18.mk
theorem Zjt {f d:Nat} {ts:List Tok} {g:Nat} (hg:Zu ts) (I:∀ {d:Nat} {ts:List Tok},Zu ts→AG f d ts (g + 3)) (I4:∀ {d:Nat} {ts:List Tok},Zu ts→AG f d ts (g + 4)):∀ k,Agree (Zx (Z0 (f + 1) (.decl k (decide (k=4))) d ts) endT) (Zkf (g + 4) k d ⟨ts,none⟩):=by
 have HD:=hg.tail;intro k;rw [Z0,Zkf];rw [Za5];refine Agree.name (m:=fun s σ=>if Zd s_eq (Z1o k σ)=true then Z03 (refF (g + 4) .value (d + 1) (advR (Z1o k σ))) fun x σ'=>some (.mk k s 0 [x],Z09 Zg σ') else some (.mk k s 0 [],Z09 Zg (Z1o k σ))) hg (fun s hg=>?_) fun s ts e=>?_
 ·generalize ts.tail = us at hg;cases he : isT s_eq us
  ·by_cases hk : k = 4
   ·subst hk;have e1 : Z1o 4 ⟨us, none⟩ = ⟨us, some (3, (hdT us).at')⟩ := by simp [Z1o, Z0i, he, Z30]
    rw [Yb (by simp),e1,Y9 (by simp [Z4m])];exact Z18.mk
   ·have e1 : Z1o k ⟨us, none⟩ = ⟨us, none⟩ := by simp [Z1o, hk]
    rw [Y9 (by simp [hk]),Y9 (by simp),e1,Y9 (by rw [Z0i,he]; simp)];exact Z44 hg
  ·have e1 : Z1o k ⟨us, none⟩ = ⟨us, none⟩ := by simp [Z1o, Z0i, he]
   rw [Y9 (by simp),Yb rfl,e1,Yb (by rw [Z0i,he])];have:=(I4 hg.tail).value (d:=d);rw [Zdg];exact this.bind (fun x us hg=>Z44 hg) fun t ts e=>Z8c
 ·have e1 : Z1o k ⟨ts, some e⟩ = ⟨ts, some e⟩ := by simp [Z1o]
  rw [e1,Y9 (by simp [Z4m])]; exact Z18.mk
theorem Zka {f d:Nat} {ts:List Tok} {g:Nat} (hg:Zu ts) (I:∀ {d:Nat} {ts:List Tok},Zu ts→AG f d ts (g + 3)) (I4:∀ {d:Nat} {ts:List Tok},Zu ts→AG f d ts (g + 4)):Agree (Z0 (f + 1) .try_ d ts) (tryR (g + 4) d ⟨ts,none⟩):=by
 have HD:=hg.tail;rw [Z0,tryR];refine ((I4 hg).block false).bind (fun b us hg=>?_) fun b ts e=>Ze4 ..;have fin:∀ (l:List Tree) us,1≤l.length→Zu us→Agree (if isT Zy us=true then Zx (Z0 f (.block false) d us.tail) fun c ts=>okT (.mk 12 ByteArray.empty 0 (l ++ [.mk 14 ByteArray.empty 0 [c]])) ts else if l.length=1 then Z2c 3 us else okT (.mk 12 ByteArray.empty 0 l) us) (finR (g + 4) d l ⟨us,none⟩):=by
  intro l us hl hg;unfold finR;refine Agree.isT (fun h=>?_) fun h=>?_;·exact ((I4 hg.tail).block false).bind (fun c us hg=>by unfold tryF; rw [Y9 (by rw [Yq,List.length_singleton]; omega)]; exact Agree.ok hg) fun b ts e=>Zdy ..
  ·unfold tryF;by_cases hl : l.length = 1;·rw [Yb hl, Yb hl]; exact Agree.fail
   ·rw [Y9 hl,Y9 hl]; exact Agree.ok hg
 unfold Zdv;refine Agree.isT (fun h=>?_) fun h=>fin _ _ (by simp) hg;refine Agree.want (m:=fun σ=>Z03 (refF (g + 4) (.braces false) d (Z09 Z07 (Zj σ).2)) fun c σ'=>finR (g + 4) d [b,.mk 13 (Zj σ).1 0 [c]] σ') hg.tail (fun hg=>?_) fun us e=>by rw [Zfr,Z42,Z43]; exact Z7a ..
 refine Agree.name (m:=fun s σ=>Z03 (refF (g + 4) (.braces false) d (Z09 Z07 σ)) fun c σ'=>finR (g + 4) d [b,.mk 13 s 0 [c]] σ') hg (fun s hg=>?_) fun s us e=>by rw [Z42,Z43]; exact Z7a ..
 refine Agree.want (m:=fun σ=>Z03 (refF (g + 4) (.braces false) d σ) fun c σ'=>finR (g + 4) d [b,.mk 13 s 0 [c]] σ') hg (fun hg=>?_) fun us e=>by rw [Z43]; exact Z7a ..
 exact ((I4 hg).block false).bind (fun c us hg=>fin _ _ (by simp) hg) fun b ts e=>Z7a ..
theorem Zit {f d:Nat} {ts:List Tok} {g:Nat} (hg:Zu ts) (I:∀ {d:Nat} {ts:List Tok},Zu ts→AG f d ts (g + 3)) (I4:∀ {d:Nat} {ts:List Tok},Zu ts→AG f d ts (g + 4)):Agree (Z0 (f + 1) .value d ts) (refF (g + 4) .value (d + 1) ⟨ts,none⟩):=by
 have HD:=hg.tail;rw [Z0];unfold Z0e;by_cases hd:30 < d + 1;·rw [Yb hd,refF,Yb (show (none:Option (Int×Nat)).isNone=true from rfl),Yb hd]; exact Agree.fail
 ·rw [Y9 hd]; exact (I4 hg).assign (by omega)
theorem Zhf {f d:Nat} {ts:List Tok} {g:Nat} (hg:Zu ts) (I:∀ {d:Nat} {ts:List Tok},Zu ts→AG f d ts (g + 3)) (I4:∀ {d:Nat} {ts:List Tok},Zu ts→AG f d ts (g + 4)):d≤30→Agree (Z0 (f + 1) .assign d ts) (refF (g + 4) .value d ⟨ts,none⟩):=by
 have HD:=hg.tail;intro hd;rw [Z0,refF,Yb (show (none:Option (Int×Nat)).isNone=true from rfl),Y9 (by omega)];refine ((I hg).bin 0).bind (fun t us hg=>?_) fun t ts e=>by rw [Y9 (by simp [Z4m])]; exact Z18.mk
 refine Agree.isT (fun h=>?_) fun h=>Agree.ok hg;by_cases hk:t.kind=23∨t.kind=36
 ·rw [Yb hk,Yb hk];exact (I hg.tail).value.bind (fun y us hg=>Agree.ok hg) fun t ts e=>Z18.mk
 ·rw [Y9 hk,Y9 hk];exact Z18.mk
theorem Zkx {f d:Nat} {ts:List Tok} {g:Nat} (hg:Zu ts) (I:∀ {d:Nat} {ts:List Tok},Zu ts→AG f d ts (g + 3)) (I4:∀ {d:Nat} {ts:List Tok},Zu ts→AG f d ts (g + 4)):∀ lv,Agree (Z0 (f + 1) (.bin lv) d ts) (refF (g + 4) (.pairs lv) d ⟨ts,none⟩):=by
 have HD:=hg.tail;intro lv;rw [Z0,refF];by_cases h:6≤lv;·rw [Yb h,Yb h]; exact (I hg).unary
 ·rw [Y9 h,Y9 h];exact ((I hg).bin (lv + 1)).bind (fun x us hg=>(I hg).binLoop lv x) fun t ts e=>by rw [Z9x]; exact Z18.mk
theorem Zf1 {f d:Nat} {ts:List Tok} {g:Nat} (hg:Zu ts) (I:∀ {d:Nat} {ts:List Tok},Zu ts→AG f d ts (g + 3)) (I4:∀ {d:Nat} {ts:List Tok},Zu ts→AG f d ts (g + 4)):∀ lv x,Agree (Z0 (f + 1) (.binLoop lv x) d ts) (refF (g + 4) (.pairsL lv x) d ⟨ts,none⟩):=by
 have HD:=hg.tail;intro lv x;rw [Z0,refF,Zf0 hg];simp only;cases hb:decide ((hdT ts).kind=5) && Z4s lv (hdT ts).text
 ·rw [Y9 Bool.false_ne_true,Yb rfl,Y9 (by rw [show ((none:Option (Int×Nat)).isNone && decide ((hdT ts).kind=5) && Z4s lv (hdT ts).text)=(decide ((hdT ts).kind=5) && Z4s lv (hdT ts).text) by simp,hb]; simp)];exact Agree.ok hg
 ·rw [Yb rfl,Y9 (Zez (level:=lv) (by simp only [Bool.and_eq_true] at hb; exact hb.2)),Yb (by rw [show ((none:Option (Int×Nat)).isNone && decide ((hdT ts).kind=5) && Z4s lv (hdT ts).text)=(decide ((hdT ts).kind=5) && Z4s lv (hdT ts).text) by simp,hb])];exact ((I hg.tail).bin (lv + 1)).bind (fun y us hg=>(I hg).binLoop lv _) fun t ts e=>by rw [Z9x]; exact Z18.mk
theorem Zi2 {f d:Nat} {ts:List Tok} {g:Nat} (hg:Zu ts) (I:∀ {d:Nat} {ts:List Tok},Zu ts→AG f d ts (g + 3)) (I4:∀ {d:Nat} {ts:List Tok},Zu ts→AG f d ts (g + 4)):Agree (Z0 (f + 1) .unary d ts) (refF (g + 4) .single d ⟨ts,none⟩):=by
 have HD:=hg.tail;have hu:Z5m ⟨ts,none⟩=Z1y ts:=by unfold Z5m Z1y; rw [Z0i,Z0i,Z0i]
 rw [Z0,refF,hu];by_cases h:Z1y ts=0
 ·rw [Yb h,Y9 (fun h'=>h' h)];exact (I hg).postfix_
 ·rw [Y9 h, Yb h];unfold Z0e;by_cases hd : 30 < d + 1;·rw [Yb hd, Yb hd]; exact Agree.fail
  ·rw [Y9 hd,Y9 hd];exact ((I HD).unary (d:=d + 1)).bind (fun x us hg=>Agree.ok hg) fun t ts e=>Z18.mk
theorem Zcq {f d:Nat} {ts:List Tok} {g:Nat} (hg:Zu ts) (I:∀ {d:Nat} {ts:List Tok},Zu ts→AG f d ts (g + 3)) (I4:∀ {d:Nat} {ts:List Tok},Zu ts→AG f d ts (g + 4)):Agree (Z0 (f + 1) .postfix_ d ts) (Z03 (refF (g + 4) .first d ⟨ts,none⟩) fun x σ=>refF (g + 4) (.singleL x) d σ):=by
 have HD:=hg.tail;rw [Z0];exact (I4 hg).primary.bind (fun x us hg=>(I4 hg).postLoop x) fun t ts e=>by rw [Z6o]; exact Z18.mk
theorem Zcl {f d:Nat} {ts:List Tok} {g:Nat} (hg:Zu ts) (I:∀ {d:Nat} {ts:List Tok},Zu ts→AG f d ts (g + 3)) (I4:∀ {d:Nat} {ts:List Tok},Zu ts→AG f d ts (g + 4)):∀ x,Agree (Z0 (f + 1) (.postLoop x) d ts) (refF (g + 4) (.singleL x) d ⟨ts,none⟩):=by
 have HD:=hg.tail;intro x;rw [Z0,refF];refine Agree.isT (fun h=>?_) fun h=>Agree.isT (fun h=>?_) fun h=>Agree.ok hg;·exact Agree.name (m:=fun s σ=>refF (g + 3) (.singleL (.mk 36 s 0 [x])) d σ) hg.tail (fun s hg=>(I hg).postLoop _) fun s ts e=>by rw [Z6o]; exact Z18.mk
 ·have := ((I (d := d) hg.tail).args x [] (by simp)).bind (m := fun n σ => refF (g + 3) (.singleL n) d σ) (fun n us hg => (I hg).postLoop n) fun t ts e => by rw [Z6o]; exact Z18.mk
  rw [Z3i] at this;exact this
theorem Zjk {f d:Nat} {ts:List Tok} {g:Nat} (hg:Zu ts) (I:∀ {d:Nat} {ts:List Tok},Zu ts→AG f d ts (g + 3)) (I4:∀ {d:Nat} {ts:List Tok},Zu ts→AG f d ts (g + 4)):∀ x out,out.length≤8→Agree (Z0 (f + 1) (.args (x :: out)) d ts) (Z03 (refF (g + 4) (.args out) d ⟨ts,none⟩) fun l σ=>some (.mk 35 ByteArray.empty 0 (x :: l.kids),σ)):=by
 have HD:=hg.tail;intro x out h8;rw [Z0,refF];cases hb:isT Z07 ts
 ·simp only [Option.isNone_none, Z0i, hb, Bool.not_false, Bool.and_true, if_true, Bool.false_eq_true, if_false]
  refine Z6n (c1:=1 < (x :: out).length) (c2:=8 < (x :: out).length) (b2:=decide (out.length=8)) (k:=fun ts=>Zx (Z0 f .value d ts) fun v ts=>Z0 f (.args (x :: (out ++ [v]))) d ts) (m:=fun σ=>Z03 (if σ.f.isNone=true then Z03 (refF (g + 3) .value (d + 1) σ) fun v σ=>refF (g + 3) (.args (out ++ [v])) d σ else refF (g + 3) (.args out) d σ) fun l σ=>some (.mk 35 ByteArray.empty 0 (x :: l.kids),σ)) hg (by simp) (by rw [decide_eq_true_eq,List.length_cons]; omega) (fun us hn hg=>?_) fun us e=>?_
  ·rw [Yb (show (none:Option (Int×Nat)).isNone=true from rfl),Z3i];exact ((I hg).value (d:=d)).bind (fun v us hg=>(I hg).args x (out ++ [v]) (by rw [Yq,List.length_singleton]; rw [List.length_cons] at hn; omega)) fun v us e=>by rw [Zdm]; exact Z18.mk
  ·rw [Y9 (show ¬ (some e:Option (Int×Nat)).isNone=true by simp),Zdm]; exact Z18.mk
 ·simp only [Option.isNone_none,Z0i,hb,Bool.not_true,Bool.and_false,if_true,Bool.false_eq_true,if_false];unfold Z09;simp only [Option.isNone_none,hb,if_true];exact Agree.ok HD
theorem Ze6 {f d:Nat} {ts:List Tok} {g:Nat} (hg:Zu ts) (I:∀ {d:Nat} {ts:List Tok},Zu ts→AG f d ts (g + 3)) (I4:∀ {d:Nat} {ts:List Tok},Zu ts→AG f d ts (g + 4)):Agree (Z0 (f + 1) .primary d ts) (refF (g + 4) .first d ⟨ts,none⟩):=by
 have HD:=hg.tail;rw [Z0,refF,Yb (show (none:Option (Int×Nat)).isNone=true from rfl),Zej hg];simp only;by_cases h1:(hdT ts).kind=1;·rw [Yb h1,Yb h1]; exact Agree.ok HD
 rw [Y9 h1,Y9 h1];by_cases h3:(hdT ts).kind=3;·rw [Yb h3,Yb h3]; exact Agree.ok HD
 rw [Y9 h3,Y9 h3];by_cases h4:(hdT ts).kind=4;·rw [Yb h4,Yb h4]; exact Agree.ok HD
 rw [Y9 h4,Y9 h4];by_cases hc:(hdT ts).kind=2∧Z2o (hdT ts).text≠0
 ·have nt:∀ s,Z2o s=0→Zd s ⟨ts,none⟩=false:=fun s hs=>by
   rw [Z0i];cases hb:isT s ts;·rfl
   ·exact absurd (by rw [Zdn hb]; exact hs) hc.2
  rw [Yb hc.1,Yb hc.2,nt _ (by decide),nt _ (by decide),nt _ (by decide)];simp only [Bool.false_eq_true,if_false];rw [Yb hc];exact Agree.ok HD
 ·have e0:(if (hdT ts).kind=2 then Z2o (hdT ts).text else 0)=0:=by
   by_cases h2:(hdT ts).kind=2
   ·rw [Yb h2];exact Decidable.byContradiction fun h=>hc ⟨h2,h⟩
   ·rw [Y9 h2]
  rw [e0,Y9 (fun h=>h rfl),Y9 hc];refine Agree.isT (fun h=>(I hg).around) fun _=>?_;refine Agree.isT (fun h=>?_) fun _=>?_
  ·show Agree (if (hdT ts.tail).kind = 1 then _ else _) (if (hdT ts.tail).kind = 1 then refF (g + 3) (.func 37 (Zj ⟨ts.tail, none⟩).1) d (Zj ⟨ts.tail, none⟩).2 else refF (g + 3) (.func 37 ByteArray.empty) d ⟨ts.tail, none⟩);by_cases hk : (hdT ts.tail).kind = 1
   ·have ei : Zj ⟨ts.tail, none⟩ = ((hdT ts.tail).text, ⟨ts.tail.tail, none⟩) := by simp [Zj, hk, advR]
    rw [Yb hk,Yb hk,ei];exact (I HD.tail).func 37 _
   ·rw [Y9 hk,Y9 hk];exact (I HD).func 37 _
  refine Agree.isT (fun h=>(I HD).object []) fun _=>Agree.fail
theorem Zhu {f d:Nat} {ts:List Tok} {g:Nat} (hg:Zu ts) (I:∀ {d:Nat} {ts:List Tok},Zu ts→AG f d ts (g + 3)) (I4:∀ {d:Nat} {ts:List Tok},Zu ts→AG f d ts (g + 4)):∀ acc,Agree (Z0 (f + 1) (.object acc) d ts) (Z03 (refF (g + 4) (.props acc) d ⟨ts,none⟩) fun l σ=>some (.mk 38 ByteArray.empty 0 l.kids,σ)):=by
 have HD:=hg.tail;intro acc;rw [Z0,refF];cases hb:isT Zk ts
 ·simp only [Option.isNone_none, Z0i, hb, Bool.not_false, Bool.and_true, if_true, Bool.false_eq_true, if_false]
  refine Z6n (c1:=0 < acc.length) (c2:=acc.length=8) (k:=fun ts=>Z2w ts fun s ts=>Z0p Z2m ts fun ts=>Zx (Z0 f .value d ts) fun v ts=>Z0 f (.object (acc ++ [.mk 39 s 0 [v]])) d ts)
   (m:=fun σ=>Z03 (if σ.f.isNone=true then Z03 (refF (g + 3) .value (d + 1) (Z09 Z2m (Zj σ).2)) fun v σ'=>refF (g + 3) (.props (acc ++ [.mk 39 (Zj σ).1 0 [v]])) d σ' else refF (g + 3) (.props acc) d σ) fun l σ=>some (.mk 38 ByteArray.empty 0 l.kids,σ)) hg decide_eq_true_iff.symm decide_eq_true_iff.symm (fun us _ hg=>?_) fun us e=>?_
  ·rw [Yb (show (none : Option (Int × Nat)).isNone = true from rfl)];refine Agree.name (m := fun s σ => Z03 (Z03 (refF (g + 3) .value (d + 1) (Z09 Z2m σ)) fun v σ' => refF (g + 3) (.props (acc ++ [.mk 39 s 0 [v]])) d σ') fun l σ => some (.mk 38 ByteArray.empty 0 l.kids, σ)) hg (fun s hg => ?_) fun s us e => by rw [Z42, Z8o]; simp only [Z03]; rw [Z75]; exact Z18.mk
   refine Agree.want (m:=fun σ=>Z03 (Z03 (refF (g + 3) .value (d + 1) σ) fun v σ'=>refF (g + 3) (.props (acc ++ [.mk 39 s 0 [v]])) d σ') fun l σ=>some (.mk 38 ByteArray.empty 0 l.kids,σ)) hg (fun hg=>?_) fun us e=>by rw [Z8o]; simp only [Z03]; rw [Z75]; exact Z18.mk
   rw [Z3i];exact ((I hg).value (d:=d)).bind (fun v us hg=>(I hg).object _) fun v us e=>by rw [Z75]; exact Z18.mk
  ·rw [Y9 (show ¬ (some e:Option (Int×Nat)).isNone=true by simp),Z75]; exact Z18.mk
 ·simp only [Option.isNone_none,Z0i,hb,Bool.not_true,Bool.and_false,if_true,Bool.false_eq_true,if_false];unfold Z09;simp only [Option.isNone_none,hb,if_true];exact Agree.ok HD
theorem Z33 {s:ByteArray} {ts:List Tok} (h:isT s ts=true):(∀ s',s≠s'→¬ isT s' ts=true)∧(∀ s',s≠s'→¬ Zd s' ⟨ts,none⟩=true):=
 ⟨fun s' hn=>by rw [Zfy h hn]; simp,fun s' hn=>by rw [Z0i,Zfy h hn]; simp⟩
theorem Z3n {s:ByteArray} {ts:List Tok} (h:isT s ts=true):Z3s ⟨ts,none⟩=if s=Z19 then 2 else if s=Z1a then 3 else if s=Z02 then 4 else 0:=by
 have e:∀ s',isT s' ts=decide (s=s'):=fun s'=>by
  by_cases hs:s=s';·rw [← hs,h]; simp
  ·rw [Zfy h hs]; simp [hs]
 unfold Z3s;rw [Z0i,Z0i,Z0i,e,e,e];simp only [decide_eq_true_eq]
theorem Zhb {f d:Nat} {ts:List Tok} {g:Nat} (hg:Zu ts) (hd:d≤30) (I:∀ {d:Nat} {ts:List Tok},Zu ts→AG f d ts (g + 3)) (I2:∀ {d:Nat} {ts:List Tok},Zu ts→AG f d ts (g + 2)) (h:isT Zb ts=true):Agree (Z0 (f + 1) .stmt d ts) (refF (g + 4) .stmt d ⟨ts,none⟩):=by
 have HD:=hg.tail;obtain ⟨n,m⟩:=Z33 h;have y:Zd Zb ⟨ts,none⟩=true:=by rw [Z0i]; exact h
 rw [Z0,refF];simp only [];rw [Yb h];rw [Y9 (show ¬ 30 < d by omega),Yb y];exact (I hg).block false
theorem Zjv {f d:Nat} {ts:List Tok} {g:Nat} (hg:Zu ts) (hd:d≤30) (I:∀ {d:Nat} {ts:List Tok},Zu ts→AG f d ts (g + 3)) (I2:∀ {d:Nat} {ts:List Tok},Zu ts→AG f d ts (g + 2)) (h:isT Zg ts=true):Agree (Z0 (f + 1) .stmt d ts) (refF (g + 4) .stmt d ⟨ts,none⟩):=by
 have HD:=hg.tail;obtain ⟨n,m⟩:=Z33 h;have y:Zd Zg ⟨ts,none⟩=true:=by rw [Z0i]; exact h
 rw [Z0,refF];simp only [];rw [Y9 (n Zb (by decide)),Yb h];rw [Y9 (show ¬ 30 < d by omega),Y9 (m Zb (by decide)),Yb y];exact Agree.ok HD
theorem Zky {f d:Nat} {ts:List Tok} {g:Nat} (hg:Zu ts) (hd:d≤30) (I:∀ {d:Nat} {ts:List Tok},Zu ts→AG f d ts (g + 3)) (I2:∀ {d:Nat} {ts:List Tok},Zu ts→AG f d ts (g + 2)) (h:isT Z19 ts=true):Agree (Z0 (f + 1) .stmt d ts) (refF (g + 4) .stmt d ⟨ts,none⟩):=by
 have HD:=hg.tail;obtain ⟨n,m⟩:=Z33 h;have y:Zd Z19 ⟨ts,none⟩=true:=by rw [Z0i]; exact h
 have dk:=Z3n h;rw [show (if Z19=Z19 then (2:Int) else if Z19=Z1a then 3 else if Z19=Z02 then 4 else 0)=2 from by decide] at dk;rw [Z0,refF];simp only [];rw [Y9 (n Zb (by decide)),Y9 (n Zg (by decide)),Yb h];rw [Y9 (show ¬ 30 < d by omega),Y9 (m Zb (by decide)),Y9 (m Zg (by decide)),Y9 (m Z9 (by decide)),Y9 (m s_if (by decide)),Y9 (show ¬ (Zd Zv ⟨ts,none⟩ || Zd Z04 ⟨ts,none⟩)=true by rw [Bool.or_eq_true,not_or]; exact ⟨(m Zv (by decide)),(m Z04 (by decide))⟩),Y9 (m Z23 (by decide)),dk,Yb (by decide)];exact (I HD).decl 2
theorem Zki {f d:Nat} {ts:List Tok} {g:Nat} (hg:Zu ts) (hd:d≤30) (I:∀ {d:Nat} {ts:List Tok},Zu ts→AG f d ts (g + 3)) (I2:∀ {d:Nat} {ts:List Tok},Zu ts→AG f d ts (g + 2)) (h:isT Z1a ts=true):Agree (Z0 (f + 1) .stmt d ts) (refF (g + 4) .stmt d ⟨ts,none⟩):=by
 have HD:=hg.tail;obtain ⟨n,m⟩:=Z33 h;have y:Zd Z1a ⟨ts,none⟩=true:=by rw [Z0i]; exact h
 have dk:=Z3n h;rw [show (if Z1a=Z19 then (2:Int) else if Z1a=Z1a then 3 else if Z1a=Z02 then 4 else 0)=3 from by decide] at dk;rw [Z0,refF];simp only [];rw [Y9 (n Zb (by decide)),Y9 (n Zg (by decide)),Y9 (n Z19 (by decide)),Yb h]
 rw [Y9 (show ¬ 30 < d by omega),Y9 (m Zb (by decide)),Y9 (m Zg (by decide)),Y9 (m Z9 (by decide)),Y9 (m s_if (by decide)),Y9 (show ¬ (Zd Zv ⟨ts,none⟩ || Zd Z04 ⟨ts,none⟩)=true by rw [Bool.or_eq_true,not_or]; exact ⟨(m Zv (by decide)),(m Z04 (by decide))⟩),Y9 (m Z23 (by decide)),dk,Yb (by decide)];exact (I HD).decl 3
theorem Zj2 {f d:Nat} {ts:List Tok} {g:Nat} (hg:Zu ts) (hd:d≤30) (I:∀ {d:Nat} {ts:List Tok},Zu ts→AG f d ts (g + 3)) (I2:∀ {d:Nat} {ts:List Tok},Zu ts→AG f d ts (g + 2)) (h:isT Z02 ts=true):Agree (Z0 (f + 1) .stmt d ts) (refF (g + 4) .stmt d ⟨ts,none⟩):=by
 have HD:=hg.tail;obtain ⟨n,m⟩:=Z33 h;have y:Zd Z02 ⟨ts,none⟩=true:=by rw [Z0i]; exact h
 have dk:=Z3n h;rw [show (if Z02=Z19 then (2:Int) else if Z02=Z1a then 3 else if Z02=Z02 then 4 else 0)=4 from by decide] at dk;rw [Z0,refF];simp only [];rw [Y9 (n Zb (by decide)),Y9 (n Zg (by decide)),Y9 (n Z19 (by decide)),Y9 (n Z1a (by decide)),Yb h]
 rw [Y9 (show ¬ 30 < d by omega),Y9 (m Zb (by decide)),Y9 (m Zg (by decide)),Y9 (m Z9 (by decide)),Y9 (m s_if (by decide)),Y9 (show ¬ (Zd Zv ⟨ts,none⟩ || Zd Z04 ⟨ts,none⟩)=true by rw [Bool.or_eq_true,not_or]; exact ⟨(m Zv (by decide)),(m Z04 (by decide))⟩),Y9 (m Z23 (by decide)),dk,Yb (by decide)];exact (I HD).decl 4
theorem Zde {f d:Nat} {ts:List Tok} {g:Nat} (hg:Zu ts) (hd:d≤30) (I:∀ {d:Nat} {ts:List Tok},Zu ts→AG f d ts (g + 3)) (I2:∀ {d:Nat} {ts:List Tok},Zu ts→AG f d ts (g + 2)) (h:isT Z9 ts=true):Agree (Z0 (f + 1) .stmt d ts) (refF (g + 4) .stmt d ⟨ts,none⟩):=by
 have HD:=hg.tail;obtain ⟨n,m⟩:=Z33 h;have y:Zd Z9 ⟨ts,none⟩=true:=by rw [Z0i]; exact h
 have dk:=Z3n h;rw [show (if Z9=Z19 then (2:Int) else if Z9=Z1a then 3 else if Z9=Z02 then 4 else 0)=0 from by decide] at dk;rw [Z0,refF];simp only [];rw [Y9 (n Zb (by decide)),Y9 (n Zg (by decide)),Y9 (n Z19 (by decide)),Y9 (n Z1a (by decide)),Y9 (n Z02 (by decide)),Yb h];rw [Y9 (show ¬ 30 < d by omega),Y9 (m Zb (by decide)),Y9 (m Zg (by decide)),Yb y];exact Agree.name (m:=fun s σ=>refF (g + 3) (.func 5 s) d σ) HD (fun s hg=>(I hg).func 5 s) fun s ts e=>Zia ..
theorem Zl3 {f d:Nat} {ts:List Tok} {g:Nat} (hg:Zu ts) (hd:d≤30) (I:∀ {d:Nat} {ts:List Tok},Zu ts→AG f d ts (g + 3)) (I2:∀ {d:Nat} {ts:List Tok},Zu ts→AG f d ts (g + 2)) (h:isT s_if ts=true):Agree (Z0 (f + 1) .stmt d ts) (refF (g + 4) .stmt d ⟨ts,none⟩):=by
 have HD:=hg.tail;obtain ⟨n,m⟩:=Z33 h;have y:Zd s_if ⟨ts,none⟩=true:=by rw [Z0i]; exact h
 have dk:=Z3n h;rw [show (if s_if=Z19 then (2:Int) else if s_if=Z1a then 3 else if s_if=Z02 then 4 else 0)=0 from by decide] at dk;rw [Z0,refF];simp only [];rw [Y9 (n Zb (by decide)),Y9 (n Zg (by decide)),Y9 (n Z19 (by decide)),Y9 (n Z1a (by decide)),Y9 (n Z02 (by decide)),Y9 (n Z9 (by decide)),Yb h];rw [Y9 (show ¬ 30 < d by omega),Y9 (m Zb (by decide)),Y9 (m Zg (by decide)),Y9 (m Z9 (by decide)),Yb y]
 refine ((I HD).around (d:=d)).bind (fun x us hg=>?_) fun t ts e=>by rw [Z8k]; simp only [Z03]; rw [Y9 (by simp [Z4m])]; exact Z18.mk
 refine (Z4i fun h=>(I2 hg).stmt h).bind (fun y us hg=>?_) fun t ts e=>by rw [Y9 (by simp [Z4m])]; exact Z18.mk
 refine Agree.isT (fun h=>?_) fun _=>Agree.ok hg;exact (Z4i fun h=>(I2 hg.tail).stmt h).bind (fun z us hg=>Agree.ok hg) fun t ts e=>Z18.mk
theorem Zi6 {f d:Nat} {ts:List Tok} {g:Nat} (hg:Zu ts) (hd:d≤30) (I:∀ {d:Nat} {ts:List Tok},Zu ts→AG f d ts (g + 3)) (I2:∀ {d:Nat} {ts:List Tok},Zu ts→AG f d ts (g + 2)) (h:isT Zv ts=true):Agree (Z0 (f + 1) .stmt d ts) (refF (g + 4) .stmt d ⟨ts,none⟩):=by
 have HD:=hg.tail;obtain ⟨n,m⟩:=Z33 h;have y:Zd Zv ⟨ts,none⟩=true:=by rw [Z0i]; exact h
 have dk:=Z3n h;rw [show (if Zv=Z19 then (2:Int) else if Zv=Z1a then 3 else if Zv=Z02 then 4 else 0)=0 from by decide] at dk;rw [Z0,refF];simp only [];rw [Y9 (n Zb (by decide)),Y9 (n Zg (by decide)),Y9 (n Z19 (by decide)),Y9 (n Z1a (by decide)),Y9 (n Z02 (by decide)),Y9 (n Z9 (by decide)),Y9 (n s_if (by decide)),Yb h];rw [Y9 (show ¬ 30 < d by omega),Y9 (m Zb (by decide)),Y9 (m Zg (by decide)),Y9 (m Z9 (by decide)),Y9 (m s_if (by decide)),Yb (by rw [Bool.or_eq_true]; exact .inl y)]
 refine ((I HD).around (d:=d)).bind (fun x us hg=>?_) fun t ts e=>by rw [Z8k]; exact Z18.mk
 rw [Y9 (m Z04 (by decide))];exact (Z4i fun h=>(I2 hg).stmt h).bind (fun y us hg=>Agree.ok hg) fun t ts e=>Z18.mk
theorem Zjz {f d:Nat} {ts:List Tok} {g:Nat} (hg:Zu ts) (hd:d≤30) (I:∀ {d:Nat} {ts:List Tok},Zu ts→AG f d ts (g + 3)) (I2:∀ {d:Nat} {ts:List Tok},Zu ts→AG f d ts (g + 2)) (h:isT Z04 ts=true):Agree (Z0 (f + 1) .stmt d ts) (refF (g + 4) .stmt d ⟨ts,none⟩):=by
 have HD:=hg.tail;obtain ⟨n,m⟩:=Z33 h;have y:Zd Z04 ⟨ts,none⟩=true:=by rw [Z0i]; exact h
 have dk:=Z3n h;rw [show (if Z04=Z19 then (2:Int) else if Z04=Z1a then 3 else if Z04=Z02 then 4 else 0)=0 from by decide] at dk;rw [Z0,refF];simp only [];rw [Y9 (n Zb (by decide)),Y9 (n Zg (by decide)),Y9 (n Z19 (by decide)),Y9 (n Z1a (by decide)),Y9 (n Z02 (by decide)),Y9 (n Z9 (by decide)),Y9 (n s_if (by decide)),Y9 (n Zv (by decide)),Yb h];rw [Y9 (show ¬ 30 < d by omega),Y9 (m Zb (by decide)),Y9 (m Zg (by decide)),Y9 (m Z9 (by decide)),Y9 (m s_if (by decide)),Yb (by rw [Bool.or_eq_true]; exact .inr y)]
 refine ((I HD).around (d:=d)).bind (fun x us hg=>?_) fun t ts e=>by rw [Z8k]; exact Z18.mk
 rw [Yb y];exact (Z4i fun h=>(I2 hg).stmt h).bind (fun y us hg=>Agree.ok hg) fun t ts e=>Z18.mk
theorem Zht {f d:Nat} {ts:List Tok} {g:Nat} (hg:Zu ts) (hd:d≤30) (I:∀ {d:Nat} {ts:List Tok},Zu ts→AG f d ts (g + 3)) (I2:∀ {d:Nat} {ts:List Tok},Zu ts→AG f d ts (g + 2)) (h:isT Z0d ts=true):Agree (Z0 (f + 1) .stmt d ts) (refF (g + 4) .stmt d ⟨ts,none⟩):=by
 have HD:=hg.tail;obtain ⟨n,m⟩:=Z33 h;have y:Zd Z0d ⟨ts,none⟩=true:=by rw [Z0i]; exact h
 have dk:=Z3n h;rw [show (if Z0d=Z19 then (2:Int) else if Z0d=Z1a then 3 else if Z0d=Z02 then 4 else 0)=0 from by decide] at dk;rw [Z0,refF];simp only [];rw [Y9 (n Zb (by decide)),Y9 (n Zg (by decide)),Y9 (n Z19 (by decide)),Y9 (n Z1a (by decide)),Y9 (n Z02 (by decide)),Y9 (n Z9 (by decide)),Y9 (n s_if (by decide)),Y9 (n Zv (by decide)),Y9 (n Z04 (by decide)),Yb h]
 rw [Y9 (show ¬ 30 < d by omega),Y9 (m Zb (by decide)),Y9 (m Zg (by decide)),Y9 (m Z9 (by decide)),Y9 (m s_if (by decide)),Y9 (show ¬ (Zd Zv ⟨ts,none⟩ || Zd Z04 ⟨ts,none⟩)=true by rw [Bool.or_eq_true,not_or]; exact ⟨(m Zv (by decide)),(m Z04 (by decide))⟩),Y9 (m Z23 (by decide)),Y9 (show ¬ Z3s ⟨ts,none⟩≠0 from fun e=>e dk),Yb y];refine Agree.isT (fun h=>Z44 HD) fun _=>?_;exact ((I HD).value (d:=d)).bind (fun x us hg=>Z44 hg) fun t ts e=>Z8c
theorem Ziw {f d:Nat} {ts:List Tok} {g:Nat} (hg:Zu ts) (hd:d≤30) (I:∀ {d:Nat} {ts:List Tok},Zu ts→AG f d ts (g + 3)) (I2:∀ {d:Nat} {ts:List Tok},Zu ts→AG f d ts (g + 2)) (h:isT Z1h ts=true):Agree (Z0 (f + 1) .stmt d ts) (refF (g + 4) .stmt d ⟨ts,none⟩):=by
 have HD:=hg.tail;obtain ⟨n,m⟩:=Z33 h;have y:Zd Z1h ⟨ts,none⟩=true:=by rw [Z0i]; exact h
 have dk:=Z3n h;rw [show (if Z1h=Z19 then (2:Int) else if Z1h=Z1a then 3 else if Z1h=Z02 then 4 else 0)=0 from by decide] at dk;rw [Z0,refF];simp only [];rw [Y9 (n Zb (by decide)),Y9 (n Zg (by decide)),Y9 (n Z19 (by decide)),Y9 (n Z1a (by decide)),Y9 (n Z02 (by decide)),Y9 (n Z9 (by decide)),Y9 (n s_if (by decide)),Y9 (n Zv (by decide)),Y9 (n Z04 (by decide)),Y9 (n Z0d (by decide)),Yb h]
 rw [Y9 (show ¬ 30 < d by omega),Y9 (m Zb (by decide)),Y9 (m Zg (by decide)),Y9 (m Z9 (by decide)),Y9 (m s_if (by decide)),Y9 (show ¬ (Zd Zv ⟨ts,none⟩ || Zd Z04 ⟨ts,none⟩)=true by rw [Bool.or_eq_true,not_or]; exact ⟨(m Zv (by decide)),(m Z04 (by decide))⟩),Y9 (m Z23 (by decide)),Y9 (show ¬ Z3s ⟨ts,none⟩≠0 from fun e=>e dk),Y9 (m Z0d (by decide)),Yb y];exact ((I HD).value (d:=d)).bind (fun x us hg=>Z44 hg) fun t ts e=>Z8c
theorem Zkl {f d:Nat} {ts:List Tok} {g:Nat} (hg:Zu ts) (hd:d≤30) (I:∀ {d:Nat} {ts:List Tok},Zu ts→AG f d ts (g + 3)) (I2:∀ {d:Nat} {ts:List Tok},Zu ts→AG f d ts (g + 2)) (h:isT Z23 ts=true):Agree (Z0 (f + 1) .stmt d ts) (refF (g + 4) .stmt d ⟨ts,none⟩):=by
 have HD:=hg.tail;obtain ⟨n,m⟩:=Z33 h;have y:Zd Z23 ⟨ts,none⟩=true:=by rw [Z0i]; exact h
 have dk:=Z3n h;rw [show (if Z23=Z19 then (2:Int) else if Z23=Z1a then 3 else if Z23=Z02 then 4 else 0)=0 from by decide] at dk;rw [Z0,refF];simp only [];rw [Y9 (n Zb (by decide)),Y9 (n Zg (by decide)),Y9 (n Z19 (by decide)),Y9 (n Z1a (by decide)),Y9 (n Z02 (by decide)),Y9 (n Z9 (by decide)),Y9 (n s_if (by decide)),Y9 (n Zv (by decide)),Y9 (n Z04 (by decide)),Y9 (n Z0d (by decide)),Y9 (n Z1h (by decide)),Yb h]
 rw [Y9 (show ¬ 30 < d by omega),Y9 (m Zb (by decide)),Y9 (m Zg (by decide)),Y9 (m Z9 (by decide)),Y9 (m s_if (by decide)),Y9 (show ¬ (Zd Zv ⟨ts,none⟩ || Zd Z04 ⟨ts,none⟩)=true by rw [Bool.or_eq_true,not_or]; exact ⟨(m Zv (by decide)),(m Z04 (by decide))⟩),Yb y];exact (I HD).try_
theorem Zk9 {f d:Nat} {ts:List Tok} {g:Nat} (hg:Zu ts) (hd:d≤30) (I:∀ {d:Nat} {ts:List Tok},Zu ts→AG f d ts (g + 3)) (I2:∀ {d:Nat} {ts:List Tok},Zu ts→AG f d ts (g + 2)):Agree (Z0 (f + 1) .stmt d ts) (refF (g + 4) .stmt d ⟨ts,none⟩):=by
 by_cases h_lbrace:isT Zb ts=true;·exact Zhb hg hd I I2 h_lbrace
 by_cases h_semi:isT Zg ts=true;·exact Zjv hg hd I I2 h_semi
 by_cases h_var:isT Z19 ts=true;·exact Zky hg hd I I2 h_var
 by_cases h_let:isT Z1a ts=true;·exact Zki hg hd I I2 h_let
 by_cases h_const:isT Z02 ts=true;·exact Zj2 hg hd I I2 h_const
 by_cases h_function:isT Z9 ts=true;·exact Zde hg hd I I2 h_function
 by_cases h_if:isT s_if ts=true;·exact Zl3 hg hd I I2 h_if
 by_cases h_while:isT Zv ts=true;·exact Zi6 hg hd I I2 h_while
 by_cases h_with:isT Z04 ts=true;·exact Zjz hg hd I I2 h_with
 by_cases h_return:isT Z0d ts=true;·exact Zht hg hd I I2 h_return
 by_cases h_throw:isT Z1h ts=true;·exact Ziw hg hd I I2 h_throw
 by_cases h_try:isT Z23 ts=true;·exact Zkl hg hd I I2 h_try
 have m:∀ s,¬ isT s ts=true→¬ Zd s ⟨ts,none⟩=true:=fun s h=>by rw [Z0i]; exact h
 have dk:Z3s ⟨ts,none⟩=0:=by unfold Z3s; rw [Z0i,Z0i,Z0i,Y9 h_var,Y9 h_let,Y9 h_const]
 rw [Z0,refF];rw [Y9 h_lbrace,Y9 h_semi,Y9 h_var,Y9 h_let,Y9 h_const,Y9 h_function,Y9 h_if,Y9 h_while,Y9 h_with,Y9 h_return,Y9 h_throw,Y9 h_try];rw [Y9 (show ¬ 30 < d by omega),Y9 (m _ h_lbrace),Y9 (m _ h_semi),Y9 (m _ h_function),Y9 (m _ h_if),Y9 (show ¬ (Zd Zv ⟨ts,none⟩ || Zd Z04 ⟨ts,none⟩)=true by rw [Bool.or_eq_true,not_or]; exact ⟨m _ h_while,m _ h_with⟩),Y9 (m _ h_try),Y9 (show ¬ Z3s ⟨ts,none⟩≠0 from fun e=>e dk),Y9 (m _ h_return),Y9 (m _ h_throw)]
 exact ((I hg).value (d:=d)).bind (fun x us hg=>Z44 hg) fun t ts e=>Z8c
theorem agree:∀ (f d:Nat) (ts:List Tok),Zu ts→∀ g,2 * f + 8≤g→AG f d ts g:=by
 intro f;induction f with
 | zero=>intro d ts hg g hf; constructor <;> intros <;> trivial
 | succ f ih =>
   intro d ts hg g hf;obtain ⟨g,rfl⟩:∃ g',g=g' + 4:=⟨g - 4,by omega⟩
   have I:∀ {d ts},Zu ts→AG f d ts (g + 3):=fun h=>ih _ _ h _ (by omega);have I2:∀ {d ts},Zu ts→AG f d ts (g + 2):=fun h=>ih _ _ h _ (by omega);have I4:∀ {d ts},Zu ts→AG f d ts (g + 4):=fun h=>ih _ _ h _ (by omega);constructor;case prog=>exact Zju hg I I4
   case stmts=>exact Zil hg I I4
   case block=>exact Zik hg I I4
   case func=>exact Zkc hg I I4
   case params=>exact Zgm hg I I4
   case around=>exact Zh5 hg I I4
   case stmt=>exact fun hd=>Zk9 hg hd I I2
   case decl=>exact Zjt hg I I4
   case try_=>exact Zka hg I I4
   case value=>exact Zit hg I I4
   case assign=>exact Zhf hg I I4
   case bin=>exact Zkx hg I I4
   case binLoop=>exact Zf1 hg I I4
   case unary=>exact Zi2 hg I I4
   case postfix_=>exact Zcq hg I I4
   case postLoop=>exact Zcl hg I I4
   case args=>exact Zjk hg I I4
   case primary=>exact Ze6 hg I I4
   case object=>exact Zhu hg I I4
end Go.Proofs.YtmjfllklcpjddaaGreatDoor
namespace Go.Proofs.YtmjfllklcpjddaaGreatDoor
open Go Go.RowKit Go.Maps
set_option maxRecDepth 100000
set_option maxHeartbeats 20000000
set_option linter.unusedVariables false
theorem Zib (w:World) (s:ByteArray) (hlen:s.size≤maxLen) (c0:Int) (hc:(litD Zj6).atKey (.string s.data.toList) (.lit (.int .i64 0))=.lit (.int .i64 c0)) :
 Calls Tryz.prog 135 #[.string s] w fun e w'=>e=.returned (.int .i64 c0)∧Below w.heap.size w w':=by
 have hmm:=@run_makeMap Tryz.prog;have h0:=World.ownsMap_made (H:=Unit) w Tryz.prog 9 (plainElem Tryz.prog 3);have hB0:Below w.heap.size w (w.alloc (.map #[] 0)):=(Y8 _ _).alloc (Y5 _) _;have HL:=lh hlen;have HC:=lh hc;clear hlen hc;go_enter Tryz.func135,Tryz.ntmps135
 go_wp2_with (first | (refine Z7 _ rfl _ _ _ 88 rfl 9 3 Tryz.keyedS Tryz.underlying88 _ _ 0 _ rfl h0 (by unfold maxLen; omega) _ _ _ rfl rfl (Yw Yr (by decide)) _ [] (plainElem_int Ys (by decide)) ?_; intro w1 h1 g1) | (refine Z7 _ rfl _ _ _ 88 rfl 9 3 Tryz.keyedS Tryz.underlying88 _ _ 1 _ rfl h1 (by unfold maxLen; omega) _ _ _ rfl rfl (Yw Yr (by decide)) _ [] (plainElem_int Ys (by decide)) ?_; intro w2 h2 g2) | (refine Z7 _ rfl _ _ _ 88 rfl 9 3 Tryz.keyedS Tryz.underlying88 _ _ 2 _ rfl h2 (by unfold maxLen; omega) _ _ _ rfl rfl (Yw Yr (by decide)) _ [] (plainElem_int Ys (by decide)) ?_; intro w3 h3 g3) | (refine Z7 _ rfl _ _ _ 88 rfl 9 3 Tryz.keyedS Tryz.underlying88 _ _ 3 _ rfl h3 (by unfold maxLen; omega) _ _ _ rfl rfl (Yw Yr (by decide)) _ [] (plainElem_int Ys (by decide)) ?_; intro w4 h4 g4) | (refine Z7 _ rfl _ _ _ 88 rfl 9 3 Tryz.keyedS Tryz.underlying88 _ _ 4 _ rfl h4 (by unfold maxLen; omega) _ _ _ rfl rfl (Yw Yr (by decide)) _ [] (plainElem_int Ys (by decide)) ?_; intro w5 h5 g5) | (refine Z7 _ rfl _ _ _ 88 rfl 9 3 Tryz.keyedS Tryz.underlying88 _ _ 5 _ rfl h5 (by unfold maxLen; omega) _ _ _ rfl rfl (Yw Yr (by decide)) _ [] (plainElem_int Ys (by decide)) ?_; intro w6 h6 g6) | (refine Z7 _ rfl _ _ _ 88 rfl 9 3 Tryz.keyedS Tryz.underlying88 _ _ 6 _ rfl h6 (by unfold maxLen; omega) _ _ _ rfl rfl (Yw Yr (by decide)) _ [] (plainElem_int Ys (by decide)) ?_; intro w7 h7 g7) | (at_lookup; refine wpList_lookup_own_int _ rfl _ _ 88 rfl 9 3 .i64 Tryz.keyedS Tryz.underlying88 Ys (Tryz.zeroI _) _ 7 _ rfl h7 _ _ rfl (Yw Yr HL.out) ?_; intro c hat hwc))
 go_ret;have e:=HC.out.symm.trans hat;obtain rfl:c0=c:=by
  have:(DataW.lit (.int .i64 c0):DataW Unit)=.lit (.int .i64 c):=e;simpa using this
 have s0:w.heap.size≤(w.alloc (.map #[] 0)).heap.size:=hB0.size;have B1:=Zo hB0 g1 (Y5 _) s0;have B2:=Zo B1 g2 (Y5 _) B1.size;have B3:=Zo B2 g3 (Y5 _) B2.size;have B4:=Zo B3 g4 (Y5 _) B3.size;have B5:=Zo B4 g5 (Y5 _) B4.size;have B6:=Zo B5 g6 (Y5 _) B5.size;exact ⟨rfl,Zo B6 g7 (Y5 _) B6.size⟩
theorem Zjo (w:World) (s:ByteArray) (hs:Z2v s≠0):Calls Tryz.prog 135 #[.string s] w fun e w'=>e=.returned (.int .i64 (Z2v s))∧Below w.heap.size w w':=by
 have key:s=s_or∨s=Z67∨s=Z3w∨s=Z41∨s=Z4f∨s=Z54∨s=Z66:=by
  unfold Z2v Z0n at hs;simp only [decide_eq_true_eq] at hs;by_cases h1:s=s_or;·exact .inl h1
  by_cases h2:s=Z67;·exact .inr (.inl h2)
  by_cases h3:s=Z3w;·exact .inr (.inr (.inl h3))
  by_cases h4:s=Z41;·exact .inr (.inr (.inr (.inl h4)))
  by_cases h5:s=Z4f;·exact .inr (.inr (.inr (.inr (.inl h5))))
  by_cases h6:s=Z54;·exact .inr (.inr (.inr (.inr (.inr (.inl h6)))))
  by_cases h7:s=Z66;·exact .inr (.inr (.inr (.inr (.inr (.inr h7)))))
  simp [h1,h2,h3,h4,h5,h6,h7] at hs
 rcases key with rfl | rfl | rfl | rfl | rfl | rfl | rfl;all_goals exact Zib w _ (by decide) _ (by kernel_rfl)
end Go.Proofs.YtmjfllklcpjddaaGreatDoor
