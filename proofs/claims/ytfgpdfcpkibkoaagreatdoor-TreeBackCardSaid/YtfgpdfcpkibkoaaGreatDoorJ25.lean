/- Package tree, plain: a program's text is read back: values. -/
import Derived.Test.YtfgpdfcpkibkoaaGreatDoorJ10
namespace Go.Proofs.YtfgpdfcpkibkoaaGreatDoor
open Go Go.RowKit
set_option maxRecDepth 100000
set_option linter.unusedVariables false
def Mt:List (Int×ByteArray×Int)→List Tok→List Tok→Prop
 | [],ts,us=>ts=us
 | a :: l,ts,us=>∃ t r,ts=t :: r∧t.st=a∧Mt l r us
def Mp (ps:List Pc) (ts us:List Tok):Prop:=Mt (ps.filterMap Pc.tok) ts us
section
variable {l m:List Pc} {ts us:List Tok} {c:UInt8} {s:ByteArray} {k n:Int}
theorem Mt.app:∀ {l m:List (Int×ByteArray×Int)} {ts us:List Tok},Mt (l ++ m) ts us→∃ vs,Mt l ts vs∧Mt m vs us
 | [],m,ts,us,h=>⟨ts,rfl,h⟩
 | a :: l, m, ts, us, ⟨t, r, h1, h2, h3⟩ => by
   obtain ⟨vs,g1,g2⟩:=Mt.app (l:=l) h3;exact ⟨vs,⟨t,r,h1,h2,g1⟩,g2⟩
theorem Mp.app (h:Mp (l ++ m) ts us):∃ vs,Mp l ts vs∧Mp m vs us:=by
 unfold Mp at h;rw [List.filterMap_append] at h;exact Mt.app h
theorem Mp.sp (h:Mp (.sp c :: l) ts us):Mp l ts us:=h
theorem Mp.t (h:Mp (.t k s n :: l) ts us):(hdT ts).kind=k∧(hdT ts).text=s∧(hdT ts).n=n∧Mp l ts.tail us:=by
 obtain ⟨t,r,rfl,h2,h3⟩:=h;simp only [Tok.st,Prod.mk.injEq] at h2;exact ⟨h2.1,h2.2.1,h2.2.2,h3⟩
theorem Z4q (h:(hdT ts).kind=k) (h2:(hdT ts).text=s) (hk:k=5∨k=2) (s':ByteArray):isT s' ts=Z0h s s':=by
 unfold isT;rw [h,h2];rcases hk with rfl | rfl <;> simp
theorem Z5t (h:(hdT ts).kind=k) (hk:k≠5∧k≠2) (s':ByteArray):isT s' ts=false:=by
 unfold isT;rw [h];simp [hk.1,hk.2]
theorem Mp.sgt (h:Mp (.t 5 s n :: l) ts us):(hdT ts).kind=5∧(∀ s',isT s' ts=Z0h s s')∧Mp l ts.tail us:=⟨h.t.1,Z4q h.t.1 h.t.2.1 (.inl rfl),h.t.2.2.2⟩
theorem Mp.wd (h:Mp (wd s :: l) ts us):(hdT ts).kind=2∧(∀ s',isT s' ts=Z0h s s')∧Mp l ts.tail us:=⟨h.t.1,Z4q h.t.1 h.t.2.1 (.inr rfl),h.t.2.2.2⟩
theorem Mp.nm (h:Mp (nm s :: l) ts us):(hdT ts).kind=1∧(hdT ts).text=s∧(∀ s',isT s' ts=false)∧Mp l ts.tail us:=⟨h.t.1,h.t.2.1,Z5t h.t.1 (by omega),h.t.2.2.2⟩
end
def Lim (y:Except (Int×Nat) (Tree×List Tok)):Prop:=∃ p,y=.error (4,p)
def Gt (p:PR) (Q:Except (Int×Nat) (Tree×List Tok)→Prop):Prop:=∀ y,p=some y→Lim y∨Q y
def OkQ (x:Tree) (us:List Tok):Except (Int×Nat) (Tree×List Tok)→Prop:=fun y=>y=.ok (x,us)
def CoQ (job:Job) (d:Nat) (us:List Tok):Except (Int×Nat) (Tree×List Tok)→Prop:=fun y=>∃ f,Z0 f job d us=some y
section
variable {p q:PR} {Q:Except (Int×Nat) (Tree×List Tok)→Prop} {x:Tree} {ts us:List Tok} {d f:Nat} {job:Job}
theorem Gt.bind {k:Tree→List Tok→PR} (h:Gt p (OkQ x us)) (hk:Gt (k x us) Q):Gt (Z02 p k) Q:=by
 intro y hy;cases p with
 | none=>cases hy
 | some r =>
   rcases h r rfl with ⟨e,rfl⟩ | rfl;·left; cases hy; exact ⟨e,rfl⟩
   ·exact hk y hy
theorem Gt.ok:Gt (okT x us) (OkQ x us):=fun y hy=>.inr (Yc hy).symm
theorem Gt.lim:Gt (Z1v 4 ts) Q:=fun y hy=>.inl ⟨_,(Yc hy).symm⟩
theorem Gt.within (h:Gt p Q):Gt (Z0i d ts p) Q:=by
 unfold Z0i;split;·exact .lim
 ·exact h
theorem Gt.want {s:ByteArray} {k:List Tok→PR} (hi:isT s ts=true) (h:Gt (k ts.tail) Q):Gt (Z0s s ts k) Q:=by unfold Z0s; rw [Y5 hi]; exact h
theorem Gt.name {s:ByteArray} {k:ByteArray→List Tok→PR} (hk:(hdT ts).kind=1) (ht:(hdT ts).text=s) (h:Gt (k s ts.tail) Q):Gt (Z1w ts k) Q:=by unfold Z1w; rw [Y5 hk,ht]; exact h
theorem Gt.pos {c:Prop} [Decidable c] (hc:c) (h:Gt p Q):Gt (if c then p else q) Q:=by rw [Y5 hc]; exact h
theorem Gt.neg {c:Prop} [Decidable c] (hc:¬ c) (h:Gt q Q):Gt (if c then p else q) Q:=by rw [Y3 hc]; exact h
theorem Gt.no {b:Bool} (hc:b=false) (h:Gt q Q):Gt (if b=true then p else q) Q:=by rw [Y3 (by rw [hc]; simp)]; exact h
theorem Gt.limIf {c:Prop} [Decidable c] (h:Gt q Q):Gt (if c then Z1v 4 ts else q) Q:=by
 split;·exact .lim
 ·exact h
theorem Gt.end' (hi:isT Z1l ts=true):Gt (endT x ts) (OkQ x ts.tail):=Gt.want hi .ok
theorem Gt.co (h:Gt p (CoQ job d us)) (hj:∀ f,Gt (Z0 f job d us) Q):Gt p Q:=fun y hy=>(h y hy).elim .inl fun ⟨f,hf⟩=>hj f y hf
theorem Gt.self:Gt (Z0 f job d us) (CoQ job d us):=fun y hy=>.inr ⟨f,hy⟩
theorem Gt.fu (h:∀ g,Gt (Z0 (g + 1) job d ts) Q):∀ f,Gt (Z0 f job d ts) Q
 | 0=>fun y hy=>by unfold Z0 at hy; cases hy
 | g + 1=>h g
end
structure Fol (n:Nat) (us:List Tok):Prop where
 op:∀ l,n≤l→l < 6→Z0x l us=0
 pt:n≤7→isT Z6w us=false∧isT Z0z us=false
 eq:n=0→isT s_eq us=false
theorem Fol.up {n m:Nat} {us:List Tok} (h:Fol n us) (hm:n≤m):Fol m us:=⟨fun l h1 h2=>h.op l (by omega) h2,fun h1=>h.pt (by omega),fun h1=>h.eq (by omega)⟩
theorem Fol.sign {us:List Tok} {a:ByteArray} (h:∀ s,isT s us=Z0h a s) (ha:a=Z0y∨a=Z0p∨a=Z1l∨a=Zw):Fol 0 us:=by
 refine ⟨fun l _ hl=>?_,fun _=>?_,fun _=>?_⟩
 ·unfold Z0x;simp only [h];rcases ha with rfl | rfl | rfl | rfl <;> (split <;> decide)
 ·rw [h,h];rcases ha with rfl | rfl | rfl | rfl <;> decide
 ·rw [h];rcases ha with rfl | rfl | rfl | rfl <;> decide
def C9 (B:List Pc) (x:Tree):Prop:=∀ f d ts us,Mp B ts us→Gt (Z0 f .primary d ts) (OkQ x us)
def C8 (B:List Pc) (x:Tree):Prop:=∀ f d ts us,Mp B ts us→Gt (Z0 f .postfix_ d ts) (CoQ (.postLoop x) d us)
def C7 (B:List Pc) (x:Tree):Prop:=∀ f d ts us,Mp B ts us→Fol 7 us→Gt (Z0 f .unary d ts) (OkQ x us)
def CB (lv:Nat) (B:List Pc) (x:Tree):Prop:=∀ f d ts us,Mp B ts us→Fol (lv + 1) us→Gt (Z0 f (.bin lv) d ts) (CoQ (.binLoop lv x) d us)
def C0 (B:List Pc) (x:Tree):Prop:=∀ f d ts us,Mp B ts us→Fol 0 us→Gt (Z0 f .value d ts) (OkQ x us)
def NoU (B:List Pc):Prop:=∀ ts us,Mp B ts us→Z19 ts=0
section
variable {B:List Pc} {x:Tree} {us:List Tok}
theorem Z86 {n:Nat} (h:Fol n us) (hn:n≤7) {d:Nat}:∀ f,Gt (Z0 f (.postLoop x) d us) (OkQ x us):=
 Gt.fu fun g=>by unfold Z0; exact .no (h.pt hn).1 (.no (h.pt hn).2 .ok)
theorem Z4k {lv:Nat} (h:Z0x lv us=0) {d:Nat}:∀ f,Gt (Z0 f (.binLoop lv x) d us) (OkQ x us):=
 Gt.fu fun g=>by unfold Z0; exact .pos h .ok
theorem Zim (h:C9 B x):C8 B x:=fun f d ts us m=>Gt.fu (fun g=>by unfold Z0; exact Gt.bind (h g d ts us m) .self) f
theorem Zio (h:C8 B x) (hu:NoU B):C7 B x:=fun f d ts us m fo=>Gt.fu (fun g=>by
 unfold Z0;exact .pos (hu ts us m) (Gt.co (h g d ts us m) (Z86 fo (Y0 _)))) f
theorem bin6 (h:C7 B x) {f d:Nat} {ts us:List Tok} (m:Mp B ts us) (fo:Fol 7 us):Gt (Z0 f (.bin 6) d ts) (OkQ x us):=Gt.fu (fun g=>by
 unfold Z0;exact .pos (Y0 _) (h g d ts us m fo)) f
theorem Zhw (h:C7 B x):CB 5 B x:=fun f d ts us m fo=>Gt.fu (fun g=>by
 unfold Z0;exact .neg (by omega) (Gt.bind (bin6 h m (fo.up (by omega))) .self)) f
theorem Zcb {lv:Nat} (h:CB (lv + 1) B x) {f d:Nat} {ts us:List Tok} (m:Mp B ts us) (fo:Fol (lv + 1) us) (hl:lv < 5):Gt (Z0 f (.bin (lv + 1)) d ts) (OkQ x us):=
 Gt.co (h f d ts us m (fo.up (by omega))) (Z4k (fo.op _ (by omega) (by omega)))
theorem Zcf {lv:Nat} (hl:lv < 5) (h:CB (lv + 1) B x):CB lv B x:=fun f d ts us m fo=>Gt.fu (fun g=>by
 unfold Z0;exact .neg (by omega) (Gt.bind (Zcb h m fo hl) .self)) f
theorem Ziq (h:CB 0 B x):C0 B x:=fun f d ts us m fo=>Gt.fu (fun g=>by
 unfold Z0;refine Gt.within (Gt.fu (fun g=>?_) g);unfold Z0;exact Gt.bind (Gt.co (h g _ ts us m (fo.up (by omega))) (Z4k (fo.op _ (by omega) (by omega)))) (.no (fo.eq rfl) .ok)) f
def Cn (n:Nat) (B:List Pc) (x:Tree):Prop:=
 match n with
 | 0=>C0 B x
 | 7=>C7 B x
 | 8=>C8 B x
 | 9=>C9 B x
 | n + 1=>CB n B x
theorem Zgy:∀ n,n < 9→Cn (n + 1) B x→(n=7→NoU B)→Cn n B x
 | 0,_,h,_=>Ziq h
 | 1,_,h,_=>Zcf (lv:=0) (by omega) h
 | 2,_,h,_=>Zcf (lv:=1) (by omega) h
 | 3,_,h,_=>Zcf (lv:=2) (by omega) h
 | 4,_,h,_=>Zcf (lv:=3) (by omega) h
 | 5,_,h,_=>Zcf (lv:=4) (by omega) h
 | 6,_,h,_=>Zhw h
 | 7,_,h,g=>Zio h (g rfl)
 | 8,_,h,_=>Zim h
theorem Z7y:∀ (s n:Nat),s≤9→Cn s B x→(8≤s→NoU B)→n≤s→Cn n B x:=by
 intro s;induction s with
 | zero =>
   intro n _ h _ hn;obtain rfl:n=0:=by omega
   exact h
 | succ s ih =>
   intro n hs h hu hn;by_cases e:n=s + 1;·subst e; exact h
   ·exact ih n (by omega) (Zgy s (by omega) h (fun e=>hu (by omega))) (fun h=>hu (by omega)) (by omega)
theorem Zaw (h:C0 B x):C9 (sg 40 :: (B ++ [sg 41])) x:=by
 intro f d ts us m;obtain ⟨k1,i1,m1⟩:=m.sgt;obtain ⟨vs,m2,m3⟩:=m1.app;obtain ⟨k3,i3,m4⟩:=m3.sgt;have e:vs.tail=us:=m4;refine Gt.fu (fun g=>?_) f;unfold Z0;refine .neg (by omega) (.neg (by omega) (.neg (by omega) (.neg ?_ (.pos (by rw [i1]; decide) (Gt.fu (fun g=>?_) g)))))
 ·unfold Z1r;simp only [i1];decide
 unfold Z0;refine Gt.want (by rw [i1]; decide) (Gt.bind (h g d _ vs m2 (.sign i3 (.inl rfl))) (Gt.want (by rw [i3]; decide) ?_));rw [e];exact .ok
theorem Z6l {l:List Pc}:NoU (sg 40 :: l):=by
 intro ts us m;obtain ⟨_,i,_⟩:=m.sgt;unfold Z19;simp only [i];decide
theorem NoU.app {l:List Pc} (h:NoU B):NoU (B ++ l):=fun ts us m=>by
 obtain ⟨vs,m1,_⟩:=m.app;exact h ts vs m1
end
def AllV (x:Tree):Prop:=(∀ n:Nat,n≤9→Cn n (vP x n) x)∧NoU (vP x 8)
theorem Z40 {k:Int} {t:ByteArray} {n:Int} {ks:List Tree} {s:Nat} (hs:Zf k=s) (h9:s≤9) (hB:Cn s (vbP k t n ks) (.mk k t n ks)) (hu:8≤s→NoU (vbP k t n ks)):AllV (.mk k t n ks):=by
 refine ⟨fun m hm=>?_,?_⟩
 ·rw [Z5m, hs];by_cases h : m ≤ s
  ·rw [decide_eq_false (by omega)];exact Z7y s m h9 hB hu h
  ·rw [decide_eq_true (by omega)];exact Z7y 9 m (Y0 _) (Zaw (Z7y s 0 h9 hB hu (Yh _))) (fun _=>Z6l) hm
 ·rw [Z5m, hs];by_cases h : 8 ≤ s
  ·rw [decide_eq_false (by omega)];exact hu h
  ·rw [decide_eq_true (by omega)];exact Z6l
def HdE (B:List Pc):Prop:=∃ k s n r,B=.t k s n :: r∧((k=1∨k=3∨k=4)∨(k=2∧(s=Z2n∨s=Z1u∨s=Z33∨s=Z0w∨s=Z14∨s=Z18))∨(k=5∧(s=Z0z∨s=Z4a)) ∨
 (Z3m (Z4 B)=true∧((k=5∧s=Z0u)∨(k=2∧s=Z0c))))
theorem Z59 {p l m:List UInt8} (h:Lib.hasPrefix l p=true):Lib.hasPrefix (l ++ m) p=true:=by
 unfold Lib.hasPrefix at h ⊢;simp only [List.isPrefixOf_iff_prefix] at h ⊢;exact h.trans (List.prefix_append _ _)
theorem Zbq {l m:List UInt8} (h:Z3m l=true):Z3m (l ++ m)=true:=by
 unfold Z3m at h ⊢;simp only [Bool.or_eq_true] at h ⊢;rcases h with (h | h) | h;·exact .inl (.inl (Z59 h))
 ·exact .inl (.inr (Z59 h))
 ·exact .inr (Z59 h)
theorem HdE.app {B l:List Pc} (h:HdE B):HdE (B ++ l):=by
 obtain ⟨k,s,n,r,rfl,h⟩:=h;refine ⟨k,s,n,r ++ l,rfl,h.imp id (Or.imp id (Or.imp id fun g=>⟨?_,g.2⟩))⟩;rw [Za];exact Zbq g.1
theorem HdE.pare {B:List Pc} {p:Bool} (h:HdE B):HdE (Z6a p B):=by
 cases p;·exact h
 ·exact ⟨5,Z0z,0,_,rfl,.inr (.inr (.inl ⟨rfl,.inl rfl⟩))⟩
theorem HdE.v {k:Int} {t:ByteArray} {n:Int} {ks:List Tree} (h:HdE (vbP k t n ks)) (need:Int):HdE (vP (.mk k t n ks) need):=by
 rw [Z5m];exact h.pare
theorem HdE.no {B:List Pc} (h:HdE B) {ts us:List Tok} (m:Mp B ts us):isT Z0y ts=false∧isT Z1l ts=false∧isT Zw ts=false:=by
 obtain ⟨k,s,n,r,rfl,h⟩:=h;obtain ⟨e1,e2,_,_⟩:=m.t;rcases h with h | ⟨rfl,h⟩ | ⟨rfl,h⟩ | ⟨_,⟨rfl,rfl⟩ | ⟨rfl,rfl⟩⟩
 ·have z:=Z5t e1 (by omega);exact ⟨z _,z _,z _⟩
 ·simp only [Z4q e1 e2 (.inr rfl)];rcases h with rfl | rfl | rfl | rfl | rfl | rfl <;> decide
 ·simp only [Z4q e1 e2 (.inl rfl)];rcases h with rfl | rfl <;> decide
 ·simp only [Z4q e1 e2 (.inl rfl)];decide
 ·simp only [Z4q e1 e2 (.inr rfl)];decide
def opS (k:Int):ByteArray:=if k=25 then s_or else if k=26 then Z43 else if k=27 then Z2c else if k=28 then Z3d else if k=29 then Z51 else if k=30 then Z58 else Z5h
theorem Zgj {k:Int} (h:25≤k) (h2:k≤31):sgnP k=[sp,.t 5 (opS k) 0,sp]:=by
 have:k=25∨k=26∨k=27∨k=28∨k=29∨k=30∨k=31:=by omega
 rcases this with rfl | rfl | rfl | rfl | rfl | rfl | rfl <;> rfl
theorem Z8i {k:Int} (h:25≤k) (h2:k≤31):∃ lv:Nat,Zf k=(lv + 1:Nat)∧lv≤5∧∀ us:List Tok,(∀ s,isT s us=Z0h (opS k) s)→Fol (lv + 1) us∧Z0x lv us=k:=by
 have:k=25∨k=26∨k=27∨k=28∨k=29∨k=30∨k=31:=by omega
 have key:∀ (lv:Nat) (a:ByteArray),(∀ l,lv + 1≤l→l < 6→∀ us:List Tok,(∀ s,isT s us=Z0h a s)→Z0x l us=0)→Z0h a Z6w=false→Z0h a Z0z=false→∀ us:List Tok,(∀ s,isT s us=Z0h a s)→Fol (lv + 1) us:=by
  intro lv a h1 h2 h3 us hus;exact ⟨fun l g1 g2=>h1 l g1 g2 us hus,fun _=>⟨by rw [hus,h2],by rw [hus,h3]⟩,fun h=>by omega⟩
 have lev:∀ (a:ByteArray) (us:List Tok),(∀ s,isT s us=Z0h a s)→∀ l,Z0x l us=(match l with
  | 0=>if Z0h a s_or then 25 else 0
  | 1=>if Z0h a Z43 then 26 else 0
  | 2=>if Z0h a Z2c then 27 else 0
  | 3=>if Z0h a Z3d then 28 else 0
  | 4=>if Z0h a Z51 then 29 else if Z0h a Z58 then 30 else 0
  | 5=>if Z0h a Z5h then 31 else 0
  | _=>0):=by
  intro a us hus l;unfold Z0x;simp only [hus];rfl
 have fin:∀ (a:ByteArray) (lv:Nat),(∀ l,l < 6→lv + 1≤l→(match l with
  | 0=>if Z0h a s_or then 25 else 0
  | 1=>if Z0h a Z43 then 26 else 0
  | 2=>if Z0h a Z2c then 27 else 0
  | 3=>if Z0h a Z3d then 28 else 0
  | 4=>if Z0h a Z51 then 29 else if Z0h a Z58 then 30 else 0
  | 5=>if Z0h a Z5h then 31 else 0
  | _=>0:Int)=0)→Z0h a Z6w=false→Z0h a Z0z=false→∀ us:List Tok,(∀ s,isT s us=Z0h a s)→Fol (lv + 1) us:=
  fun a lv h1 h2 h3=>key lv a (fun l g1 g2 us hus=>by rw [lev a us hus]; exact h1 l g2 g1) h2 h3
 rcases this with rfl | rfl | rfl | rfl | rfl | rfl | rfl;·exact ⟨0,by decide,by decide,fun us hus=>⟨fin _ 0 (by decide) (by decide) (by decide) us hus,by rw [lev _ us hus]; decide⟩⟩
 ·exact ⟨1,by decide,by decide,fun us hus=>⟨fin _ 1 (by decide) (by decide) (by decide) us hus,by rw [lev _ us hus]; decide⟩⟩
 ·exact ⟨2,by decide,by decide,fun us hus=>⟨fin _ 2 (by decide) (by decide) (by decide) us hus,by rw [lev _ us hus]; decide⟩⟩
 ·exact ⟨3,by decide,by decide,fun us hus=>⟨fin _ 3 (by decide) (by decide) (by decide) us hus,by rw [lev _ us hus]; decide⟩⟩
 ·exact ⟨4,by decide,by decide,fun us hus=>⟨fin _ 4 (by decide) (by decide) (by decide) us hus,by rw [lev _ us hus]; decide⟩⟩
 ·exact ⟨4,by decide,by decide,fun us hus=>⟨fin _ 4 (by decide) (by decide) (by decide) us hus,by rw [lev _ us hus]; decide⟩⟩
 ·exact ⟨5,by decide,by decide,fun us hus=>⟨fin _ 5 (by decide) (by decide) (by decide) us hus,by rw [lev _ us hus]; decide⟩⟩
section
variable {x y:Tree} {t:ByteArray} {n:Int} {k:Int}
theorem Zhx:AllV (.mk 17 ByteArray.empty n []):=by
 refine Z40 (s:=9) (by decide) (by omega) ?_ ?_
 ·intro f d ts us m;rw [Z6f] at m;obtain ⟨e1,e2,e3,e4⟩:=m.t;have e:ts.tail=us:=e4;refine Gt.fu (fun g=>?_) f;unfold Z0;refine .neg (by omega) (.pos e1 ?_);rw [e3,e];exact .ok
 ·intro _ ts us m;rw [Z6f] at m;have z:=Z5t m.t.1 (by omega);simp [Z19,z]
theorem Zhn:AllV (.mk 18 t 0 []):=by
 refine Z40 (s:=9) (by decide) (by omega) ?_ ?_
 ·intro f d ts us m;rw [Z7f] at m;obtain ⟨e1,e2,e3,e4⟩:=m.t;have e:ts.tail=us:=e4;refine Gt.fu (fun g=>?_) f;unfold Z0;refine .neg (by omega) (.neg (by omega) (.pos e1 ?_));rw [e2,e];exact .ok
 ·intro _ ts us m;rw [Z7f] at m;have z:=Z5t m.t.1 (by omega);simp [Z19,z]
theorem Zgp:AllV (.mk 23 t 0 []):=by
 refine Z40 (s:=9) (by decide) (by omega) ?_ ?_
 ·intro f d ts us m;rw [Z37] at m;obtain ⟨e1,e2,e3,e4⟩:=m.nm;have e:ts.tail=us:=e4;refine Gt.fu (fun g=>?_) f;unfold Z0;refine .pos e1 ?_;rw [e2,e];exact .ok
 ·intro _ ts us m;rw [Z37] at m;have z:=Z5t m.t.1 (by omega);simp [Z19,z]
theorem Zg5 (h:19≤k) (h2:k≤22) {ts:List Tok} (hi:∀ s,isT s ts=Z0h (Z5o k) s):Z1r ts=k∧Z19 ts=0:=by
 have:k=19∨k=20∨k=21∨k=22:=by omega
 unfold Z1r Z19;simp only [hi];rcases this with rfl | rfl | rfl | rfl <;> decide
theorem Zi5 (h:19≤k) (h2:k≤22):AllV (.mk k ByteArray.empty 0 []):=by
 refine Z40 (s:=9) ?_ (by omega) ?_ ?_
 ·unfold Zf;rw [Y3 (by omega),Y3 (by omega),Y3 (by omega),Y3 (by omega),Y3 (by omega),Y3 (by omega),Y3 (by omega),Y3 (by omega),Y3 (by omega)]; rfl
 ·intro f d ts us m;rw [Z50 h h2] at m;obtain ⟨e1,e2,e4⟩:=m.wd;have e:ts.tail=us:=e4;refine Gt.fu (fun g=>?_) f;unfold Z0;refine .neg (by omega) (.neg (by omega) (.neg (by omega) ?_));rw [(Zg5 h h2 e2).1];refine .pos (by omega) ?_;rw [e];exact .ok
 ·intro _ ts us m;rw [Z50 h h2] at m;exact (Zg5 h h2 m.wd.2.1).2
theorem Zi4 (h:AllV x):AllV (.mk 36 t 0 [x]):=by
 refine Z40 (s:=8) (by decide) (by omega) ?_ ?_
 ·intro f d ts us m;rw [Z71] at m;obtain ⟨vs,m1,m2⟩:=m.app;obtain ⟨_,i2,m3⟩:=m2.sgt;obtain ⟨k3,t3,_,m4⟩:=m3.nm;have e:vs.tail.tail=us:=m4;refine Gt.co (h.1 8 (by omega) f d ts vs m1) (Gt.fu fun g=>?_);unfold Z0;refine .pos (by rw [i2]; decide) (Gt.name k3 t3 ?_);rw [e];exact .self
 ·intro _;rw [Z71];exact h.2.app
theorem Zhs (hk:32≤k) (hk2:k≤34) (h:AllV x):AllV (.mk k ByteArray.empty 0 [x]):=by
 refine Z40 (s:=7) ?_ (by omega) ?_ (by omega)
 ·unfold Zf;rw [Y3 (by omega),Y3 (by omega),Y3 (by omega),Y3 (by omega),Y3 (by omega),Y3 (by omega),Y3 (by omega),Y5 (by omega)]; rfl
 ·intro f d ts us m fo;rw [Z64 hk hk2] at m;have hts:Z19 ts=k∧Mp (vP x 7) ts.tail us:=by
   have:k=32∨k=33∨k=34:=by omega
   rcases this with rfl | rfl | rfl
   ·obtain ⟨_,i,m1⟩:=Mp.sgt (s:=⟨#[33]⟩) (l:=vP x 7) m;refine ⟨?_,m1⟩;unfold Z19; simp only [i]; decide
   ·obtain ⟨_,i,m1⟩:=Mp.wd (s:=Z14) (l:=sp :: vP x 7) m;refine ⟨?_,m1⟩;unfold Z19; simp only [i]; decide
   ·obtain ⟨_,i,m1⟩:=Mp.wd (s:=Z18) (l:=sp :: vP x 7) m;refine ⟨?_,m1⟩;unfold Z19; simp only [i]; decide
  refine Gt.fu (fun g=>?_) f;unfold Z0;rw [hts.1];exact .neg (by omega) (Gt.bind (Gt.within (h.1 7 (by omega) g (d + 1) ts.tail us hts.2 fo)) .ok)
theorem Zhy (hk:25≤k) (hk2:k≤31) (h1:AllV x) (h2:AllV y):AllV (.mk k ByteArray.empty 0 [x,y]):=by
 obtain ⟨lv,hs,hl,hop⟩:=Z8i hk hk2;have hB:CB lv (vbP k ByteArray.empty 0 [x,y]) (.mk k ByteArray.empty 0 [x,y]):=by
  intro f d ts us m fo;rw [Z48 hk hk2,Zgj hk hk2,hs] at m;obtain ⟨vs,m1,m2⟩:=m.app;have m2':Mp (.t 5 (opS k) 0 :: sp :: vP y (((lv + 1:Nat):Int) + 1)) vs us:=m2;obtain ⟨_,i2,m3⟩:=m2'.sgt;obtain ⟨f1,l1⟩:=hop vs i2;have m3':Mp (vP y ((lv + 2:Nat):Int)) vs.tail us:=m3;have c1:CB lv (vP x ((lv + 1:Nat):Int)) x:=by
   have:=h1.1 (lv + 1) (by omega);have hlv:lv=0∨lv=1∨lv=2∨lv=3∨lv=4∨lv=5:=by omega
   rcases hlv with rfl | rfl | rfl | rfl | rfl | rfl <;> exact this
  refine Gt.co (c1 f d ts vs m1 f1) (Gt.fu fun g=>?_);unfold Z0;rw [l1];refine .neg (by omega) (Gt.bind (x:=y) (us:=us) ?_ .self);have c2:=h2.1 (lv + 2) (by omega);have hlv:lv=5∨lv < 5:=by omega
  rcases hlv with rfl | hlv;·exact bin6 c2 m3' (fo.up (by omega))
  ·have c2':CB (lv + 1) (vP y ((lv + 2:Nat):Int)) y:=by
    have hlv:lv=0∨lv=1∨lv=2∨lv=3∨lv=4:=by omega
    rcases hlv with rfl | rfl | rfl | rfl | rfl <;> exact c2
   exact Zcb c2' m3' fo hlv
 refine Z40 (s:=lv + 1) hs (by omega) ?_ (by omega);have hlv:lv=0∨lv=1∨lv=2∨lv=3∨lv=4∨lv=5:=by omega
 rcases hlv with rfl | rfl | rfl | rfl | rfl | rfl <;> exact hB
theorem Zht (hk:x.kind=23∨x.kind=36) (h1:AllV x) (h2:AllV y):AllV (.mk 24 ByteArray.empty 0 [x,y]):=by
 refine Z40 (s:=0) (by decide) (by omega) ?_ (by omega);intro f d ts us m fo;rw [Z7b] at m;obtain ⟨vs,m1,m2⟩:=m.app;have m2':Mp (sg 61 :: sp :: vP y 0) vs us:=m2;obtain ⟨_,i2,m3⟩:=m2'.sgt;have hx:vP x 8=vP x 1:=by
  obtain ⟨k,t,n,ks⟩:=x;rw [Z5m,Z5m];rcases hk with e | e
  ·have e:k=23:=e;subst e; rfl
  ·have e:k=36:=e;subst e; rfl
 rw [hx] at m1;have f1:Fol 1 vs:=by
  refine ⟨fun l _ hl=>?_,fun _=>?_,fun h=>by omega⟩
  ·unfold Z0x;simp only [i2];split <;> decide
  ·rw [i2,i2]; decide
 refine Gt.fu (fun g=>?_) f;unfold Z0;refine Gt.within (Gt.fu (fun g=>?_) g);unfold Z0;refine Gt.bind (Gt.co ((show CB 0 (vP x 1) x from h1.1 1 (by omega)) g _ ts vs m1 f1) (Z4k ?_)) ?_
 ·unfold Z0x;simp only [i2];decide
 refine .pos (by rw [i2]; decide) (.pos hk (Gt.bind ((show C0 (vP y 0) y from h2.1 0 (by omega)) g _ _ us m3 fo) .ok))
end
def HdS (B:List Pc):Prop:=∀ ts us,Mp B ts us→isT Zw ts=false∧(hdT ts).kind≠6∧isT Z1z ts=false∧isT Zt ts=false
def FolS (x:Tree) (us:List Tok):Prop:=(dang x=true→isT Z1z us=false)∧isT Zt us=false
def EndS (kind:Int) (us:List Tok):Prop:=(if kind=1 then decide ((hdT us).kind=6) else isT Zw us)=true
def Z8v (l:List Tree):Prop:=∀ acc f d ts us,1≤acc.length→Mp (lP (decide (acc.length=1)) l ++ [sg 41]) ts us→Gt (Z0 f (.args acc) d ts) (OkQ (.mk 35 ByteArray.empty 0 (acc ++ l)) us)
def Ze9 (l:List Tree):Prop:=∀ acc f d ts us,Mp (lP (decide (acc.length=0)) l ++ [sg 125]) ts us→Gt (Z0 f (.object acc) d ts) (OkQ (.mk 38 ByteArray.empty 0 (acc ++ l)) us)
def Za8 (l:List Tree):Prop:=∀ acc f d ts us,Mp (lP (decide (acc.length=0)) l) ts us→isT Z0y us=true→Gt (Z0 f (.params acc) d ts) (OkQ (.mk 40 ByteArray.empty 0 (acc ++ l)) us)
def Z4x (body:Bool) (x:Tree):Prop:=∀ f d ts us,Mp (sP x) ts us→Gt (Z0 f (.block body) d ts) (OkQ x us)
def PrSt (x:Tree):Prop:=∀ f d ts us,Mp (sP x) ts us→FolS x us→Gt (Z0 f .stmt d ts) (OkQ x us)
def Zea (l:List Tree):Prop:=∀ first acc kind f d ts us,Mp (bP first l) ts us→EndS kind us→Gt (Z0 f (.stmts kind acc) d ts) (OkQ (.mk kind (strT (acc ++ l)) 0 (acc ++ l)) us)
section
variable {l:List Tree} {x y b:Tree} {s:ByteArray} {k:Int}
theorem AllV.v0 (h:AllV x):C0 (vP x 0) x:=h.1 0 (by omega)
theorem Zfw:Z8v []:=by
 intro acc f d ts us _ m;rw [Z2z] at m;obtain ⟨_,i,m1⟩:=Mp.sgt (l:=[]) m;have e:ts.tail=us:=m1;refine Gt.fu (fun g=>?_) f;unfold Z0;refine .pos (by rw [i]; decide) ?_;rw [e,List.append_nil];exact .ok
theorem Z7s {c:Prop} [Decidable c] {first:Bool} {l:List Pc} {ts us:List Tok} {kk:List Tok→PR} {Q:Except (Int×Nat) (Tree×List Tok)→Prop} (hc:first=decide (¬ c)) (m:Mp (sepP first [sg 44,sp] ++ l) ts us)
 (hk:∀ ts,Mp l ts us→Gt (kk ts) Q):Gt ((if c then Z0s Z0p ts else fun k=>k ts) kk) Q:=by
 by_cases h:c
 ·rw [Y5 h];have : first = false := by rw [hc]; simp [h]
  subst this;obtain ⟨_,i,m1⟩:=Mp.sgt (l:=sp :: l) m;exact Gt.want (by rw [i]; decide) (hk _ m1)
 ·rw [Y3 h];have : first = true := by rw [hc]; simp [h]
  subst this;exact hk _ m
theorem Z5f {first:Bool} {B l:List Pc} (hB:HdE B) {ts us:List Tok} (m:Mp (sepP first [sg 44,sp] ++ (B ++ l)) ts us):isT Z0y ts=false∧isT Zw ts=false:=by
 cases first
 ·obtain ⟨_,i,_⟩:=Mp.sgt (l:=sp :: (B ++ l)) m;rw [i,i]; decide
 ·obtain ⟨vs,m1,_⟩:=Mp.app (l:=B) (m:=l) m;exact ⟨(hB.no m1).1,(hB.no m1).2.2⟩
theorem Zav {us vs:List Tok} {c:UInt8} (hc:(⟨#[c]⟩:ByteArray)=Z0y∨(⟨#[c]⟩:ByteArray)=Zw) (m:Mp (lP false l ++ [sg c]) us vs):Fol 0 us:=by
 cases l with
 | nil =>
   rw [Z2z] at m;obtain ⟨_,i,_⟩:=Mp.sgt (l:=[]) m;exact .sign i (hc.elim .inl fun h=>.inr (.inr (.inr h)))
 | cons x l =>
   rw [Z1p] at m;obtain ⟨_,i,_⟩:=Mp.sgt (l:=sp :: (vP x 0 ++ lP false l) ++ [sg c]) m;exact .sign i (.inr (.inl rfl))
theorem Zcc (hx:AllV x) (hh:HdE (vP x 0)) (hl:Z8v l):Z8v (x :: l):=by
 intro acc f d ts us ha m;rw [Z1p,List.append_assoc,List.append_assoc] at m;refine Gt.fu (fun g=>?_) f;unfold Z0;have hc:decide (acc.length=1)=decide (¬ 1 < acc.length):=decide_eq_decide.2 ⟨fun h=>by omega,fun h=>by omega⟩;refine .no (Z5f hh m).1 (Z7s (c:=1 < acc.length) (l:=vP x 0 ++ (lP false l ++ [sg 41])) (us:=us) (first:=decide (acc.length=1)) hc m fun ts m=>?_);obtain ⟨vs,m1,m2⟩:=m.app;refine .limIf (Gt.bind (hx.v0 g d ts vs m1 (Zav (.inl rfl) m2)) ?_);have:=hl (acc ++ [x]) g d vs us (by simp) (by
  have e:decide ((acc ++ [x]).length=1)=false:=decide_eq_false (by rw [Yi,List.length_singleton]; omega);rw [e]; exact m2)
 rw [List.append_assoc] at this;exact this
theorem Zgc:Ze9 []:=by
 intro acc f d ts us m;rw [Z2z] at m;obtain ⟨_,i,m1⟩:=Mp.sgt (l:=[]) m;have e:ts.tail=us:=m1;refine Gt.fu (fun g=>?_) f;unfold Z0;refine .pos (by rw [i]; decide) ?_;rw [e,List.append_nil];exact .ok
theorem Z8e:vP (.mk 39 s 0 [x]) 0=nm s :: sg 58 :: sp :: vP x 0:=by rw [Z5m,Z7z]; rfl
theorem Zau:vP (.mk 23 s 0 []) 0=[nm s]:=by rw [Z5m,Z37]; rfl
theorem Zcg {r:List Pc}:HdE (nm s :: r):=⟨1,s,0,r,rfl,.inl (.inl rfl)⟩
theorem Zfp (hx:AllV x) (hl:Ze9 l):Ze9 (.mk 39 s 0 [x] :: l):=by
 intro acc f d ts us m;rw [Z1p,List.append_assoc,List.append_assoc] at m;refine Gt.fu (fun g=>?_) f;unfold Z0;refine .no (Z5f (by rw [Z8e]; exact Zcg) m).2 (Z7s (l:=vP (.mk 39 s 0 [x]) 0 ++ (lP false l ++ [sg 125])) (us:=us) (first:=decide (acc.length=0)) (decide_eq_decide.2 (by omega)) m fun ts m=>?_);rw [Z8e] at m;obtain ⟨k1,t1,_,m1⟩:=Mp.nm (l:=sg 58 :: sp :: vP x 0 ++ (lP false l ++ [sg 125])) m;obtain ⟨_,i2,m2⟩:=Mp.sgt (l:=sp :: vP x 0 ++ (lP false l ++ [sg 125])) m1;obtain ⟨vs,m3,m4⟩:=Mp.app (l:=vP x 0) (m:=lP false l ++ [sg 125]) m2
 refine .limIf (Gt.name k1 t1 (Gt.want (by rw [i2]; decide) (Gt.bind (hx.v0 g d _ vs m3 (Zav (.inr rfl) m4)) ?_)));have:=hl (acc ++ [.mk 39 s 0 [x]]) g d vs us (by
  have e:decide ((acc ++ [Tree.mk 39 s 0 [x]]).length=0)=false:=by simp
  rw [e]; exact m4)
 rw [List.append_assoc] at this;exact this
theorem Zh7:Za8 []:=by
 intro acc f d ts us m hr;rw [Z2z] at m;have e:ts=us:=m;refine Gt.fu (fun g=>?_) f;unfold Z0;refine .pos (by rw [e]; exact hr) ?_;rw [e,List.append_nil];exact .ok
theorem Zf3 (hl:Za8 l):Za8 (.mk 23 s 0 [] :: l):=by
 intro acc f d ts us m hr;rw [Z1p] at m;refine Gt.fu (fun g=>?_) f;unfold Z0;refine .no (Z5f (by rw [Zau]; exact Zcg) m).1 (Z7s (l:=vP (.mk 23 s 0 []) 0 ++ lP false l) (us:=us) (first:=decide (acc.length=0)) (decide_eq_decide.2 (by omega)) m fun ts m=>?_);rw [Zau] at m;obtain ⟨k1,t1,_,m1⟩:=Mp.nm (l:=lP false l) m;refine .limIf (Gt.name k1 t1 ?_);have:=hl (acc ++ [.mk 23 s 0 []]) g d ts.tail us (by
  have e:decide ((acc ++ [Tree.mk 23 s 0 []]).length=0)=false:=by simp
  rw [e]; exact m1) hr
 rw [List.append_assoc] at this;exact this
theorem Z9r (hp:Za8 l) (hb:Z4x true b) {f d:Nat} {ts us:List Tok} (m:Mp (sg 40 :: (lP true l ++ sg 41 :: sp :: sP b)) ts us):Gt (Z0 f (.func k s) d ts) (OkQ (.mk k s 0 [.mk 40 ByteArray.empty 0 l,b]) us):=by
 obtain ⟨_,i1,m1⟩:=m.sgt;obtain ⟨vs,m2,m3⟩:=m1.app;obtain ⟨_,i3,m4⟩:=m3.sgt;refine Gt.fu (fun g=>?_) f;unfold Z0;exact Gt.want (by rw [i1]; decide) (Gt.bind (hp [] g d _ vs m2 (by rw [i3]; decide)) (Gt.want (by rw [i3]; decide) (Gt.bind (hb g d _ us m4) .ok)))
theorem Zis (hs:s=ByteArray.empty∨Z1q s) {L B:List Pc}:HdE (fnP s L B):=by
 unfold fnP;refine ⟨2,Z0c,0,_,rfl,.inr (.inr (.inr ⟨?_,.inr ⟨rfl,rfl⟩⟩))⟩;split;·rfl
 ·rfl
theorem Zhu (hs:s=ByteArray.empty∨Z1q s) (hp:Za8 l) (hb:Z4x true b):AllV (.mk 37 s 0 [.mk 40 ByteArray.empty 0 l,b]):=by
 refine Z40 (s:=9) (by decide) (by omega) ?_ ?_
 ·intro f d ts us m;rw [Z7i] at m;unfold fnP at m;obtain ⟨k1, i1, m1⟩ := m.wd;refine Gt.fu (fun g => ?_) f;unfold Z0;refine .neg (by omega) (.neg (by omega) (.neg (by omega) (.neg ?_ (.no (by rw [i1]; decide) (.pos (by rw [i1]; decide) ?_)))))
  ·unfold Z1r;simp only [i1];decide
  by_cases hz:s.size=0
  ·rw [Y5 hz] at m1;have hs':s=ByteArray.empty:=hs.elim id fun h=>absurd h.1 (by omega);subst hs';have m1':Mp (sg 40 :: (lP true l ++ sg 41 :: sp :: sP b)) ts.tail us:=m1;refine .neg (by rw [m1'.sgt.1]; omega) (Z9r hp hb m1')
  ·rw [Y3 hz] at m1;have m1':Mp (nm s :: sg 40 :: (lP true l ++ sg 41 :: sp :: sP b)) ts.tail us:=m1;obtain ⟨k2,t2,_,m2⟩:=m1'.nm;refine .pos k2 ?_;rw [t2];exact Z9r hp hb m2
 ·intro _ ts us m;rw [Z7i] at m;unfold fnP at m;obtain ⟨_,i,_⟩:=m.wd;unfold Z19;simp only [i];decide
theorem Zi2 (hl:Ze9 l):AllV (.mk 38 ByteArray.empty 0 l):=by
 refine Z40 (s:=9) (by decide) (by omega) ?_ ?_
 ·intro f d ts us m;rw [Z74] at m;obtain ⟨k1, i1, m1⟩ := m.sgt;refine Gt.fu (fun g => ?_) f;unfold Z0;refine .neg (by omega) (.neg (by omega) (.neg (by omega) (.neg ?_ (.no (by rw [i1]; decide) (.no (by rw [i1]; decide) (.pos (by rw [i1]; decide) ?_))))))
  ·unfold Z1r;simp only [i1];decide
  exact hl [] g d _ us m1
 ·intro _ ts us m;rw [Z74] at m;obtain ⟨_,i,_⟩:=m.sgt;unfold Z19;simp only [i];decide
theorem Zgs (hx:AllV x) (hl:Z8v l):AllV (.mk 35 ByteArray.empty 0 (x :: l)):=by
 refine Z40 (s:=8) (by decide) (by omega) ?_ ?_
 ·intro f d ts us m;rw [Z4i] at m;obtain ⟨vs,m1,m2⟩:=m.app;obtain ⟨_,i2,m3⟩:=m2.sgt;refine Gt.co (hx.1 8 (by omega) f d ts vs m1) (Gt.fu fun g=>?_);unfold Z0;exact .no (by rw [i2]; decide) (.pos (by rw [i2]; decide) (Gt.bind (hl [x] g d _ us (by simp) m3) .self))
 ·intro _;rw [Z4i];exact hx.2.app
theorem Z67 {a:ByteArray} {r:List Pc} {k:Int} {n:Int} (hk:k=5∨k=2) (ha:Z0h a Zw=false∧Z0h a Z1z=false∧Z0h a Zt=false):HdS (.t k a n :: r):=by
 intro ts us m;have i:=Z4q m.t.1 m.t.2.1 hk;exact ⟨by rw [i]; exact ha.1,by rw [m.t.1]; omega,by rw [i]; exact ha.2.1,by rw [i]; exact ha.2.2⟩
theorem HdE.st {B r:List Pc} (h:HdE B):HdS (B ++ r):=by
 intro ts us m;obtain ⟨vs,m1,_⟩:=m.app;obtain ⟨k,a,n,r,rfl,h⟩:=h;rcases h with h | ⟨rfl,h⟩ | ⟨rfl,h⟩ | ⟨_,⟨rfl,rfl⟩ | ⟨rfl,rfl⟩⟩
 ·have z:=Z5t m1.t.1 (by omega);exact ⟨z _,by rw [m1.t.1]; omega,z _,z _⟩
 ·refine Z67 (r:=r) (n:=n) (.inr rfl) ?_ ts vs m1;rcases h with rfl | rfl | rfl | rfl | rfl | rfl <;> decide
 ·refine Z67 (r:=r) (n:=n) (.inl rfl) ?_ ts vs m1;rcases h with rfl | rfl <;> decide
 ·exact Z67 (r:=r) (n:=n) (.inl rfl) (by decide) ts vs m1
 ·exact Z67 (r:=r) (n:=n) (.inr rfl) (by decide) ts vs m1
def Zew (k:Int):ByteArray:=if k=2 then Z5y else if k=3 then Z5u else if k=4 then Z2j else if k=7 then s_if else if k=8 then Z2h else if k=9 then Z3s else if k=10 then Z1s else Z2g
theorem Z3y {r:List Pc} {ts us:List Tok} (m:Mp (Z3j k ++ r) ts us):Mp (wd (Zew k) :: r) ts us:=by
 unfold Z3j at m;unfold Zew;split at m;·rename_i h; rw [Y5 h]; exact m
 rename_i h1; rw [Y3 h1];split at m;·rename_i h; rw [Y5 h]; exact m
 rename_i h2; rw [Y3 h2];split at m;·rename_i h; rw [Y5 h]; exact m
 rename_i h3; rw [Y3 h3];split at m;·rename_i h; rw [Y5 h]; exact m
 rename_i h4; rw [Y3 h4];split at m;·rename_i h; rw [Y5 h]; exact m
 rename_i h5; rw [Y3 h5];split at m;·rename_i h; rw [Y5 h]; exact m
 rename_i h6; rw [Y3 h6];split at m;·rename_i h; rw [Y5 h]; exact m
 rename_i h7; rw [Y3 h7];exact m
theorem Z4j {r:List Pc}:HdS (Z3j k ++ r):=by
 intro ts us m;refine Z67 (a:=Zew k) (r:=r) (n:=0) (.inr rfl) ?_ ts us (Z3y m);unfold Zew;split;·decide
 split;·decide
 split;·decide
 split;·decide
 split;·decide
 split;·decide
 split;·decide
 ·decide
theorem Zdv (hx:AllV x) {f d:Nat} {ts us:List Tok} {kk:Tree→Tree} (m:Mp (vP x 0 ++ [sg 59]) ts us):Gt (Z02 (Z0 f .value d ts) fun x ts=>endT (kk x) ts) (OkQ (kk x) us):=by
 obtain ⟨vs,m1,m2⟩:=m.app;obtain ⟨_,i2,m3⟩:=m2.sgt;have e:vs.tail=us:=m3;refine Gt.bind (hx.v0 f d ts vs m1 (.sign i2 (.inr (.inr (.inl rfl))))) ?_;rw [← e];exact Gt.end' (by rw [i2]; decide)
theorem Z8y (hx:AllV x) {f d:Nat} {ts us:List Tok} (m:Mp (sg 40 :: (vP x 0 ++ [sg 41])) ts us):Gt (Z0 f .around d ts) (OkQ x us):=by
 obtain ⟨_,i1,m1⟩:=m.sgt;obtain ⟨vs,m2,m3⟩:=m1.app;obtain ⟨_,i3,m4⟩:=m3.sgt;have e:vs.tail=us:=m4;refine Gt.fu (fun g=>?_) f;unfold Z0;refine Gt.want (by rw [i1]; decide) (Gt.bind (hx.v0 g d _ vs m2 (.sign i3 (.inl rfl))) (Gt.want (by rw [i3]; decide) ?_));rw [e];exact .ok
theorem Z63 {r:List Pc} {ts us:List Tok} (m:Mp (sg 40 :: (vP x 0 ++ sg 41 :: sp :: r)) ts us):∃ vs,Mp (sg 40 :: (vP x 0 ++ [sg 41])) ts vs∧Mp r vs us:=by
 have e:sg 40 :: (vP x 0 ++ sg 41 :: sp :: r)=(sg 40 :: (vP x 0 ++ [sg 41])) ++ sp :: r:=by simp
 rw [e] at m;obtain ⟨vs,m1,m2⟩:=m.app;exact ⟨vs,m1,m2⟩
theorem Zdt (hk:k=2∨k=3∨k=4) {r:List Pc} {ts us:List Tok} (m:Mp (Z3j k ++ r) ts us) {t:Tree} (hd:∀ g d,Gt (Z02 (Z0 g (.decl k (decide (k=4))) d ts.tail) endT) (OkQ t us)) (f d:Nat):Gt (Z0 f .stmt d ts) (OkQ t us):=by
 obtain ⟨_,i1,m1⟩:=(Z3y m).wd;refine Gt.fu (fun g=>?_) f;have hdg:=hd g d;unfold Z0;refine .no ?_ (.no ?_ ?_);·rw [i1]; rcases hk with rfl | rfl | rfl <;> decide
 ·rw [i1]; rcases hk with rfl | rfl | rfl <;> decide
 rcases hk with rfl | rfl | rfl;·exact .pos (by rw [i1]; decide) hdg
 ·exact .no (by rw [i1]; decide) (.pos (by rw [i1]; decide) hdg)
 ·exact .no (by rw [i1]; decide) (.no (by rw [i1]; decide) (.pos (by rw [i1]; decide) hdg))
theorem Zeu (hk:k=2∨k=3):PrSt (.mk k s 0 []):=by
 intro f d ts us m _;rw [Z5i (by omega)] at m;refine Zdt (by omega) m (fun g d=>?_) f d;obtain ⟨_,_,m1⟩:=(Z3y m).wd;obtain ⟨k2,t2,_,m2⟩:=Mp.nm (l:=[sg 59]) m1;obtain ⟨_,i3,m3⟩:=m2.sgt;have e:ts.tail.tail.tail=us:=m3;refine Gt.bind (x:=.mk k s 0 []) (us:=ts.tail.tail) (Gt.fu (fun g=>?_) g) ?_
 ·unfold Z0;refine Gt.name k2 t2 (.no ?_ (.no (by rw [i3]; decide) .ok));rcases hk with rfl | rfl <;> simp
 ·rw [← e];exact Gt.end' (by rw [i3]; decide)
theorem Zfa (hk:k=2∨k=3∨k=4) (hx:AllV x):PrSt (.mk k s 0 [x]):=by
 intro f d ts us m _;rw [Z4l hk] at m;refine Zdt hk m (fun g d=>?_) f d;obtain ⟨_,_,m1⟩:=(Z3y m).wd;obtain ⟨k2,t2,_,m2⟩:=Mp.nm (l:=sp :: sg 61 :: sp :: (vP x 0 ++ [sg 59])) m1;have m2':Mp (sg 61 :: sp :: (vP x 0 ++ [sg 59])) ts.tail.tail us:=m2;obtain ⟨_,i3,m3⟩:=m2'.sgt;have m3':Mp (vP x 0 ++ [sg 59]) ts.tail.tail.tail us:=m3;obtain ⟨vs,m4,m5⟩:=m3'.app;obtain ⟨_,i5,m6⟩:=m5.sgt;have e:vs.tail=us:=m6;refine Gt.bind (x:=.mk k s 0 [x]) (us:=vs) (Gt.fu (fun g=>?_) g) ?_
 ·unfold Z0;refine Gt.name k2 t2 (.no ?_ (.pos (by rw [i3]; decide) (Gt.bind (hx.v0 g d _ vs m4 (.sign i5 (.inr (.inr (.inl rfl))))) .ok)));rw [i3];simp [show Z0h ⟨#[61]⟩ s_eq=true by decide]
 ·rw [← e];exact Gt.end' (by rw [i5]; decide)
theorem Zif (hs:Z1q s) (hp:Za8 l) (hb:Z4x true b):PrSt (.mk 5 s 0 [.mk 40 ByteArray.empty 0 l,b]):=by
 intro f d ts us m _;rw [Z8s] at m;unfold fnP at m;rw [Y3 (by have:=hs.1; omega)] at m;obtain ⟨k1,i1,m1⟩:=m.wd;have m1':Mp (nm s :: sg 40 :: (lP true l ++ sg 41 :: sp :: sP b)) ts.tail us:=m1;obtain ⟨k2,t2,_,m2⟩:=m1'.nm;refine Gt.fu (fun g=>?_) f;unfold Z0;iterate 5 refine .no (by rw [i1]; decide) ?_
 exact .pos (by rw [i1]; decide) (Gt.name k2 t2 (Z9r hp hb m2))
theorem Zfk:PrSt (.mk 16 ByteArray.empty 0 []):=by
 intro f d ts us m _;rw [Z6g] at m;obtain ⟨_,i1,m1⟩:=m.sgt;have e:ts.tail=us:=m1;refine Gt.fu (fun g=>?_) f;unfold Z0;refine .no (by rw [i1]; decide) (.pos (by rw [i1]; decide) ?_);rw [e];exact .ok
theorem Zb1:Zea []:=by
 intro first acc kind f d ts us m he
 rw [Z52] at m;have e:ts=us:=m;refine Gt.fu (fun g=>?_) f;unfold Z0;refine .pos (by rw [e]; exact he) ?_;rw [e,List.append_nil];exact .ok
theorem Zgx {us:List Tok} (h:EndS k us):isT Z1z us=false∧isT Zt us=false:=by
 unfold EndS at h;split at h
 ·have z:=Z5t (of_decide_eq_true h) (by omega);exact ⟨z _,z _⟩
 ·unfold isT at h ⊢;simp only [Bool.and_eq_true,Ze8] at h;rw [h.2];exact ⟨by rw [show Z0h Zw Z1z=false by decide,Bool.and_false],by rw [show Z0h Zw Zt=false by decide,Bool.and_false]⟩
theorem Zgi {us vs:List Tok} (hl:∀ y r,l=y :: r→HdS (sP y)) (m:Mp (bP false l) us vs) (he:EndS k vs):isT Z1z us=false∧isT Zt us=false:=by
 cases l with
 | nil =>
   rw [Z52] at m;have e:us=vs:=m;rw [e];exact Zgx he
 | cons y r =>
   rw [Z35] at m;have m':Mp (sP y ++ bP false r) us vs:=m;obtain ⟨ws,m1,_⟩:=m'.app;exact (hl y r rfl us ws m1).2.2
theorem Z9i (hx:PrSt x) (hh:HdS (sP x)) (hl:Zea l) (hn:∀ y r,l=y :: r→HdS (sP y)):Zea (x :: l):=by
 intro first acc kind f d ts us m he
 rw [Z35] at m;have m':Mp (sP x ++ bP false l) ts us:=by
  cases first
  ·exact m
  ·exact m
 obtain ⟨vs,m1,m2⟩:=m'.app;have h0:=hh ts vs m1;have hf:=Zgi hn m2 he;refine Gt.fu (fun g=>?_) f;unfold Z0;refine .no ?_ (Gt.bind (Gt.within (hx g (d + 1) ts vs m1 ⟨fun _=>hf.1,hf.2⟩)) ?_)
 ·split;·exact decide_eq_false h0.2.1
  ·exact h0.1
 ·have:=hl false (acc ++ [x]) kind g d vs us m2 he;rw [List.append_assoc] at this;exact this
theorem Zg2 (hl:Zea l) {body:Bool} {t:ByteArray} (ht:t=if body then strT l else ByteArray.empty):Z4x body (.mk 6 t 0 l):=by
 intro f d ts us m;rw [Z42] at m;obtain ⟨_,i1,m1⟩:=m.sgt;obtain ⟨vs,m2,m3⟩:=m1.app;obtain ⟨_,i3,m4⟩:=m3.sgt;have e:vs.tail=us:=m4;refine Gt.fu (fun g=>?_) f;unfold Z0;refine Gt.want (by rw [i1]; decide) (Gt.bind (hl true [] 6 g d _ vs m2 (by unfold EndS; rw [Y3 (by omega),i3]; decide)) (Gt.want (by rw [i3]; decide) ?_));rw [e,ht];cases body <;> exact .ok
theorem Zcy (h:Z4x false b) (hb:∃ t n r,b=.mk 6 t n r):PrSt b:=by
 intro f d ts us m _;obtain ⟨t,n,r,rfl⟩:=hb;have m0:=m;rw [Z42] at m;obtain ⟨_,i1,_⟩:=m.sgt;refine Gt.fu (fun g=>?_) f;unfold Z0;exact .pos (by rw [i1]; decide) (h g d ts us m0)
theorem Z8l (hk:k=7∨k=8∨k=9) (hx:AllV x) (hy:PrSt y):PrSt (.mk k ByteArray.empty 0 [x,y]):=by
 intro f d ts us m fo;rw [Z6y hk] at m;obtain ⟨_,i1,m1⟩:=(Z3y m).wd;obtain ⟨vs,m2,m3⟩:=Z63 m1;refine Gt.fu (fun g=>?_) f;have ha:∀ g,Gt (Z0 g .around d ts.tail) (OkQ x vs):=fun g=>Z8y hx m2;unfold Z0;rcases hk with rfl | rfl | rfl
 ·iterate 6 refine .no (by rw [i1]; decide) ?_
  have hd:dang (.mk 7 ByteArray.empty 0 [x,y])=true:=by unfold dang; rw [Y5 ⟨rfl,rfl⟩]
  exact .pos (by rw [i1]; decide) (Gt.bind (ha g) (Gt.bind (Gt.within (hy g (d + 1) vs us m3 ⟨fun _=>fo.1 hd,fo.2⟩)) (.no (fo.1 hd) .ok)))
 ·iterate 7 refine .no (by rw [i1]; decide) ?_
  exact .pos (by rw [i1]; decide) (Gt.bind (ha g) (Gt.bind (Gt.within (hy g (d + 1) vs us m3 ⟨fun h=>fo.1 (by rw [Z4u (.inl rfl)]; exact h),fo.2⟩)) .ok))
 ·iterate 8 refine .no (by rw [i1]; decide) ?_
  exact .pos (by rw [i1]; decide) (Gt.bind (ha g) (Gt.bind (Gt.within (hy g (d + 1) vs us m3 ⟨fun h=>fo.1 (by rw [Z4u (.inr rfl)]; exact h),fo.2⟩)) .ok))
theorem Zi1 {z:Tree} (hx:AllV x) (hy:PrSt y) (hz:PrSt z) (hd:dang y=false):PrSt (.mk 7 ByteArray.empty 0 [x,y,z]):=by
 intro f d ts us m fo;rw [Zc3] at m;obtain ⟨_,i1,m1⟩:=(Z3y m).wd;obtain ⟨vs,m2,m3⟩:=Z63 m1;obtain ⟨ws,m4,m5⟩:=m3.app;have m5':Mp (wd Z1z :: sp :: sP z) ws us:=m5;obtain ⟨_,i5,m6⟩:=m5'.wd;refine Gt.fu (fun g=>?_) f;have ha:∀ g,Gt (Z0 g .around d ts.tail) (OkQ x vs):=fun g=>Z8y hx m2;unfold Z0;iterate 6 refine .no (by rw [i1]; decide) ?_
 exact .pos (by rw [i1]; decide) (Gt.bind (ha g) (Gt.bind (Gt.within (hy g (d + 1) vs ws m4 ⟨fun h=>(by rw [hd] at h; cases h),by rw [i5]; decide⟩)) (.pos (by rw [i5]; decide)
  (Gt.bind (Gt.within (hz g (d + 1) ws.tail us m6 ⟨fun h=>fo.1 (by rw [Zat]; exact h),fo.2⟩)) .ok))))
theorem Zgm:PrSt (.mk 10 ByteArray.empty 0 []):=by
 intro f d ts us m _;rw [Z8g (.inl rfl)] at m;obtain ⟨_,i1,m1⟩:=(Z3y m).wd;obtain ⟨_,i2,m2⟩:=m1.sgt;have e:ts.tail.tail=us:=m2;refine Gt.fu (fun g=>?_) f;unfold Z0;iterate 9 refine .no (by rw [i1]; decide) ?_
 refine .pos (by rw [i1]; decide) (.pos (by rw [i2]; decide) ?_);rw [← e];exact Gt.end' (by rw [i2]; decide)
theorem Zh8 (hk:k=10∨k=11) (hx:AllV x) (hh:HdE (vP x 0)):PrSt (.mk k ByteArray.empty 0 [x]):=by
 intro f d ts us m _;rw [Z77 hk] at m;obtain ⟨_,i1,m1⟩:=(Z3y m).wd;have m1':Mp (vP x 0 ++ [sg 59]) ts.tail us:=m1;refine Gt.fu (fun g=>?_) f;have hv:∀ g,Gt (Z02 (Z0 g .value d ts.tail) fun x ts=>endT (.mk k ByteArray.empty 0 [x]) ts) (OkQ (.mk k ByteArray.empty 0 [x]) us):=fun g=>Zdv (kk:=fun x=>.mk k ByteArray.empty 0 [x]) hx m1';have hsemi:isT Z1l ts.tail=false:=by
  obtain ⟨vs,q,_⟩:=m1'.app;exact (hh.no q).2.1
 unfold Z0;rcases hk with rfl | rfl
 ·iterate 9 refine .no (by rw [i1]; decide) ?_
  exact .pos (by rw [i1]; decide) (.no hsemi (hv g))
 ·iterate 10 refine .no (by rw [i1]; decide) ?_
  exact .pos (by rw [i1]; decide) (hv g)
theorem Zh9 (hx:AllV x) (hh:HdE (vP x 0)):PrSt (.mk 15 ByteArray.empty 0 [x]):=by
 intro f d ts us m _;rw [Z70] at m;have hE:∃ k a n r,Z83 (vP x 0)=.t k a n :: r∧((k=1∨k=3∨k=4)∨(k=2∧(a=Z2n∨a=Z1u∨a=Z33∨a=Z0w∨a=Z14∨a=Z18))∨(k=5∧(a=Z0z∨a=Z4a))):=by
  unfold Z83;cases hst:Z3m (Z4 (vP x 0)) with
  | true=>exact ⟨5,Z0z,0,_,rfl,.inr (.inr ⟨rfl,.inl rfl⟩)⟩
  | false =>
    obtain ⟨k,a,n,r,h1,h2⟩:=hh;refine ⟨k,a,n,r,h1,?_⟩;rcases h2 with h | h | h | ⟨h,_⟩;·exact .inl h
    ·exact .inr (.inl h)
    ·exact .inr (.inr h)
    ·rw [hst] at h; cases h
 have hT:∀ a,(a=Z0u∨a=Z1l∨a=Z5y∨a=Z5u∨a=Z2j∨a=Z0c∨a=s_if∨a=Z2h∨a=Z3s∨a=Z1s∨a=Z2g∨a=Z4p)→isT a ts=false:=by
  obtain ⟨k,a,n,r,h1,h2⟩:=hE;rw [h1] at m;have m':Mp (.t k a n :: (r ++ [sg 59])) ts us:=m;intro b hb;rcases h2 with h | ⟨rfl,h⟩ | ⟨rfl,h⟩;·exact Z5t m'.t.1 (by omega) _
  ·rw [Z4q m'.t.1 m'.t.2.1 (.inr rfl)];rcases h with rfl | rfl | rfl | rfl | rfl | rfl <;> (rcases hb with rfl | rfl | rfl | rfl | rfl | rfl | rfl | rfl | rfl | rfl | rfl | rfl <;> decide)
  ·rw [Z4q m'.t.1 m'.t.2.1 (.inl rfl)];rcases h with rfl | rfl <;> (rcases hb with rfl | rfl | rfl | rfl | rfl | rfl | rfl | rfl | rfl | rfl | rfl | rfl <;> decide)
 have hC:C0 (Z83 (vP x 0)) x:=by
  unfold Z83 Z6a;split;·exact Z7y 9 0 (Y0 _) (Zaw hx.v0) (fun _=>Z6l) (Yh _)
  ·exact hx.v0
 obtain ⟨vs,m1,m2⟩:=m.app;obtain ⟨_,i2,m3⟩:=m2.sgt;have e:vs.tail=us:=m3;refine Gt.fu (fun g=>?_) f;unfold Z0;refine .no (hT _ (by simp)) (.no (hT _ (by simp)) (.no (hT _ (by simp)) (.no (hT _ (by simp)) (.no (hT _ (by simp)) (.no (hT _ (by simp)) (.no (hT _ (by simp)) (.no (hT _ (by simp)) (.no (hT _ (by simp)) (.no (hT _ (by simp)) (.no (hT _ (by simp)) (.no (hT _ (by simp)) ?_)))))))))));refine Gt.bind (hC g d ts vs m1 (.sign i2 (.inr (.inr (.inl rfl))))) ?_;rw [← e];exact Gt.end' (by rw [i2]; decide)
theorem Ze6 (m:∀ g d ts us,Mp (sP b ++ cP l) ts us→FolS (.mk 12 ByteArray.empty 0 (b :: l)) us→Gt (Z0 g .try_ d ts) (OkQ (.mk 12 ByteArray.empty 0 (b :: l)) us)):PrSt (.mk 12 ByteArray.empty 0 (b :: l)):=by
 intro f d ts us h fo;rw [Z44] at h;obtain ⟨_,i1,m1⟩:=h.wd;have m1':Mp (sP b ++ cP l) ts.tail us:=m1;refine Gt.fu (fun g=>?_) f;have h2:=m g d ts.tail us m1' fo;unfold Z0;iterate 11 refine .no (by rw [i1]; decide) ?_
 exact .pos (by rw [i1]; decide) h2
theorem Zhe {c:Tree} (hb:Z4x false b) (hc:Z4x false c):PrSt (.mk 12 ByteArray.empty 0 [b,.mk 13 s 0 [c]]):=by
 refine Ze6 fun g d ts us m fo=>?_;rw [Z4h,Z5k] at m;obtain ⟨vs,m1,m2⟩:=m.app;have m2':Mp (wd Z1i :: sp :: sg 40 :: nm s :: sg 41 :: sp :: (sP c ++ [])) vs us:=m2;obtain ⟨_,i3,m3⟩:=m2'.wd;have m3':Mp (sg 40 :: nm s :: sg 41 :: sp :: (sP c ++ [])) vs.tail us:=m3;obtain ⟨_,i4,m4⟩:=m3'.sgt;obtain ⟨k5,t5,_,m5⟩:=m4.nm;obtain ⟨_,i6,m6⟩:=m5.sgt;have m6':Mp (sP c) vs.tail.tail.tail.tail us:=by rw [← List.append_nil (sP c)]; exact m6
 refine Gt.fu (fun g=>?_) g;unfold Z0;refine Gt.bind (hb g d ts vs m1) ?_;simp only;exact .pos (by rw [i3]; decide) (Gt.want (by rw [i4]; decide) (Gt.name k5 t5 (Gt.want (by rw [i6]; decide) (Gt.bind (hc g d _ us m6') (.no fo.2 (.neg (by simp) .ok))))))
theorem Zh6 {c:Tree} (hb:Z4x false b) (hc:Z4x false c):PrSt (.mk 12 ByteArray.empty 0 [b,.mk 14 ByteArray.empty 0 [c]]):=by
 refine Ze6 fun g d ts us m fo=>?_;rw [Z2t,Z5k] at m;obtain ⟨vs,m1,m2⟩:=m.app;have m2':Mp (wd Zt :: sp :: (sP c ++ [])) vs us:=m2;obtain ⟨_,i3,m3⟩:=m2'.wd;have m3':Mp (sP c) vs.tail us:=by rw [← List.append_nil (sP c)]; exact m3
 refine Gt.fu (fun g=>?_) g;unfold Z0;refine Gt.bind (hb g d ts vs m1) ?_;simp only;exact .no (by rw [i3]; decide) (.pos (by rw [i3]; decide) (Gt.bind (hc g d _ us m3') .ok))
theorem Zf8 {c e:Tree} (hb:Z4x false b) (hc:Z4x false c) (he:Z4x false e):PrSt (.mk 12 ByteArray.empty 0 [b,.mk 13 s 0 [c],.mk 14 ByteArray.empty 0 [e]]):=by
 refine Ze6 fun g d ts us m fo=>?_;rw [Z4h,Z2t,Z5k] at m;obtain ⟨vs,m1,m2⟩:=m.app;have m2':Mp (wd Z1i :: sp :: sg 40 :: nm s :: sg 41 :: sp :: (sP c ++ sp :: wd Zt :: sp :: (sP e ++ []))) vs us:=m2;obtain ⟨_,i3,m3⟩:=m2'.wd;have m3':Mp (sg 40 :: nm s :: sg 41 :: sp :: (sP c ++ sp :: wd Zt :: sp :: (sP e ++ []))) vs.tail us:=m3;obtain ⟨_,i4,m4⟩:=m3'.sgt;obtain ⟨k5,t5,_,m5⟩:=m4.nm;obtain ⟨_,i6,m6⟩:=m5.sgt;have m6':Mp (sP c ++ sp :: wd Zt :: sp :: (sP e ++ [])) vs.tail.tail.tail.tail us:=m6;obtain ⟨ws,m7,m8⟩:=m6'.app
 have m8':Mp (wd Zt :: sp :: (sP e ++ [])) ws us:=m8;obtain ⟨_,i9,m9⟩:=m8'.wd;have m9':Mp (sP e) ws.tail us:=by rw [← List.append_nil (sP e)]; exact m9
 refine Gt.fu (fun g=>?_) g;unfold Z0;refine Gt.bind (hb g d ts vs m1) ?_;simp only;exact .pos (by rw [i3]; decide) (Gt.want (by rw [i4]; decide) (Gt.name k5 t5 (Gt.want (by rw [i6]; decide) (Gt.bind (hc g d _ ws m7) (.pos (by rw [i9]; decide) (Gt.bind (he g d _ us m9') .ok))))))
end
def Zi9:Srt→List Tree→Prop
 | .v,[x]=>AllV x∧∀ need,HdE (vP x need)
 | .vl,l=>Z8v l
 | .ol,l=>Ze9 l
 | .pl,l=>Za8 l
 | .b,[x]=>Z4x true x
 | .k,[x]=>Z4x false x∧(∃ t n r,x=.mk 6 t n r)
 | .s,[x]=>PrSt x∧HdS (sP x)
 | .sl,l=>Zea l∧∀ y r,l=y :: r→HdS (sP y)
 | _,_=>True
theorem Zhk {k:Int} {t:ByteArray} {n:Int} {x y:Tree} (h1:25≤k) (h2:k≤31) (h:∀ need,HdE (vP x need)) (need:Int):HdE (vP (.mk k t n [x,y]) need):=
 HdE.v (by rw [Z48 h1 h2]; exact (h _).app) need
theorem Zip {c:Srt} {l:List Tree} (h:Wf c l):Zi9 c l:=by
 induction h with
 | num h0 h1=>exact ⟨Zhx,HdE.v (by rw [Z6f]; exact ⟨3,_,_,_,rfl,.inl (.inr (.inl rfl))⟩)⟩
 | str h0=>exact ⟨Zhn,HdE.v (by rw [Z7f]; exact ⟨4,_,_,_,rfl,.inl (.inr (.inr rfl))⟩)⟩
 | con h0 h1 =>
   exact ⟨Zi5 h0 h1,HdE.v (by
    rw [Z50 h0 h1];refine ⟨2,_,_,_,rfl,.inr (.inl ⟨rfl,?_⟩)⟩;unfold Z5o;split;·simp
    split;·simp
    split <;> simp)⟩
 | name h0=>exact ⟨Zgp,HdE.v (by rw [Z37]; exact Zcg)⟩
 | set hk _ _ ih1 ih2=>exact ⟨Zht hk ih1.1 ih2.1,HdE.v (by rw [Z7b]; exact (ih1.2 _).app)⟩
 | two h0 h1 _ _ ih1 ih2=>exact ⟨Zhy h0 h1 ih1.1 ih2.1,Zhk h0 h1 ih1.2⟩
 | @one k x h0 h1 _ ih1 =>
   exact ⟨Zhs h0 h1 ih1.1,HdE.v (by
    rw [Z64 h0 h1];have:k=32∨k=33∨k=34:=by omega
    rcases this with rfl | rfl | rfl;·exact ⟨5,Z4a,0,_,rfl,.inr (.inr (.inl ⟨rfl,.inr rfl⟩))⟩
    ·exact ⟨2,Z14,0,_,rfl,.inr (.inl ⟨rfl,by simp⟩)⟩
    ·exact ⟨2,Z18,0,_,rfl,.inr (.inl ⟨rfl,by simp⟩)⟩)⟩
 | mem hs _ ih1=>exact ⟨Zi4 ih1.1,HdE.v (by rw [Z71]; exact (ih1.2 _).app)⟩
 | call _ _ ih1 ih2=>exact ⟨Zgs ih1.1 ih2,HdE.v (by rw [Z4i]; exact (ih1.2 _).app)⟩
 | lam hs _ _ ih1 ih2=>exact ⟨Zhu hs ih1 ih2,HdE.v (by rw [Z7i]; exact Zis hs)⟩
 | obj _ ih1=>exact ⟨Zi2 ih1,HdE.v (by rw [Z74]; exact ⟨5,Z0u,0,_,rfl,.inr (.inr (.inr ⟨rfl,.inl ⟨rfl,rfl⟩⟩))⟩)⟩
 | vnil=>exact Zfw
 | vcons _ _ ih1 ih2=>exact Zcc ih1.1 (ih1.2 0) ih2
 | onil=>exact Zgc
 | ocons hs _ _ ih1 ih2=>exact Zfp ih1.1 ih2
 | pnil=>exact Zh7
 | pcons hs _ ih=>exact Zf3 ih
 | body _ ih=>exact Zg2 ih.1 rfl
 | block _ ih=>exact ⟨Zg2 ih.1 rfl,_,_,_,rfl⟩
 | decl0 hk hs=>exact ⟨Zeu hk,by rw [Z5i (by omega)]; exact Z4j⟩
 | decl1 hk hs _ ih=>exact ⟨Zfa hk ih.1,by rw [Z4l hk]; exact Z4j⟩
 | func hs _ _ ih1 ih2=>exact ⟨Zif hs ih1 ih2,by rw [Z8s]; exact Z67 (.inr rfl) (by decide)⟩
 | blk _ ih =>
   obtain ⟨h,t,n,r,rfl⟩:=ih;exact ⟨Zcy h ⟨t,n,r,rfl⟩,by rw [Z42]; exact Z67 (.inl rfl) (by decide)⟩
 | if2 _ _ ih1 ih2=>exact ⟨Z8l (.inl rfl) ih1.1 ih2.1,by rw [Z6y (.inl rfl)]; exact Z4j⟩
 | if3 _ _ _ hd ih1 ih2 ih3=>exact ⟨Zi1 ih1.1 ih2.1 ih3.1 hd,by rw [Zc3]; exact Z4j⟩
 | loop hk _ _ ih1 ih2=>exact ⟨Z8l (.inr hk) ih1.1 ih2.1,by rw [Z6y (.inr hk)]; exact Z4j⟩
 | ret0=>exact ⟨Zgm,by rw [Z8g (.inl rfl)]; exact Z4j⟩
 | ret1 hk _ ih=>exact ⟨Zh8 hk ih.1 (ih.2 0),by rw [Z77 hk]; exact Z4j⟩
 | tryc _ hs _ ih1 ih2=>exact ⟨Zhe ih1.1 ih2.1,by rw [Z44]; exact Z67 (.inr rfl) (by decide)⟩
 | tryf _ _ ih1 ih2=>exact ⟨Zh6 ih1.1 ih2.1,by rw [Z44]; exact Z67 (.inr rfl) (by decide)⟩
 | trycf _ hs _ _ ih1 ih2 ih3=>exact ⟨Zf8 ih1.1 ih2.1 ih3.1,by rw [Z44]; exact Z67 (.inr rfl) (by decide)⟩
 | empty=>exact ⟨Zfk,by rw [Z6g]; exact Z67 (.inl rfl) (by decide)⟩
 | expr _ ih=>exact ⟨Zh9 ih.1 (ih.2 0),by rw [Z70]; exact (ih.2 0).pare.st⟩
 | snil=>exact ⟨Zb1,fun y r h=>by cases h⟩
 | scons _ _ ih1 ih2=>exact ⟨Z9i ih1.1 ih1.2 ih2.1 ih2.2,fun y r h=>by cases h; exact ih1.2⟩
theorem Z88:∀ (l:List Tree) (first:Bool),(pP l).filterMap Pc.tok=(bP first l).filterMap Pc.tok
 | [],f=>by rw [Z52]; rfl
 | x :: l, f => by
   have e:pP (x :: l)=sP x ++ .sp 10 :: pP l:=rfl;have this:(sepP f [sp]).filterMap Pc.tok=[]:=by cases f <;> rfl
   rw [e,Z35,List.filterMap_append,List.filterMap_append,List.filterMap_append,this,List.nil_append,← Z88 l false];rfl
theorem Zho:∀ (l:List (Int×ByteArray×Int)) (r:List Tok) (us:List Tok),r.map Tok.st=l ++ us.map Tok.st→us.length + l.length=r.length→Mt l r (r.drop l.length)
 | [],r,us,_,_=>rfl
 | a :: l,[],us,h,_=>by simp at h
 | a :: l, t :: r, us, h, hl => by
   simp only [List.map_cons,List.cons_append,List.cons.injEq] at h;exact ⟨t,r,rfl,h.1,Zho l r us h.2 (by simp at hl; omega)⟩
theorem Zbp {l:List Tree} (h:Wf .sl l) (hm:(Tree.mk 1 (strT l) 0 l).many≤1500) (hs:(Z6x l).size≤3000):Z12 (Z6x l)=.ok (.mk 1 (strT l) 0 l)∨∃ p,Z12 (Z6x l)=.error (4,p):=by
 obtain ⟨r,h1,h2⟩:=Zbf (Zaj h);have h1':Z4y (Z6x l)=.ok r:=h1;rw [Z88 l true] at h2;obtain ⟨toks,ht⟩:=zX ((bP true l).filterMap Pc.tok)
 rw [← ht] at h2;have hl:r.length=toks.length + 1:=by
  have:=congrArg List.length h2;simpa using this
 have h3:Mt toks r (r.drop toks.length):=by
  refine Zho toks r [⟨6,ByteArray.empty,0,0⟩] (by rw [h2]; rfl) (by simp; omega)
 have h4:Mp (bP true l) r (r.drop toks.length):=by unfold Mp; rw [← ht]; exact h3
 have h5:(hdT (r.drop toks.length)).kind=6:=by
  have h6:(r.drop toks.length).map Tok.st=[endP]:=by rw [List.map_drop,h2]; simp
  obtain ⟨t,ht⟩:=List.map_eq_singleton_iff.1 h6;rw [ht.1];have:=congrArg Prod.fst ht.2;exact this
 have h7:=(Zip h).1 true [] 1 (40 * r.length + 31) 0 r _ h4 (by unfold EndS; rw [Y5 rfl]; exact decide_eq_true h5);rw [List.nil_append] at h7;have hsome:=Z79 (40 * r.length + 31) (.stmts 1 []) 0 r (by simp [Job.rank]);unfold Z12;rw [Y3 (by omega),h1'];simp only;cases hp:Z0 (40 * r.length + 31) (.stmts 1 []) 0 r with
 | none=>exact absurd hp hsome
 | some y =>
   rcases h7 y hp with ⟨p,rfl⟩ | e;·exact .inr ⟨p,rfl⟩
   ·have e':y=.ok (.mk 1 (strT l) 0 l,r.drop toks.length):=e;subst e';left;simp only;rw [Y3 (by omega)]
theorem Z49.base {w:World} {B B':Nat} {v:Value} {l:List ByteArray} (h:Z49 w B v l) (hB:B'≤B):Z49 w B' v l:=by
 refine ⟨h.1,?_⟩;rcases h.2 with hn | ⟨g,cap,cur,h1,h2,rest⟩;·exact .inl hn
 ·exact .inr ⟨g,cap,cur,h1,by omega,rest⟩
end Go.Proofs.YtfgpdfcpkibkoaaGreatDoor
