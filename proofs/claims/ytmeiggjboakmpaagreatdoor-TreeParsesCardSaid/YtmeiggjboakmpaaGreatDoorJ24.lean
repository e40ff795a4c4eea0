/- A region that draws its order, walked as a tree of two or three branch -/
import Derived.Test.YtmeiggjboakmpaaGreatDoorJ01
namespace Go.Proofs.YtmeiggjboakmpaaGreatDoor
open Go
section
variable {P:Program} {ops:Array Oper} {md:Region.Mode} {Q:Exit→Act→World→Prop} {S:World→Prop} {t:Nat}
theorem Z7o {m:Array Bool} {i j:Nat} (h:i < m.size):(m.setIfInBounds i true).getD j false=if i=j then true else m.getD j false:=by
 by_cases e:i=j;·subst e; rw [Yb rfl]; simp [h]
 ·rw [Y9 e,getD_set_ne false e]
def Z69 (P:Program) (md:Region.Mode) (ops:Array Oper) (Q:Exit→Act→World→Prop) (S:World→Prop) (t:Nat):Nat→Array Bool→Act→World→Prop
 | 0,listed,a,w=>Region.ready md ops listed=[]∧Q .normal a w
 | fuel + 1, listed, a, w =>
   (Region.ready md ops listed=[]→Q .normal a w) ∧
   ∀ i∈Region.ready md ops listed,wpOp P ops Q i (fun a' w'=>((listed.setIfInBounds i true).getD t false=false→S w')∧Z69 P md ops Q S t fuel (listed.setIfInBounds i true) a' w') a w
theorem Z9b:∀ (fuel:Nat) (listed:Array Bool) (a:Act) (w:World),Z69 P md ops Q S t fuel listed a w→wpAny P md ops Q fuel listed a w
 | 0,_,_,_,h=>h
 | fuel + 1,_,_,_,h=>⟨h.1,fun i hi=>wpOp_mono (fun a' w' h'=>Z9b fuel _ a' w' h'.2) (h.2 i hi)⟩
theorem Z7i {i:Nat} {oi:Oper} {v:Value} {S':World→Prop} (hi:ops[i]?=some oi) (hsel:∀ (j:Nat) (o:Oper) cs b,ops[j]?=some o→o.op≠.select cs b)
 (hQ:∀ c a w,Q (.panic c) (a.put oi.dst v) w→Q (.panic c) a w) (hit:i≠t) :
 ∀ (fuel : Nat) (listed : Array Bool) (a : Act) (w : World), listed.size = ops.size →
   (∀ j oj,ops[j]?=some oj→j≠i→listed.getD j true=false→(∀ e∈oj.after,Region.binds md e=true→e.on≠i)→oi.apart ops oj=true) →
   i∈Region.ready md ops listed→YieldsIf P ops S' oi v a→((waits md ops t i=true∧listed.getD t false=false∧S'=S)∨S'=fun _=>True)→(listed.getD t false=false→S w) →
   Z69 P md ops Q S t fuel (listed.setIfInBounds i true) (a.put oi.dst v) w→Z69 P md ops Q S t (fuel + 1) listed a w:=by
 have key:∀ (listed:Array Bool) (w:World),((waits md ops t i=true∧listed.getD t false=false∧S'=S)∨S'=fun _=>True)→(listed.getD t false=false→S w)→S' w:=by
  intro listed w h1 h2;rcases h1 with ⟨_,h,rfl⟩ | rfl;·exact h2 h
  ·trivial
 have same:∀ (listed:Array Bool),(listed.setIfInBounds i true).getD t false=listed.getD t false:=fun l=>getD_set_ne false hit;intro fuel;induction fuel with
 | zero =>
   intro listed a w _ _ hr hy h1 hS H;refine ⟨fun h=>(by rw [h] at hr; cases hr),fun j hj=>?_⟩;by_cases hji:j=i;·subst hji; exact hy.wpOp hi (key _ _ h1 hS) ⟨fun h=>hS ((same listed).symm.trans h),H⟩
   ·have:=ready_mono hj hji;rw [H.1] at this;cases this
 | succ fuel ih =>
   intro listed a w hsz hfree hr hy h1 hS H;refine ⟨fun h=>(by rw [h] at hr; cases hr),fun j hj=>?_⟩;by_cases hji:j=i;·subst hji; exact hy.wpOp hi (key _ _ h1 hS) ⟨fun h=>hS ((same listed).symm.trans h),H⟩
   ·have h2:=H.2 j (ready_mono hj hji);obtain ⟨hjun,oj,hoj,hall⟩:=mem_ready.1 hj;have hun:listed.getD i true=false:=(mem_ready.1 hr).1;have hunf:listed.getD i false=false:=by
     rcases Nat.lt_or_ge i listed.size with h' | h';·simp [h'] at hun ⊢; exact hun
     ·simp [h']
    have hnot:∀ e∈oj.after,Region.binds md e=true→e.on≠i:=fun e he hb heq=>by
     have h1:=hall e he hb;rw [heq,hunf] at h1;cases h1
    have hjt:waits md ops t i=true→j≠t:=fun hw e=>by
     subst e;have:=Z7t hw hj;rw [hunf] at this;cases this
    have h3:=wpOp_putIf hoj (hfree j oj hoj hji hjun hnot) (fun cs b=>hsel i oi cs b hi) (fun cs b=>hsel j oj cs b hoj) hQ hy h2
    have hfree':∀ k ok,ops[k]?=some ok→k≠i→(listed.setIfInBounds j true).getD k true=false →
     (∀ e∈ok.after,Region.binds md e=true→e.on≠i)→oi.apart ops ok=true:=fun k ok hk hki hun hno=>by
     refine hfree k ok hk hki ?_ hno;by_cases hjk:j=k;·subst hjk; exact hjun
     ·rw [getD_set_ne true hjk] at hun; exact hun
    refine wpOp_mono (fun a' w' h4=>?_) h3;have hb:(listed.setIfInBounds j true).getD t false=false→S w':=fun h=>h4.2.1 (by rw [Z7m,getD_set_ne false hit]; exact h);refine ⟨hb,ih (listed.setIfInBounds j true) a' w' (by simpa using hsz) hfree' (ready_mono hr (Ne.symm hji)) h4.1 ?_ hb ?_⟩
    ·rcases h1 with ⟨q1, q2, q3⟩ | q;·exact .inl ⟨q1, by rw [getD_set_ne false (hjt q1)]; exact q2, q3⟩
     ·exact .inr q
    ·rw [Array.setIfInBounds_comm _ _ hji];exact h4.2.2
inductive Pl3
 | nil
 | take (i:Nat) (r:Pl3)
 | go (i:Nat) (r:Pl3)
 | two (i:Nat) (ri:Pl3) (j:Nat) (rj:Pl3)
 | three (i:Nat) (ri:Pl3) (j:Nat) (rj:Pl3) (k:Nat) (rk:Pl3)
def Pl3.len:Pl3→Nat
 | .nil=>0
 | .take _ r=>r.len + 1
 | .go _ r=>r.len + 1
 | .two _ r _ _=>r.len + 1
 | .three _ r _ _ _ _=>r.len + 1
def Z40 (P:Program) (md:Region.Mode) (ops:Array Oper) (Q:Exit→Act→World→Prop) (S:World→Prop) (t:Nat):Pl3→Bool→Act→World→Prop
 | .nil,_,a,w=>Q .normal a w
 | .take i r,b,a,w=>∃ o v,ops[i]?=some o∧((b=false∧waits md ops t i=true∧YieldsIf P ops S o v a)∨YieldsIf P ops (fun _=>True) o v a)∧Z40 P md ops Q S t r b (a.put o.dst v) w
 | .go i r,b,a,w=>wpOp P ops Q i (fun a' w'=>((b || i == t)=false→S w')∧Z40 P md ops Q S t r (b || i == t) a' w') a w
 | .two i ri j rj,b,a,w=>wpOp P ops Q i (fun a' w'=>((b || i == t)=false→S w')∧Z40 P md ops Q S t ri (b || i == t) a' w') a w∧wpOp P ops Q j (fun a' w'=>((b || j == t)=false→S w')∧Z40 P md ops Q S t rj (b || j == t) a' w') a w
 | .three i ri j rj k rk,b,a,w=>wpOp P ops Q i (fun a' w'=>((b || i == t)=false→S w')∧Z40 P md ops Q S t ri (b || i == t) a' w') a w∧wpOp P ops Q j (fun a' w'=>((b || j == t)=false→S w')∧Z40 P md ops Q S t rj (b || j == t) a' w') a w∧wpOp P ops Q k (fun a' w'=>((b || k == t)=false→S w')∧Z40 P md ops Q S t rk (b || k == t) a' w') a w
def plB3 (md:Region.Mode) (ops:Array Oper) (t:Nat):Pl3→Array Bool→Bool
 | .nil,listed=>(Region.ready md ops listed).isEmpty
 | .take i r,listed=>(Region.ready md ops listed).contains i && Region.free md ops listed i && decide (i≠t) && plB3 md ops t r (listed.setIfInBounds i true)
 | .go i r,listed=>decide (Region.ready md ops listed=[i]) && plB3 md ops t r (listed.setIfInBounds i true)
 | .two i ri j rj,listed=>decide (Region.ready md ops listed=[i,j]) && decide (ri.len=rj.len) && plB3 md ops t ri (listed.setIfInBounds i true) && plB3 md ops t rj (listed.setIfInBounds j true)
 | .three i ri j rj k rk,listed=>decide (Region.ready md ops listed=[i,j,k]) && decide (ri.len=rj.len) && decide (ri.len=rk.len) && plB3 md ops t ri (listed.setIfInBounds i true) && plB3 md ops t rj (listed.setIfInBounds j true) && plB3 md ops t rk (listed.setIfInBounds k true)
theorem Z32 (hsel:Region.noSelect ops=true) (hQ:∀ c a d v w,Q (.panic c) (Act.put a d v) w→Q (.panic c) a w) :
 ∀ (l:Pl3) (listed:Array Bool) (b:Bool) (a:Act) (w:World),listed.size=ops.size→listed.getD t false=b→plB3 md ops t l listed=true→(b=false→S w)→Z40 P md ops Q S t l b a w→Z69 P md ops Q S t l.len listed a w
 | .nil,listed,b,a,w,_,_,hB,_,h=>⟨by simpa [plB3] using hB,h⟩
 | .take i r, listed, b, a, w, hsz, hb, hB, hS, h => by
   simp only [plB3,Bool.and_eq_true,decide_eq_true_eq] at hB;obtain ⟨⟨⟨hr,hf⟩,hit⟩,hB'⟩:=hB;obtain ⟨o,v,ho,hy,h'⟩:=h;have hrec:=Z32 hsel hQ r (listed.setIfInBounds i true) b _ w (by simpa using hsz) ((getD_set_ne false hit).trans hb) hB' hS h';rcases hy with ⟨h0,hw,hy⟩ | hy;·exact Z7i ho (Region.noSelect_spec hsel) (fun c a w=>hQ c a _ _ w) hit r.len listed a w hsz (Region.free_spec ho hf) (by simpa using hr) hy (.inl ⟨hw,hb.trans h0,rfl⟩) (fun h=>hS (hb.symm.trans h)) hrec
   ·exact Z7i ho (Region.noSelect_spec hsel) (fun c a w=>hQ c a _ _ w) hit r.len listed a w hsz (Region.free_spec ho hf) (by simpa using hr) hy (.inr rfl) (fun h=>hS (hb.symm.trans h)) hrec
 | .go i r, listed, b, a, w, hsz, hb, hB, hS, h => by
   simp only [plB3,Bool.and_eq_true,decide_eq_true_eq] at hB;obtain ⟨hr,hB'⟩:=hB;obtain ⟨_,o,ho,_⟩:=mem_ready.1 (show i∈Region.ready md ops listed by rw [hr]; simp);have hil:i < listed.size:=by rw [hsz]; exact (Y6.1 ho).1
   have hbt:(listed.setIfInBounds i true).getD t false=(b || i == t):=by
    rw [Z7o hil,hb];by_cases e:i=t;·subst e; simp
    ·simp [e]
   refine ⟨fun h0=>(by rw [h0] at hr; cases hr),fun k hk=>?_⟩;rw [hr] at hk;have hki:k=i:=by simpa using hk
   subst hki;exact wpOp_mono (fun a' w' h'=>⟨fun hh=>h'.1 (hbt.symm.trans hh),Z32 hsel hQ r _ _ a' w' (by simpa using hsz) hbt hB' h'.1 h'.2⟩) h
 | .two i ri j rj, listed, b, a, w, hsz, hb, hB, hS, h => by
   simp only [plB3,Bool.and_eq_true,decide_eq_true_eq] at hB;obtain ⟨⟨⟨hr,hlen⟩,hB1⟩,hB2⟩:=hB;obtain ⟨_,o1,ho1,_⟩:=mem_ready.1 (show i∈Region.ready md ops listed by rw [hr]; simp);obtain ⟨_,o2,ho2,_⟩:=mem_ready.1 (show j∈Region.ready md ops listed by rw [hr]; simp);have hil:i < listed.size:=by rw [hsz]; exact (Y6.1 ho1).1
   have hjl:j < listed.size:=by rw [hsz]; exact (Y6.1 ho2).1
   have hbt:∀ k,k < listed.size→(listed.setIfInBounds k true).getD t false=(b || k == t):=fun k hk=>by
    rw [Z7o hk,hb];by_cases e:k=t;·subst e; simp
    ·simp [e]
   refine ⟨fun h0=>(by rw [h0] at hr; cases hr),fun k hk=>?_⟩;rw [hr] at hk;have hk':k=i∨k=j:=by simpa using hk
   rcases hk' with rfl | rfl;·exact wpOp_mono (fun a' w' h'=>⟨fun hh=>h'.1 ((hbt _ hil).symm.trans hh),Z32 hsel hQ ri _ _ a' w' (by simpa using hsz) (hbt _ hil) hB1 h'.1 h'.2⟩) h.1
   ·show wpOp P ops Q k (fun a' w'=>_∧Z69 P md ops Q S t ri.len _ a' w') a w;rw [hlen];exact wpOp_mono (fun a' w' h'=>⟨fun hh=>h'.1 ((hbt _ hjl).symm.trans hh),Z32 hsel hQ rj _ _ a' w' (by simpa using hsz) (hbt _ hjl) hB2 h'.1 h'.2⟩) h.2
 | .three i ri j rj k3 rk, listed, b, a, w, hsz, hb, hB, hS, h => by
   simp only [plB3,Bool.and_eq_true,decide_eq_true_eq] at hB;obtain ⟨⟨⟨⟨⟨hr,hlen⟩,hlen2⟩,hB1⟩,hB2⟩,hB3⟩:=hB;have hlt:∀ x,x∈Region.ready md ops listed→x < listed.size:=fun x hx=>by
    obtain ⟨_,o1,ho1,_⟩:=mem_ready.1 hx;rw [hsz]; exact (Y6.1 ho1).1
   have hil:i < listed.size:=hlt i (by rw [hr]; simp);have hjl:j < listed.size:=hlt j (by rw [hr]; simp);have hkl:k3 < listed.size:=hlt k3 (by rw [hr]; simp);have hbt:∀ k,k < listed.size→(listed.setIfInBounds k true).getD t false=(b || k == t):=fun k hk=>by
    rw [Z7o hk,hb];by_cases e:k=t;·subst e; simp
    ·simp [e]
   refine ⟨fun h0=>(by rw [h0] at hr; cases hr),fun k hk=>?_⟩;rw [hr] at hk;have hk':k=i∨k=j∨k=k3:=by simpa using hk
   rcases hk' with rfl | rfl | rfl;·exact wpOp_mono (fun a' w' h'=>⟨fun hh=>h'.1 ((hbt _ hil).symm.trans hh),Z32 hsel hQ ri _ _ a' w' (by simpa using hsz) (hbt _ hil) hB1 h'.1 h'.2⟩) h.1
   ·show wpOp P ops Q k (fun a' w'=>_∧Z69 P md ops Q S t ri.len _ a' w') a w;rw [hlen];exact wpOp_mono (fun a' w' h'=>⟨fun hh=>h'.1 ((hbt _ hjl).symm.trans hh),Z32 hsel hQ rj _ _ a' w' (by simpa using hsz) (hbt _ hjl) hB2 h'.1 h'.2⟩) h.2.1
   ·show wpOp P ops Q k (fun a' w'=>_∧Z69 P md ops Q S t ri.len _ a' w') a w;rw [hlen2];exact wpOp_mono (fun a' w' h'=>⟨fun hh=>h'.1 ((hbt _ hkl).symm.trans hh),Z32 hsel hQ rk _ _ a' w' (by simpa using hsz) (hbt _ hkl) hB3 h'.1 h'.2⟩) h.2.2
def Zjz (md:Region.Mode) (ops:Array Oper) (t:Nat) (pl:Pl3):Bool:=
 Region.noSelect ops && plB3 md ops t pl (Array.replicate ops.size false) && decide (pl.len=ops.size)
theorem Z4w {id:Nat} {l:List Oper} {a:Act} {w:World} (pl:Pl3) (t:Nat) (S:World→Prop) (hm:P.follows .mixedOrders=true)
 (hB:Zjz .any l.toArray t pl=true) (hQ:∀ c a d v w,Q (.panic c) (Act.put a d v) w→Q (.panic c) a w) (hS:S w.drew)
 (h:Z40 P .any l.toArray Q S t pl false a w.drew):(Code.region id l.toArray true).wp P Q a w:=by
 simp only [Zjz,Bool.and_eq_true,decide_eq_true_eq] at hB;obtain ⟨⟨hsel,hplan⟩,hlen⟩:=hB;refine wp_region_any hm ?_;have key:=Z9b _ _ _ _ (Z32 (P:=P) (md:=.any) (Q:=Q) (S:=S) (t:=t) hsel hQ pl (Array.replicate l.toArray.size false) false a w.drew (by simp) (Z67 _ _) hplan (fun _=>hS) h);rw [hlen] at key;exact key
theorem Z2o {o:Oper} {i:Nat} {r:Pl3} {a:Act} {w:World} (v:Value) (ho:ops[i]?=some o) (hwt:waits md ops t i=true)
 (hw:Region.wanted o (yielded ops a.tmps)=true) (hy:∀ w',S w'→(execOp a.eval o).run P w'=.ok (.value v) w') (h:Z40 P md ops Q S t r false (a.put o.dst v) w):Z40 P md ops Q S t (.take i r) false a w:=
 ⟨o,v,ho,.inl ⟨rfl,hwt,.inl ⟨hw,hy⟩⟩,h⟩
theorem Z1v {o:Oper} {i:Nat} {r:Pl3} {b:Bool} {a:Act} {w:World} (v:Value) (ho:ops[i]?=some o)
 (hw:Region.wanted o (yielded ops a.tmps)=true) (hy:∀ w',(execOp a.eval o).run P w'=.ok (.value v) w') (h:Z40 P md ops Q S t r b (a.put o.dst v) w):Z40 P md ops Q S t (.take i r) b a w:=
 ⟨o,v,ho,.inr (.inl ⟨hw,fun w' _=>hy w'⟩),h⟩
theorem Z2m {o:Oper} {i:Nat} {r:Pl3} {a:Act} {w:World} (ho:ops[i]?=some o) (hit:(i == t)=false) (hw:Region.wanted o (yielded ops a.tmps)=true)
 (h:∀ K:Act→World→Prop,(∀ a' w',S w'→Z40 P md ops Q S t r false a' w'→K a' w')→o.wp P a w K Q):Z40 P md ops Q S t (.go i r) false a w:=by
 unfold Z40 wpOp;simp only [ho];rw [Yb hw];exact .inl (h _ fun a' w' h1 h2=>⟨fun _=>h1,by simpa [hit] using h2⟩)
theorem Z86 {o:Oper} {i:Nat} {r:Pl3} {b:Bool} {a:Act} {w:World} (ho:ops[i]?=some o) (hit:(b || i == t)=true) (hw:Region.wanted o (yielded ops a.tmps)=true)
 (h:∀ K:Act→World→Prop,(∀ a' w',Z40 P md ops Q S t r true a' w'→K a' w')→o.wp P a w K Q):Z40 P md ops Q S t (.go i r) b a w:=by
 unfold Z40 wpOp;simp only [ho];rw [Yb hw];exact .inl (h _ fun a' w' h2=>⟨fun h3=>(by rw [hit] at h3; cases h3),by rw [hit]; exact h2⟩)
theorem Z9h {i j:Nat} {ri rj:Pl3} {b:Bool} {a:Act} {w:World} (h1:Z40 P md ops Q S t (.go i ri) b a w) (h2:Z40 P md ops Q S t (.go j rj) b a w):Z40 P md ops Q S t (.two i ri j rj) b a w:=⟨h1,h2⟩
theorem Z70 {i j k:Nat} {ri rj rk:Pl3} {b:Bool} {a:Act} {w:World} (h1:Z40 P md ops Q S t (.go i ri) b a w) (h2:Z40 P md ops Q S t (.go j rj) b a w) (h3:Z40 P md ops Q S t (.go k rk) b a w):Z40 P md ops Q S t (.three i ri j rj k rk) b a w:=⟨h1,h2,h3⟩
theorem Z96 {b:Bool} {a:Act} {w:World} (h:Q .normal a w):Z40 P md ops Q S t .nil b a w:=h
end
end Go.Proofs.YtmeiggjboakmpaaGreatDoor
