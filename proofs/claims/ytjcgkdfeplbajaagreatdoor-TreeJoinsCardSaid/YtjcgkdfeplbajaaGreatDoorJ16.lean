/- Package tree: a read tree is written as it tells. -/
import Derived.Test.YtjcgkdfeplbajaaGreatDoorJ15
import Derived.Lib.ItoaLen
namespace Go.Proofs.YtjcgkdfeplbajaaGreatDoor
open Go Go.RowKit
set_option maxRecDepth 100000
set_option maxHeartbeats 20000000
set_option linter.unusedVariables false
set_option linter.unusedSimpArgs false
theorem Z0d {a:ATree} {k:Int} {s:ByteArray} {n:Int} {ks:List Tree} (h:a.tree=.mk k s n ks):a.kind=k∧a.text=s∧a.n=n∧Zg a.kids=ks:=by
 obtain ⟨ab,av,ak,tx,an,aks⟩:=a;simp only [ATree.tree,Tree.mk.injEq] at h;exact h
theorem Z06 {l:List ATree} (h:Zg l=[]):l=[]:=by cases l with | nil=>rfl | cons a l=>simp [Zg] at h
theorem Zl {l:List ATree} {t:Tree} {r:List Tree} (h:Zg l=t :: r):∃ a l',l=a :: l'∧a.tree=t∧Zg l'=r:=by
 cases l with
 | nil=>simp [Zg] at h
 | cons a l=>simp only [Zg,List.cons.injEq] at h; exact ⟨a,l,rfl,h.1,h.2⟩
theorem Z2f (l:List Tree):l.length≤Zn l:=by
 induction l with
 | nil=>simp [Zn]
 | cons x l ih =>
   have:1≤x.many:=by cases x; simp [Tree.many]
   simp only [Zn,List.length_cons]; omega
theorem Z13:∀ l:List ATree,(Zg l).length=l.length:=fun l=>by rw [Z1i,Yl]
def Srt.st:Srt→Bool
 | .b | .k | .s | .sl=>true
 | _=>false
structure Tabs (w:World):Prop where
 pow:Pow w
 signs:Z2u w
 heads:Z28 w
def WG (w0:World) (c:Srt) (l:List Tree):Prop:=Zn l≤100000→∀ (Bt:Nat) (L:List ATree),Zg L=l→(∀ x∈L,TreeAt w0 Bt x)→∀ x∈L,(c.st=true→Z12 w0 x)∧(c.st=false→Ze w0 x)
section
variable {w0:World} {t:Tree} {l:List Tree} {Bt:Nat} {a:ATree} {c:Srt}
theorem Z4k:Zn [t]=t.many:=by simp [Zn]
theorem WG.w (h:WG w0 c [t]) (e:a.tree=t) (hT:TreeAt w0 Bt a) (hm:t.many≤100000) (hc:c.st=false):Ze w0 a:=
 (h (by rw [Z4k]; exact hm) Bt [a] (by rw [← e]; rfl) (by simpa using hT) a (by simp)).2 hc
theorem WG.s (h:WG w0 c [t]) (e:a.tree=t) (hT:TreeAt w0 Bt a) (hm:t.many≤100000) (hc:c.st=true):Z12 w0 a:=
 (h (by rw [Z4k]; exact hm) Bt [a] (by rw [← e]; rfl) (by simpa using hT) a (by simp)).1 hc
theorem WG.ofW (hc:c.st=false) (h:t.many≤100000→∀ (Bt:Nat) (a:ATree),a.tree=t→TreeAt w0 Bt a→Ze w0 a):WG w0 c [t]:=by
 intro hm Bt L hL hT x hx;obtain ⟨a,L',rfl,ha,h2⟩:=Zl hL;have h3:=Z06 h2;subst h3;have:x=a:=by simpa using hx
 subst this;exact ⟨fun e=>by (rw [hc] at e; cases e),fun _=>h (by rw [Z4k] at hm; exact hm) Bt x ha (hT x hx)⟩
theorem WG.ofS (hc:c.st=true) (h:t.many≤100000→∀ (Bt:Nat) (a:ATree),a.tree=t→TreeAt w0 Bt a→Z12 w0 a):WG w0 c [t]:=by
 intro hm Bt L hL hT x hx;obtain ⟨a,L',rfl,ha,h2⟩:=Zl hL;have h3:=Z06 h2;subst h3;have:x=a:=by simpa using hx
 subst this;exact ⟨fun _=>h (by rw [Z4k] at hm; exact hm) Bt x ha (hT x hx),fun e=>by (rw [hc] at e; cases e)⟩
theorem WG.cons {c':Srt} (hc:c'.st=c.st) (h1:WG w0 c' [t]) (h2:WG w0 c l):WG w0 c (t :: l):=by
 intro hm Bt L hL hT x hx;simp only [Zn] at hm;obtain ⟨a,L',rfl,ha,e2⟩:=Zl hL;rcases List.mem_cons.1 hx with rfl | hx2
 ·have:=h1 (by rw [Z4k]; omega) Bt [x] (by rw [← ha]; rfl) (by simpa using hT x (by simp)) x (by simp);rwa [hc] at this
 ·exact h2 (by omega) Bt L' e2 (fun y hy=>hT y (by simp [hy])) x hx2
theorem WG.nil:WG w0 c []:=by
 intro hm Bt L hL hT x hx;have h3:=Z06 hL;subst h3;cases hx
theorem WG.as {c':Srt} (hc:c'.st=c.st) (h:WG w0 c' l):WG w0 c l:=by
 intro hm Bt L hL hT x hx;have:=h hm Bt L hL hT x hx;rwa [hc] at this
theorem WG.wl (h:WG w0 c l) (hc:c.st=false) (hm:Zn l≤100000) {L:List ATree} (e:Zg L=l) (hT:∀ x∈L,TreeAt w0 Bt x):Z3f w0 L:=
 Zdl L (fun x hx=>(h hm Bt L e hT x hx).2 hc) (by have:=Z2f l; have h2:l.length=L.length:=(by rw [← e,Z13]); omega)
end
theorem Z1p {s:ByteArray} (h:Z2b s):s.size≤1000000:=by have:=h.2.1; omega
theorem Zdj {w0:World} (hB:Tabs w0) {c:Srt} {l:List Tree} (h:Wf c l):WG w0 c l:=by
 have hP:=hB.pow;have hS:=hB.signs;have hH:=hB.heads;induction h with
 | num h1 h2 =>
   refine WG.ofW rfl fun hm Bt a ha hT=>?_;obtain ⟨k1,k2,k3,k4⟩:=Z0d ha;simp only [Tree.many,Zn] at hm;have k4:=Z06 k4;exact Zcb a hT k1 (by rw [k3]; exact h1) (by rw [k3]; exact h2) hP
 | str h1 =>
   refine WG.ofW rfl fun hm Bt a ha hT=>?_;obtain ⟨k1,k2,k3,k4⟩:=Z0d ha;simp only [Tree.many,Zn] at hm;exact Zcc a hT k1 (by rw [k2]; omega)
 | @con k h1 h2 =>
   refine WG.ofW rfl fun hm Bt a ha hT=>?_;obtain ⟨k1,k2,k3,k4⟩:=Z0d ha;simp only [Tree.many,Zn] at hm;have:k=19∨k=20∨k=21∨k=22:=by omega
   rcases this with rfl | rfl | rfl | rfl;·exact Z96 a hT k1
   ·exact Z8v a hT k1
   ·exact Z8p a hT k1
   ·exact Z8n a hT k1
 | name h1 =>
   refine WG.ofW rfl fun hm Bt a ha hT=>?_;obtain ⟨k1,k2,k3,k4⟩:=Z0d ha;simp only [Tree.many,Zn] at hm;exact Z6m a hT k1
 | set h0 h1 h2 i1 i2 =>
   refine WG.ofW rfl fun hm Bt a ha hT=>?_;obtain ⟨k1,k2,k3,k4⟩:=Z0d ha;simp only [Tree.many,Zn] at hm;obtain ⟨x,r0,e0,t0,k4⟩:=Zl k4;obtain ⟨y,r1,e1,t1,k4⟩:=Zl k4;have k4:=Z06 k4;subst k4;subst e1;have hk:=e0;have Tx:TreeAt w0 Bt x:=hT.kid (by rw [hk]; simp);have Ty:TreeAt w0 Bt y:=hT.kid (by rw [hk]; simp);exact Zc0 a hT k1 x y hk (i1.w t0 Tx (by omega) rfl) (i2.w t1 Ty (by omega) rfl)
 | @two k x0 y0 h1 h2 g1 g2 i1 i2 =>
   refine WG.ofW rfl fun hm Bt a ha hT=>?_;obtain ⟨k1,k2,k3,k4⟩:=Z0d ha;simp only [Tree.many,Zn] at hm;obtain ⟨x,r0,e0,t0,k4⟩:=Zl k4;obtain ⟨y,r1,e1,t1,k4⟩:=Zl k4;have k4:=Z06 k4;subst k4;subst e1;have hk:=e0;have Tx:TreeAt w0 Bt x:=hT.kid (by rw [hk]; simp);have Ty:TreeAt w0 Bt y:=hT.kid (by rw [hk]; simp);have:k=25∨k=26∨k=27∨k=28∨k=29∨k=30∨k=31:=by omega
   rcases this with rfl | rfl | rfl | rfl | rfl | rfl | rfl;·exact Z84 a hT k1 x y hk (i1.w t0 Tx (by omega) rfl) (i2.w t1 Ty (by omega) rfl) hS
   ·exact Z93 a hT k1 x y hk (i1.w t0 Tx (by omega) rfl) (i2.w t1 Ty (by omega) rfl) hS
   ·exact Z8i a hT k1 x y hk (i1.w t0 Tx (by omega) rfl) (i2.w t1 Ty (by omega) rfl) hS
   ·exact Z98 a hT k1 x y hk (i1.w t0 Tx (by omega) rfl) (i2.w t1 Ty (by omega) rfl) hS
   ·exact Z9b a hT k1 x y hk (i1.w t0 Tx (by omega) rfl) (i2.w t1 Ty (by omega) rfl) hS
   ·exact Z8u a hT k1 x y hk (i1.w t0 Tx (by omega) rfl) (i2.w t1 Ty (by omega) rfl) hS
   ·exact Z8b a hT k1 x y hk (i1.w t0 Tx (by omega) rfl) (i2.w t1 Ty (by omega) rfl) hS
 | @one k x0 h1 h2 g1 i1 =>
   refine WG.ofW rfl fun hm Bt a ha hT=>?_;obtain ⟨k1,k2,k3,k4⟩:=Z0d ha;simp only [Tree.many,Zn] at hm;obtain ⟨x,r0,e0,t0,k4⟩:=Zl k4;have k4:=Z06 k4;subst k4;have hk:=e0;have Tx:TreeAt w0 Bt x:=hT.kid (by rw [hk]; simp);have:k=32∨k=33∨k=34:=by omega
   rcases this with rfl | rfl | rfl;·exact Z85 a hT k1 x hk (i1.w t0 Tx (by omega) rfl) hS
   ·exact Z8f a hT k1 x hk (i1.w t0 Tx (by omega) rfl) hS
   ·exact Z94 a hT k1 x hk (i1.w t0 Tx (by omega) rfl) hS
 | mem h1 g1 i1 =>
   refine WG.ofW rfl fun hm Bt a ha hT=>?_;obtain ⟨k1,k2,k3,k4⟩:=Z0d ha;simp only [Tree.many,Zn] at hm;obtain ⟨x,r0,e0,t0,k4⟩:=Zl k4;have k4:=Z06 k4;subst k4;have hk:=e0;have Tx:TreeAt w0 Bt x:=hT.kid (by rw [hk]; simp);exact Zc4 a hT k1 x hk (i1.w t0 Tx (by omega) rfl) (by rw [k2]; exact Z1p h1)
 | @call x0 l g1 g2 i1 i2 =>
   refine WG.ofW rfl fun hm Bt a ha hT=>?_;obtain ⟨k1,k2,k3,k4⟩:=Z0d ha;simp only [Tree.many,Zn] at hm;obtain ⟨x,L,hk,t0,k4⟩:=Zl k4;have Tx:TreeAt w0 Bt x:=hT.kid (by rw [hk]; simp);have hLl:L.length≤100000:=by
    have:=Z2f l;have h2:l.length=L.length:=by rw [← k4,Z13]
    omega
   exact Zar a hT k1 x L hk (i1.w t0 Tx (by omega) rfl) (i2.wl rfl (by omega) k4 fun y hy=>hT.kid (by rw [hk]; simp [hy])) hLl
 | lam h1 g1 g2 i1 i2 =>
   refine WG.ofW rfl fun hm Bt a ha hT=>?_;obtain ⟨k1,k2,k3,k4⟩:=Z0d ha;simp only [Tree.many,Zn] at hm;obtain ⟨p,r0,e0,t0,k4⟩:=Zl k4;obtain ⟨q,r1,e1,t1,k4⟩:=Zl k4;have k4:=Z06 k4;subst k4;subst e1;have hk:=e0;have Tp:TreeAt w0 Bt p:=hT.kid (by rw [hk]; simp);have Tq:TreeAt w0 Bt q:=hT.kid (by rw [hk]; simp);obtain ⟨p1,p2,p3,p4⟩:=Z0d t0;have hl:=i1.wl (Bt:=Bt) rfl (by omega) p4 fun y hy=>Tp.kid hy;have hf:=Zef a hT p q hk hl (i2.s t1 Tq (by omega) rfl) (by rw [k2]; rcases h1 with rfl | h1 <;> first | exact Yh _ | exact Z1p h1)
   exact Zc1 a hT k1 p q hk hf
 | obj g1 i1 =>
   refine WG.ofW rfl fun hm Bt a ha hT=>?_;obtain ⟨k1,k2,k3,k4⟩:=Z0d ha;simp only [Tree.many,Zn] at hm;exact Zca a hT k1 (i1.wl rfl (by omega) k4 fun y hy=>hT.kid hy)
 | vnil=>exact WG.nil
 | vcons _ _ i1 i2=>exact i1.cons rfl i2
 | onil=>exact WG.nil
 | ocons h1 _ _ i1 i2 =>
   refine WG.cons (c':=.v) rfl ?_ i2;refine WG.ofW rfl fun hm Bt a ha hT=>?_;obtain ⟨k1,k2,k3,k4⟩:=Z0d ha;simp only [Tree.many,Zn] at hm;obtain ⟨x,r0,e0,t0,k4⟩:=Zl k4;have k4:=Z06 k4;subst k4;have hk:=e0;have Tx:TreeAt w0 Bt x:=hT.kid (by rw [hk]; simp);exact Zab a hT k1 x hk (i1.w t0 Tx (by omega) rfl) (by rw [k2]; exact Z1p h1)
 | pnil=>exact WG.nil
 | pcons h1 _ i2 =>
   refine WG.cons (c':=.v) rfl ?_ i2;refine WG.ofW rfl fun hm Bt a ha hT=>?_;obtain ⟨k1,k2,k3,k4⟩:=Z0d ha;simp only [Tree.many,Zn] at hm;exact Z6m a hT k1
 | @body l _ i1 =>
   refine WG.ofS rfl fun hm Bt a ha hT=>?_;obtain ⟨k1,k2,k3,k4⟩:=Z0d ha;simp only [Tree.many,Zn] at hm;have hlen:=Z2f l;have h2:l.length=a.kids.length:=by rw [← k4,Z13]
   exact Z9e a hT k1 (fun x hx=>(i1 (by omega) Bt a.kids k4 (fun y hy=>hT.kid hy) x hx).1 rfl) (by omega)
 | @block l _ i1 =>
   refine WG.ofS rfl fun hm Bt a ha hT=>?_;obtain ⟨k1,k2,k3,k4⟩:=Z0d ha;simp only [Tree.many,Zn] at hm;have hlen:=Z2f l;have h2:l.length=a.kids.length:=by rw [← k4,Z13]
   exact Z9e a hT k1 (fun x hx=>(i1 (by omega) Bt a.kids k4 (fun y hy=>hT.kid hy) x hx).1 rfl) (by omega)
 | decl0 h0 h1 =>
   refine WG.ofS rfl fun hm Bt a ha hT=>?_;obtain ⟨k1,k2,k3,k4⟩:=Z0d ha;simp only [Tree.many,Zn] at hm;have k4:=Z06 k4;have hk:=k4;rcases h0 with rfl | rfl;·exact Zde a hT k1 hk hH (by rw [k2]; exact Z1p h1)
   ·exact Zd2 a hT k1 hk hH (by rw [k2]; exact Z1p h1)
 | decl1 h0 h1 g1 i1 =>
   refine WG.ofS rfl fun hm Bt a ha hT=>?_;obtain ⟨k1,k2,k3,k4⟩:=Z0d ha;simp only [Tree.many,Zn] at hm;obtain ⟨x,r0,e0,t0,k4⟩:=Zl k4;have k4:=Z06 k4;subst k4;have hk:=e0;have Tx:TreeAt w0 Bt x:=hT.kid (by rw [hk]; simp);rcases h0 with rfl | rfl | rfl;·exact Zb0 a hT k1 x hk (i1.w t0 Tx (by omega) rfl) hH (by rw [k2]; exact Z1p h1)
   ·exact Zbx a hT k1 x hk (i1.w t0 Tx (by omega) rfl) hH (by rw [k2]; exact Z1p h1)
   ·exact Zbg a hT k1 x hk (i1.w t0 Tx (by omega) rfl) hH (by rw [k2]; exact Z1p h1)
 | func h1 g1 g2 i1 i2 =>
   refine WG.ofS rfl fun hm Bt a ha hT=>?_;obtain ⟨k1,k2,k3,k4⟩:=Z0d ha;simp only [Tree.many,Zn] at hm;obtain ⟨p,r0,e0,t0,k4⟩:=Zl k4;obtain ⟨q,r1,e1,t1,k4⟩:=Zl k4;have k4:=Z06 k4;subst k4;subst e1;have hk:=e0;have Tp:TreeAt w0 Bt p:=hT.kid (by rw [hk]; simp);have Tq:TreeAt w0 Bt q:=hT.kid (by rw [hk]; simp);obtain ⟨p1,p2,p3,p4⟩:=Z0d t0;have hl:=i1.wl (Bt:=Bt) rfl (by omega) p4 fun y hy=>Tp.kid hy;have hf:=Zef a hT p q hk hl (i2.s t1 Tq (by omega) rfl) (by rw [k2]; exact Z1p h1);exact Zew a hT k1 p q hk hf
 | blk _ i1=>exact i1.as rfl
 | if2 g1 g2 i1 i2 =>
   refine WG.ofS rfl fun hm Bt a ha hT=>?_;obtain ⟨k1,k2,k3,k4⟩:=Z0d ha;simp only [Tree.many,Zn] at hm;obtain ⟨x,r0,e0,t0,k4⟩:=Zl k4;obtain ⟨y,r1,e1,t1,k4⟩:=Zl k4;have k4:=Z06 k4;subst k4;subst e1;have hk:=e0;have Tx:TreeAt w0 Bt x:=hT.kid (by rw [hk]; simp);have Ty:TreeAt w0 Bt y:=hT.kid (by rw [hk]; simp);exact Zex a hT k1 x y hk (i1.w t0 Tx (by omega) rfl) (i2.s t1 Ty (by omega) rfl) hH
 | if3 g1 g2 g3 hd i1 i2 i3 =>
   refine WG.ofS rfl fun hm Bt a ha hT=>?_;obtain ⟨k1,k2,k3,k4⟩:=Z0d ha;simp only [Tree.many,Zn] at hm;obtain ⟨x,r0,e0,t0,k4⟩:=Zl k4;obtain ⟨y,r1,e1,t1,k4⟩:=Zl k4;obtain ⟨z,r2,e2,t2,k4⟩:=Zl k4;have k4:=Z06 k4;subst k4;subst e2;subst e1;have hk:=e0;have Tx:TreeAt w0 Bt x:=hT.kid (by rw [hk]; simp);have Ty:TreeAt w0 Bt y:=hT.kid (by rw [hk]; simp);have Tz:TreeAt w0 Bt z:=hT.kid (by rw [hk]; simp);exact Zfe a hT k1 x y z hk (i1.w t0 Tx (by omega) rfl) (i2.s t1 Ty (by omega) rfl) (i3.s t2 Tz (by omega) rfl) hH
 | loop h0 g1 g2 i1 i2 =>
   refine WG.ofS rfl fun hm Bt a ha hT=>?_;obtain ⟨k1,k2,k3,k4⟩:=Z0d ha;simp only [Tree.many,Zn] at hm;obtain ⟨x,r0,e0,t0,k4⟩:=Zl k4;obtain ⟨y,r1,e1,t1,k4⟩:=Zl k4;have k4:=Z06 k4;subst k4;subst e1;have hk:=e0;have Tx:TreeAt w0 Bt x:=hT.kid (by rw [hk]; simp);have Ty:TreeAt w0 Bt y:=hT.kid (by rw [hk]; simp);rcases h0 with rfl | rfl;·exact Zeo a hT k1 x y hk (i1.w t0 Tx (by omega) rfl) (i2.s t1 Ty (by omega) rfl) hH
   ·exact Zev a hT k1 x y hk (i1.w t0 Tx (by omega) rfl) (i2.s t1 Ty (by omega) rfl) hH
 | ret0 =>
   refine WG.ofS rfl fun hm Bt a ha hT=>?_;obtain ⟨k1,k2,k3,k4⟩:=Z0d ha;simp only [Tree.many,Zn] at hm;have k4:=Z06 k4;have hk:=k4;exact Zf5 a hT k1 hk hH
 | ret1 h0 g1 i1 =>
   refine WG.ofS rfl fun hm Bt a ha hT=>?_;obtain ⟨k1,k2,k3,k4⟩:=Z0d ha;simp only [Tree.many,Zn] at hm;obtain ⟨x,r0,e0,t0,k4⟩:=Zl k4;have k4:=Z06 k4;subst k4;have hk:=e0;have Tx:TreeAt w0 Bt x:=hT.kid (by rw [hk]; simp);rcases h0 with rfl | rfl;·exact Ze4 a hT k1 x hk (i1.w t0 Tx (by omega) rfl) hH
   ·exact Zd5 a hT k1 x hk (i1.w t0 Tx (by omega) rfl) hH
 | tryc g1 h1 g2 i1 i2 =>
   refine WG.ofS rfl fun hm Bt a ha hT=>?_;obtain ⟨k1,k2,k3,k4⟩:=Z0d ha;simp only [Tree.many,Zn] at hm;obtain ⟨b,r0,e0,t0,k4⟩:=Zl k4;obtain ⟨x,r1,e1,t1,k4⟩:=Zl k4;have k4:=Z06 k4;subst k4;subst e1;have hk:=e0;have Tb:TreeAt w0 Bt b:=hT.kid (by rw [hk]; simp);have Tx:TreeAt w0 Bt x:=hT.kid (by rw [hk]; simp);obtain ⟨u1,u2,u3,u4⟩:=Z0d t1;obtain ⟨c1,q1,v1,w1,u4⟩:=Zl u4;have u4:=Z06 u4;subst u4;have H1:Z4j w0 Bt x:=⟨c1,Tx,v1,by rw [u1]; simp,by rw [u2]; exact Z1p h1,i2.s w1 (Tx.kid (by rw [v1]; simp)) (by omega) rfl⟩
   exact Zb4 a hT k1 b [x] hk (i1.s t0 Tb (by omega) rfl) (by simp) (by simpa using H1) (by simp)
 | tryf g1 g2 i1 i2 =>
   refine WG.ofS rfl fun hm Bt a ha hT=>?_;obtain ⟨k1,k2,k3,k4⟩:=Z0d ha;simp only [Tree.many,Zn] at hm;obtain ⟨b,r0,e0,t0,k4⟩:=Zl k4;obtain ⟨x,r1,e1,t1,k4⟩:=Zl k4;have k4:=Z06 k4;subst k4;subst e1;have hk:=e0;have Tb:TreeAt w0 Bt b:=hT.kid (by rw [hk]; simp);have Tx:TreeAt w0 Bt x:=hT.kid (by rw [hk]; simp);obtain ⟨u1,u2,u3,u4⟩:=Z0d t1;obtain ⟨c1,q1,v1,w1,u4⟩:=Zl u4;have u4:=Z06 u4;subst u4;have H1:Z4j w0 Bt x:=⟨c1,Tx,v1,by rw [u1]; simp,by rw [u2]; exact Yh _,i2.s w1 (Tx.kid (by rw [v1]; simp)) (by omega) rfl⟩
   exact Zb4 a hT k1 b [x] hk (i1.s t0 Tb (by omega) rfl) (by simp) (by simpa using H1) (by simp)
 | trycf g1 h1 g2 g3 i1 i2 i3 =>
   refine WG.ofS rfl fun hm Bt a ha hT=>?_;obtain ⟨k1,k2,k3,k4⟩:=Z0d ha;simp only [Tree.many,Zn] at hm;obtain ⟨b,r0,e0,t0,k4⟩:=Zl k4;obtain ⟨x,r1,e1,t1,k4⟩:=Zl k4;obtain ⟨y,r2,e2,t2,k4⟩:=Zl k4;have k4:=Z06 k4;subst k4;subst e2;subst e1;have hk:=e0;have Tb:TreeAt w0 Bt b:=hT.kid (by rw [hk]; simp);have Tx:TreeAt w0 Bt x:=hT.kid (by rw [hk]; simp);have Ty:TreeAt w0 Bt y:=hT.kid (by rw [hk]; simp);obtain ⟨u1,u2,u3,u4⟩:=Z0d t1;obtain ⟨c1,q1,v1,w1,u4⟩:=Zl u4;have u4:=Z06 u4;subst u4
   have H1:Z4j w0 Bt x:=⟨c1,Tx,v1,by rw [u1]; simp,by rw [u2]; exact Z1p h1,i2.s w1 (Tx.kid (by rw [v1]; simp)) (by omega) rfl⟩
   obtain ⟨u1,u2,u3,u4⟩:=Z0d t2;obtain ⟨c2,q2,v2,w2,u4⟩:=Zl u4;have u4:=Z06 u4;subst u4;have H2:Z4j w0 Bt y:=⟨c2,Ty,v2,by rw [u1]; simp,by rw [u2]; exact Yh _,i3.s w2 (Ty.kid (by rw [v2]; simp)) (by omega) rfl⟩
   exact Zb4 a hT k1 b [x,y] hk (i1.s t0 Tb (by omega) rfl) (by simp) (by simpa using ⟨H1,H2⟩) (by simp)
 | empty =>
   refine WG.ofS rfl fun hm Bt a ha hT=>?_;obtain ⟨k1,k2,k3,k4⟩:=Z0d ha;simp only [Tree.many,Zn] at hm;exact Zd9 a hT k1
 | expr g1 i1 =>
   refine WG.ofS rfl fun hm Bt a ha hT=>?_;obtain ⟨k1,k2,k3,k4⟩:=Z0d ha;simp only [Tree.many,Zn] at hm;obtain ⟨x,r0,e0,t0,k4⟩:=Zl k4;have k4:=Z06 k4;subst k4;have hk:=e0;have Tx:TreeAt w0 Bt x:=hT.kid (by rw [hk]; simp);exact Zer a hT k1 x hk (i1.w t0 Tx (by omega) rfl)
 | snil=>exact WG.nil
 | scons _ _ i1 i2=>exact i1.cons rfl i2
def lenP (l:List Pc):Nat:=(Z5 l).length
theorem Zk:lenP []=0:=rfl
theorem Zi (l m:List Pc):lenP (l ++ m)=lenP l + lenP m:=by unfold lenP; rw [Za,Yi]
theorem Zv (c:UInt8) (l:List Pc):lenP (.sp c :: l)=1 + lenP l:=by unfold lenP; rw [Z8,Yi]; rfl
theorem Zt (c:UInt8) (l:List Pc):lenP (.t 5 ⟨#[c]⟩ 0 :: l)=1 + lenP l:=by unfold lenP; rw [Z8,Yi]; rfl
theorem Zy (s:ByteArray) (l:List Pc):lenP (.t 2 s 0 :: l)=s.size + lenP l:=by unfold lenP; rw [Z8,Yi]; simp [Pc.bytes]
theorem Zx (s:ByteArray) (l:List Pc):lenP (.t 1 s 0 :: l)=s.size + lenP l:=by unfold lenP; rw [Z8,Yi]; simp [Pc.bytes]
theorem Z9m (k:Int):lenP (sgnP k)≤10:=by
 unfold sgnP;repeat' split
 all_goals (show _≤10; decide)
theorem Z2z (k:Int):lenP (Z5q k)≤10:=by
 unfold Z5q;repeat' split
 all_goals (show _≤10; decide)
theorem Ze0 (k:Int):(Z9d k).size≤10:=by
 unfold Z9d;repeat' split
 all_goals (show _≤10; decide)
theorem Z7n (p:Bool) (l:List Pc):lenP (Z8t p l)≤lenP l + 2:=by
 unfold Z8t;split;·rw [Zt,Zi,Zt,Zk]; omega
 ·omega
theorem Z61 (f:Bool):lenP (sepP f [sg 44,sp])≤2:=by cases f <;> decide
theorem Zcl (f:Bool):lenP (sepP f [sp])≤1:=by cases f <;> decide
theorem Zd8 {n:Int} (h0:0≤n) (h1:n≤1000000000):lenP [.t 3 ByteArray.empty n]≤30:=by
 unfold lenP;rw [Z8,Z18,List.append_nil];have:=Lib.itoa_length_le n (by omega) (by omega);show (Lib.itoa n).length≤30;omega
theorem Zdy (l:List UInt8):(l.flatMap escB).length≤2 * l.length:=by
 induction l with
 | nil=>simp
 | cons u l ih =>
   rw [List.flatMap_cons,Yi,List.length_cons]
   have : (escB u).length ≤ 2 := by unfold escB; repeat' split
                                    all_goals simp
   omega
theorem Zdg {s:ByteArray} (h:s.size≤500):lenP [.t 4 s 0]≤1010:=by
 unfold lenP;rw [Z8,Z18,List.append_nil];show (Z49 s).length≤_;unfold Z49;have:=Zdy s.data.toList;simp only [List.length_cons,List.length_append,List.length_nil];have h2:s.data.toList.length=s.size:=by simp
 omega
theorem Zco {s:ByteArray} (h:s.size≤20) (l b:List Pc):lenP (fnP s l b)≤lenP l + lenP b + 40:=by
 unfold fnP;rw [Zy,Zi,Zt,Zi,Zt,Zv];have h1:lenP (if s.size=0 then [] else [sp,nm s])≤21:=by
  split;·rw [Zk]; omega
  ·rw [Zv,Zx,Zk]; omega
 have h2:Z0g.size=8:=by decide
 omega
def LG:Srt→List Tree→Prop
 | .v,l=>∀ x,l=[x]→∀ need,lenP (vP x need) + 4≤2000 * x.many
 | .vl,l | .ol,l | .pl,l=>∀ f,lenP (lP f l)≤2000 * Zn l
 | .b,l | .k,l | .s,l=>∀ x,l=[x]→lenP (sP x) + 4≤2000 * x.many
 | .sl,l=>(∀ f,lenP (bP f l)≤2000 * Zn l)∧lenP (pP l)≤2000 * Zn l
theorem LG.ofV {k:Int} {s:ByteArray} {n:Int} {ks:List Tree} (h:lenP (vbP k s n ks) + 6≤2000 * (1 + Zn ks)):LG .v [.mk k s n ks]:=by
 intro x e need;simp only [List.cons.injEq,and_true] at e;subst e;rw [Zbs,Tree.many];have:=Z7n (decide (Zf k < need)) (vbP k s n ks);omega
theorem LG.ofS {c:Srt} (hc:c=.b∨c=.k∨c=.s) {k:Int} {s:ByteArray} {n:Int} {ks:List Tree} (h:lenP (sP (.mk k s n ks)) + 4≤2000 * (1 + Zn ks)):LG c [.mk k s n ks]:=by
 have:∀ x,[Tree.mk k s n ks]=[x]→lenP (sP x) + 4≤2000 * x.many:=by
  intro x e;simp only [List.cons.injEq,and_true] at e;subst e;rw [Tree.many]; omega
 rcases hc with rfl | rfl | rfl <;> exact this
theorem Zfj {c:Srt} {l:List Tree} (h:Wf c l):LG c l:=by
 induction h with
 | num h1 h2 =>
   refine LG.ofV ?_;rw [Zb8];have:=Zd8 h1 h2
   first
    | (simp only [Zi,Zv,Zt,Zy,Zx,Zk,Zn,Tree.many] at *; omega)
    | (simp only [Zi,Zv,Zt,Zy,Zx,Zk,Zn,Tree.many]; omega)
 | str h1 =>
   refine LG.ofV ?_;rw [Zed];have:=Zdg h1
   first
    | (simp only [Zi,Zv,Zt,Zy,Zx,Zk,Zn,Tree.many] at *; omega)
    | (simp only [Zi,Zv,Zt,Zy,Zx,Zk,Zn,Tree.many]; omega)
 | con h1 h2 =>
   refine LG.ofV ?_;rw [Z81 h1 h2];have:=Ze0 ‹Int›
   first
    | (simp only [Zi,Zv,Zt,Zy,Zx,Zk,Zn,Tree.many] at *; omega)
    | (simp only [Zi,Zv,Zt,Zy,Zx,Zk,Zn,Tree.many]; omega)
 | name h1 =>
   refine LG.ofV ?_;rw [Z6p];have:=h1.2.1
   first
    | (simp only [Zi,Zv,Zt,Zy,Zx,Zk,Zn,Tree.many] at *; omega)
    | (simp only [Zi,Zv,Zt,Zy,Zx,Zk,Zn,Tree.many]; omega)
 | set h0 h1 h2 i1 i2 =>
   refine LG.ofV ?_;rw [Zbp];have:=i1 _ rfl 8;have:=i2 _ rfl 0
   first
    | (simp only [Zi,Zv,Zt,Zy,Zx,Zk,Zn,Tree.many] at *; omega)
    | (simp only [Zi,Zv,Zt,Zy,Zx,Zk,Zn,Tree.many]; omega)
 | two h1 h2 g1 g2 i1 i2 =>
   refine LG.ofV ?_;rw [Z57 h1 h2];have:=i1 _ rfl (Zf ‹Int›);have:=i2 _ rfl (Zf ‹Int› + 1);have:=Z9m ‹Int›
   first
    | (simp only [Zi,Zv,Zt,Zy,Zx,Zk,Zn,Tree.many] at *; omega)
    | (simp only [Zi,Zv,Zt,Zy,Zx,Zk,Zn,Tree.many]; omega)
 | one h1 h2 g1 i1 =>
   refine LG.ofV ?_;rw [Z9i h1 h2];have:=i1 _ rfl 7;have:=Z9m ‹Int›
   first
    | (simp only [Zi,Zv,Zt,Zy,Zx,Zk,Zn,Tree.many] at *; omega)
    | (simp only [Zi,Zv,Zt,Zy,Zx,Zk,Zn,Tree.many]; omega)
 | mem h1 g1 i1 =>
   refine LG.ofV ?_;rw [Zeb];have:=i1 _ rfl 8;have:=h1.2.1
   first
    | (simp only [Zi,Zv,Zt,Zy,Zx,Zk,Zn,Tree.many] at *; omega)
    | (simp only [Zi,Zv,Zt,Zy,Zx,Zk,Zn,Tree.many]; omega)
 | call g1 g2 i1 i2 =>
   refine LG.ofV ?_;rw [Z8x];have:=i1 _ rfl 8;have:=i2 true
   first
    | (simp only [Zi,Zv,Zt,Zy,Zx,Zk,Zn,Tree.many] at *; omega)
    | (simp only [Zi,Zv,Zt,Zy,Zx,Zk,Zn,Tree.many]; omega)
 | lam h1 g1 g2 i1 i2 =>
   refine LG.ofV ?_;rename_i s l b;rw [Zei];have h2:s.size≤20:=by
    rcases h1 with rfl | h1;·exact Yh _
    ·exact h1.2.1
   have:=Zco h2 (lP true l) (sP b);have:=i1 true;have:=i2 _ rfl;simp only [Zn,Tree.many];omega
 | obj g1 i1 =>
   refine LG.ofV ?_;rw [Zeh];have:=i1 true
   first
    | (simp only [Zi,Zv,Zt,Zy,Zx,Zk,Zn,Tree.many] at *; omega)
    | (simp only [Zi,Zv,Zt,Zy,Zx,Zk,Zn,Tree.many]; omega)
 | vnil=>intro f; rw [Z5o,Zk]; omega
 | vcons g1 g2 i1 i2 =>
   intro f;rw [Z3x,Zi,Zi];have:=Z61 f;have:=i1 _ rfl 0;have:=i2 false;simp only [Zn];omega
 | onil=>intro f; rw [Z5o,Zk]; omega
 | ocons h1 g1 g2 i1 i2 =>
   intro f;rename_i s x l;have h3:LG .v [.mk 39 s 0 [x]]:=by
    refine LG.ofV ?_;rw [Zbe];have:=i1 _ rfl 0;have:=h1.2.1;simp only [Zi,Zv,Zt,Zy,Zx,Zk,Zn,Tree.many];omega
   rw [Z3x,Zi,Zi];have:=Z61 f;have:=h3 _ rfl 0;have:=i2 false;simp only [Zn];omega
 | pnil=>intro f; rw [Z5o,Zk]; omega
 | pcons h1 g2 i2 =>
   intro f;rename_i s l;have h3:LG .v [.mk 23 s 0 []]:=by
    refine LG.ofV ?_;rw [Z6p];have:=h1.2.1;simp only [Zi,Zv,Zt,Zy,Zx,Zk,Zn,Tree.many];omega
   rw [Z3x,Zi,Zi];have:=Z61 f;have:=h3 _ rfl 0;have:=i2 false;simp only [Zn];omega
 | body g1 i1 =>
   refine LG.ofS (by simp) ?_;rw [Z8o];have:=i1.1 true
   first
    | (simp only [Zi,Zv,Zt,Zy,Zx,Zk,Zn,Tree.many] at *; omega)
    | (simp only [Zi,Zv,Zt,Zy,Zx,Zk,Zn,Tree.many]; omega)
 | block g1 i1 =>
   refine LG.ofS (by simp) ?_;rw [Z8o];have:=i1.1 true
   first
    | (simp only [Zi,Zv,Zt,Zy,Zx,Zk,Zn,Tree.many] at *; omega)
    | (simp only [Zi,Zv,Zt,Zy,Zx,Zk,Zn,Tree.many]; omega)
 | decl0 h0 h1 =>
   refine LG.ofS (by simp) ?_;rw [Z83 (by omega)];have:=h1.2.1;have:=Z2z ‹Int›
   first
    | (simp only [Zi,Zv,Zt,Zy,Zx,Zk,Zn,Tree.many] at *; omega)
    | (simp only [Zi,Zv,Zt,Zy,Zx,Zk,Zn,Tree.many]; omega)
 | decl1 h0 h1 g1 i1 =>
   refine LG.ofS (by simp) ?_;rw [Z77 (by omega)];have:=h1.2.1;have:=Z2z ‹Int›;have:=i1 _ rfl 0
   first
    | (simp only [Zi,Zv,Zt,Zy,Zx,Zk,Zn,Tree.many] at *; omega)
    | (simp only [Zi,Zv,Zt,Zy,Zx,Zk,Zn,Tree.many]; omega)
 | func h1 g1 g2 i1 i2 =>
   refine LG.ofS (by simp) ?_;rename_i s l b;rw [Zec];have:=Zco h1.2.1 (lP true l) (sP b);have:=i1 true;have:=i2 _ rfl;simp only [Zn,Tree.many];omega
 | blk g1 i1=>exact i1
 | if2 g1 g2 i1 i2 =>
   refine LG.ofS (by simp) ?_;rw [Zc8 (by omega)];have:=i1 _ rfl 0;have:=i2 _ rfl;have:=Z2z 7
   first
    | (simp only [Zi,Zv,Zt,Zy,Zx,Zk,Zn,Tree.many] at *; omega)
    | (simp only [Zi,Zv,Zt,Zy,Zx,Zk,Zn,Tree.many]; omega)
 | if3 g1 g2 g3 hd i1 i2 i3 =>
   refine LG.ofS (by simp) ?_;rw [Zfm];have:=i1 _ rfl 0;have:=i2 _ rfl;have:=i3 _ rfl;have:=Z2z 7;have:=show Z2o.size=4 by decide
   first
    | (simp only [Zi,Zv,Zt,Zy,Zx,Zk,Zn,Tree.many] at *; omega)
    | (simp only [Zi,Zv,Zt,Zy,Zx,Zk,Zn,Tree.many]; omega)
 | loop h0 g1 g2 i1 i2 =>
   refine LG.ofS (by simp) ?_;rw [Zc8 (by omega)];have:=i1 _ rfl 0;have:=i2 _ rfl;have:=Z2z ‹Int›
   first
    | (simp only [Zi,Zv,Zt,Zy,Zx,Zk,Zn,Tree.many] at *; omega)
    | (simp only [Zi,Zv,Zt,Zy,Zx,Zk,Zn,Tree.many]; omega)
 | ret0 =>
   refine LG.ofS (by simp) ?_;rw [Zej (by omega)];have:=Z2z 10
   first
    | (simp only [Zi,Zv,Zt,Zy,Zx,Zk,Zn,Tree.many] at *; omega)
    | (simp only [Zi,Zv,Zt,Zy,Zx,Zk,Zn,Tree.many]; omega)
 | ret1 h0 g1 i1 =>
   refine LG.ofS (by simp) ?_;rw [Zcj (by omega)];have:=i1 _ rfl 0;have:=Z2z ‹Int›
   first
    | (simp only [Zi,Zv,Zt,Zy,Zx,Zk,Zn,Tree.many] at *; omega)
    | (simp only [Zi,Zv,Zt,Zy,Zx,Zk,Zn,Tree.many]; omega)
 | tryc g1 h1 g2 i1 i2 =>
   refine LG.ofS (by simp) ?_;rw [Z9k,Z8a,Z95];have:=h1.2.1;have:=i1 _ rfl;have:=i2 _ rfl;have:=show Z4e.size=3 by decide
   have:=show Z10.size=5 by decide
   have:=show Zs.size=7 by decide
   first
    | (simp only [Zi,Zv,Zt,Zy,Zx,Zk,Zn,Tree.many] at *; omega)
    | (simp only [Zi,Zv,Zt,Zy,Zx,Zk,Zn,Tree.many]; omega)
 | tryf g1 g2 i1 i2 =>
   refine LG.ofS (by simp) ?_;rw [Z9k,Z5y,Z95];have:=i1 _ rfl;have:=i2 _ rfl;have:=show Z4e.size=3 by decide
   have:=show Z10.size=5 by decide
   have:=show Zs.size=7 by decide
   first
    | (simp only [Zi,Zv,Zt,Zy,Zx,Zk,Zn,Tree.many] at *; omega)
    | (simp only [Zi,Zv,Zt,Zy,Zx,Zk,Zn,Tree.many]; omega)
 | trycf g1 h1 g2 g3 i1 i2 i3 =>
   refine LG.ofS (by simp) ?_;rw [Z9k,Z8a,Z5y,Z95];have:=h1.2.1;have:=i1 _ rfl;have:=i2 _ rfl;have:=i3 _ rfl;have:=show Z4e.size=3 by decide
   have:=show Z10.size=5 by decide
   have:=show Zs.size=7 by decide
   first
    | (simp only [Zi,Zv,Zt,Zy,Zx,Zk,Zn,Tree.many] at *; omega)
    | (simp only [Zi,Zv,Zt,Zy,Zx,Zk,Zn,Tree.many]; omega)
 | empty =>
   refine LG.ofS (by simp) ?_;rw [Zcq]
   first
    | (simp only [Zi,Zv,Zt,Zy,Zx,Zk,Zn,Tree.many] at *; omega)
    | (simp only [Zi,Zv,Zt,Zy,Zx,Zk,Zn,Tree.many]; omega)
 | expr g1 i1 =>
   refine LG.ofS (by simp) ?_;rename_i x;rw [Zbz];have:=i1 _ rfl 0;have:=Z7n (Z74 (Z5 (vP x 0))) (vP x 0);unfold Zdx;simp only [Zi,Zv,Zt,Zy,Zx,Zk,Zn,Tree.many];omega
 | snil=>exact ⟨fun f=>by rw [Z80,Zk]; omega,by show lenP []≤_; rw [Zk]; omega⟩
 | scons g1 g2 i1 i2 =>
   have h1:=i1 _ rfl;have h3:=i2.2;refine ⟨fun f=>?_,?_⟩
   ·rw [Z4z,Zi,Zi];have:=Zcl f;have:=i2.1 false;simp only [Zn];omega
   ·rw [pP,Zi,Zv];simp only [Zn];omega
theorem Zb2 {l:List Tree} (h:Wf .sl l):(Z5 (pP l)).length≤2000 * Zn l:=(Zfj h).2
theorem Zee (L M:List Tree):pP (L ++ M)=pP L ++ pP M:=by
 induction L with
 | nil=>rfl
 | cons y L ih=>rw [List.cons_append,pP,pP,ih]; simp
theorem Zds (w:World) (hB:Tabs w) (Bt:Nat) (a:ATree) (hT:TreeAt w Bt a) (hl:Wf .sl (Zg a.kids)) (hm:Zn (Zg a.kids)≤10000) :
 Calls Tryz.prog 9 #[a.ptr] w fun e w'=>e=.returned (.string (Zdu (Zg a.kids)))∧Below w.heap.size w w':=by
 have hft:=Zb2 hl;have hst:=Zdj hB hl;have c3:=hT.c3;have hV:=Z5b hT;have hL:∀ x∈a.kids,Z12 w x:=fun x hx=>(hst (by omega) Bt a.kids rfl (fun y hy=>hT.kid hy) x hx).1 rfl;have hlt:=hT.lt;have hlen:a.kids.length≤100000:=by
  have:=Z2f (Zg a.kids);rw [Z13] at this;omega
 obtain ⟨L,hLL⟩:=zX a.kids
 rw [← hLL] at hL hft hV hlen hm ⊢;clear hLL;obtain ⟨p,cp,hpv,hge,hmx,hk⟩:=hV;rw [hpv] at c3;have HK:=lh hk;have HL:=lh hL;have HF:Hid ((Z5 (pP (Zg L))).length≤20000000):=lh (by have:=Z2f (Zg L); omega);obtain ⟨n,hn⟩:=zX L.length
 have HN:=lh hn;rw [← hn] at hge hlen c3;unfold maxLen at hmx;have hWn:BW w w.heap.size w.heap.size [] (w.alloc (.cells #[.pointer none,.slice none 0 0] 55)):=⟨(BAt.new w).is,(Y2 _ _).alloc (Y0 _) _,Y0 _,by rw [World.size_alloc]; omega⟩
 have HWN:=lh hWn;have y3:=hWn.cell c3;unfold ATree.ptr Zdu toB;clear hWn hft hst hk hL hn hpv hT hm hl hB;go_enter Tryz.func9,Tryz.ntmps9
 go_wp2_with fail
 go_loopw [13] (fun i wr=>∃ k:Nat,k≤n∧i=.int .i64 k∧Hid (BW w w.heap.size w.heap.size (Z5 (pP (Zg (L.take k)))) wr)) (fun i _=>n - (intOf i).toNat)
 case atStart=>exact ⟨0,by omega,rfl,HWN⟩
 case round=>
  obtain ⟨k,hkn,rfl,HWk⟩:=hrel;clear HWN;by_cases hlt:k < n
  ·obtain ⟨x, hx⟩ : ∃ x, L[k]? = some x := ⟨_, Y6 (by rw [← HN.out]; exact hlt)⟩
   obtain ⟨g,off,rfl,hc⟩:=HK.out k x hx;have cx:=HWk.out.cell hc;have hWx:=(HL.out x (Yd hx)).says;have htk:L.take (k + 1)=L.take k ++ [x]:=by rw [List.take_add_one,hx]; rfl
   have hsn:Z5 (pP (Zg (L.take (k + 1))))=Z5 (pP (Zg (L.take k))) ++ (Z5 (sP x.tree) ++ [10]):=by
    rw [htk,Z1z,show Zg [x]=[x.tree] from rfl,Zee,Za,pP,Za]; rfl
   have hpre:(Z5 (pP (Zg (L.take (k + 1))))).length≤(Z5 (pP (Zg L))).length:=by
    have h:Zg L=Zg (L.take (k + 1)) ++ Zg (L.drop (k + 1)):=by rw [← Z1z,List.take_append_drop]
    rw [h,Zee,Za,Yi]; omega
   obtain ⟨P,hP⟩:=zX (Z5 (pP (Zg (L.take k))))
   obtain ⟨X,hX⟩:=zX (Z5 (sP x.tree))
   have hft:=HF.out;rw [hsn,← hP,← hX] at hpre;simp only [List.length_append,List.length_cons,List.length_nil] at hpre;have hbd:P.length + X.length + 1≤20000000:=by omega
   have HBD:=lh hbd;have HSN:=lh hsn;have HPX:=lh (And.intro hP hX);rw [← hP] at HWk;rw [← hX] at hWx;have HWX:=lh hWx;unfold ATree.ptr at cx;have hkI:((k:Nat):Int) < (n:Int):=by omega
   clear hc htk hsn hpre hft hbd hP hX hWx hx;go_wp2_with fail
   refine (HWX.out w.heap.size w.heap.size _ _ HWk.out (by have:=HBD.out; omega)).mono ?_;rintro e' w2 ⟨rfl,hw2,hb2⟩;have HW2:=lh hw2;clear hw2 hb2;go_wp2_with fail
   refine (HW2.out.byte 10 (by have:=HBD.out; rw [Yi]; omega)).mono ?_;rintro e' w3 ⟨rfl,hw3,hb3⟩;have HW3:=lh hw3;clear hw3 hb3;go_wp2;go_roundw
   case rel=>exact ⟨k + 1,by omega,rfl,lh (by have h:=HW3.out; rw [HSN.out,← HPX.out.1,← HPX.out.2]; simpa using h)⟩
   case measure=>simp [intOf]; omega
  ·have hkn2 : k = n := by omega
   subst hkn2;have HWn:Hid (BW w w.heap.size w.heap.size (Z5 (pP (Zg L))) wr):=lh (by
    have h:=HWk.out;rwa [Ye (by rw [HN.out]; exact Y0 _)] at h)
   clear HWk HF;go_wp2_with fail
   refine (Tryz.Builder_String_any w.heap.size w.heap.size _ wr HWn.out.is HWn.out.sz).mono ?_;rintro e w3 ⟨rfl,hn3⟩;have HB3:Hid (Below w.heap.size w w3):=lh (HWn.out.bel.trans hn3);clear hn3;go_wp2;go_ret;exact ⟨rfl,HB3.out⟩
end Go.Proofs.YtjcgkdfeplbajaaGreatDoor
namespace Go.Proofs.YtjcgkdfeplbajaaGreatDoor
open Go Go.RowKit
set_option maxRecDepth 100000
set_option maxHeartbeats 20000000
set_option linter.unusedVariables false
theorem Zah:∀ {f d:Nat} {k:Int} {acc:List Tree} {us ts:List Tok} {t:Tree},Z0 f (.stmts k acc) d us=some (.ok (t,ts))→∃ tx l,t=.mk k tx 0 l:=by
 intro f;induction f with
 | zero=>intro d k acc us ts t h; cases h
 | succ f ih =>
   intro d k acc us ts t h;rw [Z0] at h;generalize (if k=1 then decide ((hdT us).kind=6) else isT Z03 us)=c at h;cases c
   ·obtain ⟨x,vs,_,h⟩:=Z0t h;exact ih h
   ·obtain ⟨rfl,_⟩:=Z21 h; exact ⟨_,_,rfl⟩
theorem Zao (f:Nat) (body:Bool) (hS:Says 12 (fun rb=>#[.pointer (some ⟨rb,0,none⟩),.int .i64 6,.string Z03]) (.stmts 6 []) f) :
 Says 45 (fun rb=>#[.pointer (some ⟨rb,0,none⟩),.bool body]) (.block body) (f + 1):=by
 intro w rb B d ts r hP hp;have hw:Z0i Z0u ts (fun ts=>Zz (Z0 f (.stmts 6 []) d ts) fun x ts=>Z0i Z03 ts fun ts=>okT (if body then x else .mk 6 ByteArray.empty 0 x.kids) ts)=some r:=hp;have HP:=lh hP;simp only;rcases Z17 hw with ⟨hs,h1⟩ | ⟨hs,rfl⟩
 ·have HC := lh (Z19 w rb ts d Z0u hP.rd hs);have H1 := lh h1;clear hP hp hw hs h1;go_enter Tryz.func45, Tryz.ntmps45
  go_wp2_with fail
  refine HC.out.mono ?_;rintro e w1 ⟨rfl,hR1,hF1⟩;have P1:=lh (HP.out.tail hR1 hF1);have F1:=lh hF1;clear hR1 hF1 HC;rcases Zp H1.out with ⟨⟨c,p⟩,hv,rfl⟩ | ⟨t,ts2,hv,h2⟩
  ·have HV := hS w1 rb B d _ _ P1.out hv;simp only at HV;unfold Z03 at HV;have HV := lh HV;clear hv;go_wp2_with fail
   refine HV.out.mono ?_;rintro e w2 ⟨⟨b,rfl,h1,h2⟩,hF⟩;exact ⟨rfl,Z01.pre F1.out (r:=.error (c,p)) ⟨⟨b,rfl,h1,h2⟩,hF⟩⟩
  ·have HV := hS w1 rb B d _ _ P1.out hv;simp only at HV;unfold Z03 at HV;have HV := lh HV;have hl := Z0k hv;obtain ⟨tx, l, rfl⟩ := Zah hv;have H2 := lh h2;clear hv h2;go_wp2_with fail
   refine HV.out.mono ?_;rintro e w2 ⟨a,rfl,hG,hR2,hF2⟩;obtain ⟨b,v,k,tx',n,kids⟩:=a;have htr:=hG.tree;simp only [ATree.tree,Tree.mk.injEq] at htr;obtain ⟨rfl,rfl,rfl,rfl⟩:=htr;have G2:=hG.pre F1.out;have F2:=F1.out.trans hF2;have hblk:=G2.at'.blkOf;simp only [ATree.b,ATree.v,ATree.kind,ATree.text,ATree.n] at hblk ⊢;have c1:w2.cell? ⟨b,1,none⟩=some (.string tx'):=by simp [World.cell?,hblk]
   have z1:w2.frozen? ⟨b,1,none⟩=false:=by simp [World.frozen?,hblk]
   have P2:=P1.out.next hR2 hF2 hl;have H3:=lh (Got.text (t':=ByteArray.empty) HP.out.lt HP.out.le G2 F2 hR2);have P2':Pre (w2.setCell ⟨b,1,none⟩ (.string ByteArray.empty)) rb B d ts2:=⟨H3.out.2.2,P2.deep,P2.lt,by rw [Yf]; exact P2.le,P2.few⟩
   have P2:=lh P2;have P2':=lh P2';have F2:=lh F2;have G2:=lh G2;clear hG hR2 hF2 HV hl hblk;rcases Z17 H2.out with ⟨hs,h3⟩ | ⟨hs,rfl⟩
   ·have h3 := Yc h3;have HR := lh h3.symm;cases body
    ·have HC := Z19 _ rb ts2 d Z03 P2'.out.rd hs;unfold Z03 at HC;have HC := lh HC;clear hs h3;go_wp2_with fail
     refine HC.out.mono ?_;rintro e w3 ⟨rfl,hR3,hF3⟩;have R3:=lh hR3;have F3:=lh hF3;clear hR3 hF3;go_wp2;go_ret;rw [HR.out];exact ⟨_,rfl,H3.out.1.rfr HP.out.lt F3.out,R3.out,H3.out.2.1.trans F3.out⟩
    ·have HC := Z19 _ rb ts2 d Z03 P2.out.rd hs;unfold Z03 at HC;have HC := lh HC;clear hs h3;go_wp2_with fail
     refine HC.out.mono ?_;rintro e w3 ⟨rfl,hR3,hF3⟩;have R3:=lh hR3;have F3:=lh hF3;clear hR3 hF3;go_wp2;go_ret;rw [HR.out];exact ⟨_,rfl,G2.out.rfr HP.out.lt F3.out,R3.out,F2.out.trans F3.out⟩
   ·cases body
    ·have HC := Z25 _ rb ts2 d Z03 P2'.out.rd hs;unfold Z03 at HC;have HC := lh HC;clear hs;go_wp2_with fail
     refine HC.out.mono ?_;rintro e w3 ⟨⟨b,rfl,h1,h2⟩,hB⟩;exact ⟨rfl,Z01.err H3.out.2.1 ⟨b,rfl,h1,h2⟩ hB⟩
    ·have HC := Z25 _ rb ts2 d Z03 P2.out.rd hs;unfold Z03 at HC;have HC := lh HC;clear hs;go_wp2_with fail
     refine HC.out.mono ?_;rintro e w3 ⟨⟨b,rfl,h1,h2⟩,hB⟩;exact ⟨rfl,Z01.err F2.out ⟨b,rfl,h1,h2⟩ hB⟩
 ·have HC := lh (Z25 w rb ts d Z0u hP.rd hs);clear hP hp hw hs;go_enter Tryz.func45, Tryz.ntmps45
  go_wp2_with fail
  refine HC.out.mono ?_;rintro e w3 ⟨⟨b,rfl,h1,h2⟩,hB⟩;exact ⟨rfl,Z01.err (RFr.refl _ _) ⟨b,rfl,h1,h2⟩ hB⟩
theorem Zbn (f:Nat) (kind:Int) (must:Bool) (hV:Says 52 rArg .value f) :
 Says 48 (fun rb=>#[.pointer (some ⟨rb,0,none⟩),.int .i64 kind,.bool must]) (.decl kind must) (f + 1):=by
 intro w rb B d ts r hP hp;have hw:Z1m ts (fun s ts=>if must && !isT s_eq ts then Z1k 3 ts else if isT s_eq ts then Zz (Z0 f .value d ts.tail) fun x ts=>okT (.mk kind s 0 [x]) ts else okT (.mk kind s 0 []) ts)=some r:=hp;have HP:=lh hP;simp only;rcases Z2a hw with ⟨hk,h1⟩ | ⟨hk,rfl⟩
 ·have HC := lh (Z2c w rb ts d hP.rd hk);obtain ⟨s, hs⟩ := zX ((hdT ts).text)
  rw [← hs] at HC h1;have H1:=lh h1;clear hP hp hw hk h1 hs;go_enter Tryz.func48,Tryz.ntmps48
  go_wp2_with fail
  refine HC.out.mono ?_;rintro e w1 ⟨rfl,hR1,hF1⟩;have P1:=HP.out.tail hR1 hF1;have HN:=lh (Z0a w1 rb kind s none 0 0);have hal:Below w1.heap.size w1 (w1.alloc (.cells #[.int .i64 kind,.string s,.int .i64 0,.slice none 0 0] 34)):=(Y2 _ _).alloc (Y0 _) _;obtain ⟨nb,hnb⟩:=zX w1.heap.size
  have G2:=Got.leaf (k:=kind) (t:=s) (n:=0) HP.out.le hF1;have P2:=P1.below hal;have F2:=hF1.trans (RFr.below (rb:=rb) hal);rw [← hnb] at G2 HN;go_wp2_with fail
  refine HN.out.mono ?_;rintro e w2 ⟨rfl,hw2⟩;rw [← hw2] at G2 P2 F2;have HNB:=lh hnb;have G2:=lh G2;have P2:=lh P2;have F2:=lh F2;clear hR1 hF1 HC P1 HN hal hnb hw2;obtain ⟨us,hus⟩:=zX ts.tail
  rw [← hus] at P2 H1;have HUS:=lh hus;clear hus;by_cases he:isT s_eq us=true
  ·have h1 := H1.out;rw [Y3 (by rw [he]; simp), Y5 he] at h1;have HI := Z2k w2 rb us d s_eq P2.out.rd;rw [he] at HI;unfold s_eq at HI;have HI := lh HI;have HE := lh he;have H2 := lh h1;clear h1 he;have key : ∀ w3, Below w2.heap.size w2 w3 → Hid (Pre w3 rb B d us ∧ Got w B w3 (.mk nb (.slice none 0 0) kind s 0 []) (.mk kind s 0 []) ∧ RFr w w3 rb) := fun w3 hB => lh ⟨P2.out.below hB, G2.out.rfr HP.out.lt (RFr.below (rb := rb) hB), F2.out.trans (RFr.below hB)⟩;have KEY := lh key;clear key;cases must
   ·have PX := lh P2.out;have GX := lh G2.out;have FX := lh F2.out;clear KEY HI;have HX := HP.out.lt;have hlt := HP.out.lt;have HT := Z0j w2 rb us d s_eq PX.out.rd HE.out;unfold s_eq at HT;have HT := lh HT;go_wp2_with fail
    refine HT.out.mono ?_;rintro e w5 ⟨rfl,hR5,hF5⟩;have P5:=PX.out.tail hR5 hF5;have G5:=GX.out.rfr hlt hF5;have F5:=FX.out.trans hF5;have hblk5:=G5.at'.blkOf;simp only [ATree.b,ATree.v,ATree.kind,ATree.text,ATree.n] at hblk5;have n3:w5.cell? ⟨nb,3,none⟩=some (.slice none 0 0):=by simp [World.cell?,hblk5]
    have P5:=lh P5;have G5:=lh G5;have F5:=lh F5;clear hR5 hF5 hblk5 HT PX GX FX;go_wp2_with fail
    refine Z4 [(true,0),(true,1),(true,2),(true,3),(true,4),(true,5),(false,6),(false,7),(false,8)] [9,10,11] (fun W=>W.cell? ⟨nb,3,none⟩=some (.slice none 0 0)) (by kernel_rfl) (by kernel_rfl) (fun _ _ d _ _ h=>by cases d <;> exact h) n3 (fun hS0=>?_);simp only [Zj,zD,zE,zF,zG,zH,zI]
    iterate 6
     first
      | (refine Z7 ?_ (by rfl) (fun w' hS'=>?_) ?_; rotate_left; (have s0:=hS'; go_simp; first | done | with_reducible rfl); simp only [Act.put,zA,zB,zC])
      | (refine Z6 (by rfl) ?_; simp only [Act.put,zA,zB,zC])
    refine Zd (fun K hK=>?_);go_simp
    have P6:Pre w5.drew rb B d us.tail:=P5.out.below (Y2 _ _).drew;rcases Zp H2.out with ⟨⟨c,p⟩,hv,rfl⟩ | ⟨t,vs,hv,hq3⟩
    ·refine (hV w5.drew rb B d _ _ P6 hv).mono ?_;rintro e w3 ⟨⟨b,rfl,h1,h2⟩,hF3⟩;exact ⟨rfl,Z01.pre F5.out.drew (r:=.error (c,p)) ⟨⟨b,rfl,h1,h2⟩,hF3⟩⟩
    ·obtain rfl := Yc hq3;refine (hV w5.drew rb B d _ _ P6 hv).mono ?_;rintro e w3 ⟨a, rfl, hA, hR3, hF3⟩;have hF53 : RFr w5 w3 rb := (RFr.refl w5 rb).drew.trans hF3;have hN3 := G5.out.rfr hlt hF53;have hblk := hN3.at'.blkOf;simp only [ATree.b, ATree.v, ATree.kind, ATree.text, ATree.n] at hblk;have m3 : w3.cell? ⟨nb, 3, none⟩ = some (.slice none 0 0) := by simp [World.cell?, hblk]
     have mz:w3.frozen? ⟨nb,3,none⟩=false:=by simp [World.frozen?,hblk]
     have hnb3:nb < w3.heap.size:=(Y1.1 hblk).1;have hk4:([]:List ATree).length≤4000:=by simp
     have NE:Hid ((Value.slice none 0 0).ownBlock≠some nb):=lh (by simp [Value.ownBlock]);have N3:=lh hN3;have A3:=lh hA;have R3:=lh hR3;have F3:=lh (F5.out.trans hF53);refine hK _ _ m3 ?_;obtain ⟨i0,hi,hz0,hz1,hz2⟩:=info_parts Tryz.infoPtr;clear hK K hA hR3 hF3 hF53 hN3 hblk hv hq3 n3;refine Zd (fun K hK=>?_);go_simp
     refine hK _ _ ((Zu hnb3).trans m3) ?_;clear hK K;refine Zd (fun K hK=>?_)
     refine step_append_lies _ (by rfl) (.tmp 27) (.tmp 30) 32 (by rfl) B 22 i0 _ 1 8 Tryz.underlying32 hi hz0 hz1 hz2 rfl (by decide) (.slice none 0 0) (([]:List ATree)).length ((([]:List ATree)).map ATree.ptr) (by rfl) (N3.out.at'.rowOf.alloc _) ⟨w3.heap.size,0,none⟩ 1 1 [a.ptr] (by rfl) rfl (Ya (cs:=#[a.ptr]) (t:=22) (fr:=(0,0)) (heap_alloc_new w3 _)) (by simp [ATree.ptr,Value.oneCell']) (by decide) (by unfold maxLen; omega) (by omega) (by simp; have:=F3.out.size; have:=HP.out.le; omega) (w3.heap.size + 1) (by simp) ?_;intro gg cap w4 hown4 hgrow4 hat4 hlt4
     have m4:w4.cell? ⟨nb,3,none⟩=some (.slice none 0 0):=(hgrow4.cell_far ⟨nb,3,none⟩ (by simp; omega) (fun e=>NE.out e.symm)).trans ((Zu hnb3).trans m3);have mz4:w4.frozen? ⟨nb,3,none⟩=false:=(hgrow4.frozen_far ⟨nb,3,none⟩ (by simp; omega) (fun e=>NE.out e.symm)).trans ((Z0o hnb3).trans mz);refine hK _ _ m4 ?_;clear hK K;simp only [Act.put,zA,zB,zC]
     have hfin:=Got.push hlt HP.out.le N3.out (wA:=w5.drew) (fun x hx=>(G5.out.new x hx).2) A3.out F3.out R3.out ((Y2 _ _).alloc (Y0 _) _) hgrow4 hown4 (by rcases hat4 with h | h; (exact .inl h); (exact .inr (by omega))) hlt4;have FIN:=lh hfin;clear hgrow4 hown4 hat4 hlt4 hfin;refine Zb ?_;go_wp2;go_ret;exact ⟨_,rfl,FIN.out.1,FIN.out.2.2,FIN.out.2.1⟩
   ·go_wp2_with fail
    refine HI.out.mono ?_;rintro e wq ⟨rfl,hBq⟩;have hk:=KEY.out wq hBq;have PX:=lh hk.out.1;have GX:=lh hk.out.2.1;have FX:=lh hk.out.2.2;clear KEY HI hBq hk P2 G2 F2;have HX:=HP.out.lt;have hlt:=HP.out.lt;have HT:=Z0j wq rb us d s_eq PX.out.rd HE.out;unfold s_eq at HT;have HT:=lh HT;go_wp2_with fail
    refine HT.out.mono ?_;rintro e w5 ⟨rfl,hR5,hF5⟩;have P5:=PX.out.tail hR5 hF5;have G5:=GX.out.rfr hlt hF5;have F5:=FX.out.trans hF5;have hblk5:=G5.at'.blkOf;simp only [ATree.b,ATree.v,ATree.kind,ATree.text,ATree.n] at hblk5;have n3:w5.cell? ⟨nb,3,none⟩=some (.slice none 0 0):=by simp [World.cell?,hblk5]
    have P5:=lh P5;have G5:=lh G5;have F5:=lh F5;clear hR5 hF5 hblk5 HT PX GX FX;go_wp2_with fail
    refine Z4 [(true,0),(true,1),(true,2),(true,3),(true,4),(true,5),(false,6),(false,7),(false,8)] [9,10,11] (fun W=>W.cell? ⟨nb,3,none⟩=some (.slice none 0 0)) (by kernel_rfl) (by kernel_rfl) (fun _ _ d _ _ h=>by cases d <;> exact h) n3 (fun hS0=>?_);simp only [Zj,zD,zE,zF,zG,zH,zI]
    iterate 6
     first
      | (refine Z7 ?_ (by rfl) (fun w' hS'=>?_) ?_; rotate_left; (have s0:=hS'; go_simp; first | done | with_reducible rfl); simp only [Act.put,zA,zB,zC])
      | (refine Z6 (by rfl) ?_; simp only [Act.put,zA,zB,zC])
    refine Zd (fun K hK=>?_);go_simp
    have P6:Pre w5.drew rb B d us.tail:=P5.out.below (Y2 _ _).drew;rcases Zp H2.out with ⟨⟨c,p⟩,hv,rfl⟩ | ⟨t,vs,hv,hq3⟩
    ·refine (hV w5.drew rb B d _ _ P6 hv).mono ?_;rintro e w3 ⟨⟨b,rfl,h1,h2⟩,hF3⟩;exact ⟨rfl,Z01.pre F5.out.drew (r:=.error (c,p)) ⟨⟨b,rfl,h1,h2⟩,hF3⟩⟩
    ·obtain rfl := Yc hq3;refine (hV w5.drew rb B d _ _ P6 hv).mono ?_;rintro e w3 ⟨a, rfl, hA, hR3, hF3⟩;have hF53 : RFr w5 w3 rb := (RFr.refl w5 rb).drew.trans hF3;have hN3 := G5.out.rfr hlt hF53;have hblk := hN3.at'.blkOf;simp only [ATree.b, ATree.v, ATree.kind, ATree.text, ATree.n] at hblk;have m3 : w3.cell? ⟨nb, 3, none⟩ = some (.slice none 0 0) := by simp [World.cell?, hblk]
     have mz:w3.frozen? ⟨nb,3,none⟩=false:=by simp [World.frozen?,hblk]
     have hnb3:nb < w3.heap.size:=(Y1.1 hblk).1;have hk4:([]:List ATree).length≤4000:=by simp
     have NE:Hid ((Value.slice none 0 0).ownBlock≠some nb):=lh (by simp [Value.ownBlock]);have N3:=lh hN3;have A3:=lh hA;have R3:=lh hR3;have F3:=lh (F5.out.trans hF53);refine hK _ _ m3 ?_;obtain ⟨i0,hi,hz0,hz1,hz2⟩:=info_parts Tryz.infoPtr;clear hK K hA hR3 hF3 hF53 hN3 hblk hv hq3 n3;refine Zd (fun K hK=>?_);go_simp
     refine hK _ _ ((Zu hnb3).trans m3) ?_;clear hK K;refine Zd (fun K hK=>?_)
     refine step_append_lies _ (by rfl) (.tmp 27) (.tmp 30) 32 (by rfl) B 22 i0 _ 1 8 Tryz.underlying32 hi hz0 hz1 hz2 rfl (by decide) (.slice none 0 0) (([]:List ATree)).length ((([]:List ATree)).map ATree.ptr) (by rfl) (N3.out.at'.rowOf.alloc _) ⟨w3.heap.size,0,none⟩ 1 1 [a.ptr] (by rfl) rfl (Ya (cs:=#[a.ptr]) (t:=22) (fr:=(0,0)) (heap_alloc_new w3 _)) (by simp [ATree.ptr,Value.oneCell']) (by decide) (by unfold maxLen; omega) (by omega) (by simp; have:=F3.out.size; have:=HP.out.le; omega) (w3.heap.size + 1) (by simp) ?_;intro gg cap w4 hown4 hgrow4 hat4 hlt4
     have m4:w4.cell? ⟨nb,3,none⟩=some (.slice none 0 0):=(hgrow4.cell_far ⟨nb,3,none⟩ (by simp; omega) (fun e=>NE.out e.symm)).trans ((Zu hnb3).trans m3);have mz4:w4.frozen? ⟨nb,3,none⟩=false:=(hgrow4.frozen_far ⟨nb,3,none⟩ (by simp; omega) (fun e=>NE.out e.symm)).trans ((Z0o hnb3).trans mz);refine hK _ _ m4 ?_;clear hK K;simp only [Act.put,zA,zB,zC]
     have hfin:=Got.push hlt HP.out.le N3.out (wA:=w5.drew) (fun x hx=>(G5.out.new x hx).2) A3.out F3.out R3.out ((Y2 _ _).alloc (Y0 _) _) hgrow4 hown4 (by rcases hat4 with h | h; (exact .inl h); (exact .inr (by omega))) hlt4;have FIN:=lh hfin;clear hgrow4 hown4 hat4 hlt4 hfin;refine Zb ?_;go_wp2;go_ret;exact ⟨_,rfl,FIN.out.1,FIN.out.2.2,FIN.out.2.1⟩
  ·have he' : isT s_eq us = false := by simpa using he
   have h1:=H1.out;cases must
   ·rw [Y3 (by simp), Y3 he] at h1;obtain rfl := Yc h1;have HT := Z11 w2 rb us d s_eq P2.out.rd he';unfold s_eq at HT;have HT := lh HT;clear h1 he he' H1;go_wp2_with fail
    refine HT.out.mono ?_;rintro e w3 ⟨rfl,hB3⟩;have R3:=lh (P2.out.rd.below hB3);have G3:=lh (G2.out.rfr HP.out.lt (RFr.below (rb:=rb) hB3));have F3:=lh (F2.out.trans (RFr.below (rb:=rb) hB3));clear hB3;go_wp2;go_ret;exact ⟨_,rfl,G3.out,R3.out,F3.out⟩
   ·rw [Y5 (by rw [he']; rfl)] at h1;obtain rfl := Yc h1;have HI := Z2k w2 rb us d s_eq P2.out.rd;rw [he'] at HI;unfold s_eq at HI;have HI := lh HI;clear h1 he he' H1;go_wp2_with fail
    refine HI.out.mono ?_;rintro e w3 ⟨rfl,hB3⟩;have HF:=lh (Z1r w3 rb us d 3 (P2.out.rd.below hB3));have F3:=lh (F2.out.trans (RFr.below (rb:=rb) hB3));clear hB3;go_wp2_with fail
    refine HF.out.mono ?_;rintro e w4 ⟨⟨b,rfl,h1,h2⟩,hB⟩;exact ⟨rfl,Z01.err F3.out ⟨b,rfl,h1,h2⟩ hB⟩
 ·have HC := lh (Z3o w rb ts d hP.rd hk);clear hP hp hw hk;go_enter Tryz.func48, Tryz.ntmps48
  go_wp2_with fail
  refine HC.out.mono ?_;rintro e w3 ⟨⟨b,rfl,h1,h2⟩,hB⟩;exact ⟨rfl,Z01.err (RFr.refl _ _) ⟨b,rfl,h1,h2⟩ hB⟩
end Go.Proofs.YtjcgkdfeplbajaaGreatDoor
