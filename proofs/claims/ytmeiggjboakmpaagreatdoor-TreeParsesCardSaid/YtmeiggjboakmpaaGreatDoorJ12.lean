/- A read tree is written by the document as it tells. -/
import Derived.Test.YtmeiggjboakmpaaGreatDoorJ11
namespace Go.Proofs.YtmeiggjboakmpaaGreatDoor
open Go Go.RowKit
set_option maxRecDepth 100000
set_option maxHeartbeats 20000000
set_option linter.unusedVariables false
set_option linter.unusedSimpArgs false
def DG (w0:World) (c:Srt) (l:List Tree):Prop:=Zv l≤1500→∀ (Bt:Nat) (L:List ATree),Zr L=l→(∀ x∈L,TreeAt w0 Bt x)→∀ x∈L,(c.st=true→RS' w0 x (toB (sP x.tree)))∧(c.st=false→RV w0 x (toB (vbT x.tree)))
section
variable {w0:World} {t:Tree} {l:List Tree} {Bt:Nat} {a:ATree} {c:Srt}
theorem DG.v (h:DG w0 c [t]) (e:a.tree=t) (hT:TreeAt w0 Bt a) (hm:t.many≤1500) (hc:c.st=false):RV w0 a (toB (vbT t)):=by
 have:=(h (by rw [Z42]; exact hm) Bt [a] (by rw [← e]; rfl) (by simpa using hT) a (by simp)).2 hc;rwa [e] at this
theorem DG.s (h:DG w0 c [t]) (e:a.tree=t) (hT:TreeAt w0 Bt a) (hm:t.many≤1500) (hc:c.st=true):RS' w0 a (toB (sP t)):=by
 have:=(h (by rw [Z42]; exact hm) Bt [a] (by rw [← e]; rfl) (by simpa using hT) a (by simp)).1 hc;rwa [e] at this
theorem DG.ofV (hc:c.st=false) (h:t.many≤1500→∀ (Bt:Nat) (a:ATree),a.tree=t→TreeAt w0 Bt a→RV w0 a (toB (vbT t))):DG w0 c [t]:=by
 intro hm Bt L hL hT x hx;obtain ⟨a,L',rfl,ha,h2⟩:=Zg hL;have h3:=Zy h2;subst h3;have:x=a:=by simpa using hx
 subst this;exact ⟨fun e=>by (rw [hc] at e; cases e),fun _=>by rw [ha]; exact h (by rw [Z42] at hm; exact hm) Bt x ha (hT x hx)⟩
theorem DG.ofS (hc:c.st=true) (h:t.many≤1500→∀ (Bt:Nat) (a:ATree),a.tree=t→TreeAt w0 Bt a→RS' w0 a (toB (sP t))):DG w0 c [t]:=by
 intro hm Bt L hL hT x hx;obtain ⟨a,L',rfl,ha,h2⟩:=Zg hL;have h3:=Zy h2;subst h3;have:x=a:=by simpa using hx
 subst this;exact ⟨fun _=>by rw [ha]; exact h (by rw [Z42] at hm; exact hm) Bt x ha (hT x hx),fun e=>by (rw [hc] at e; cases e)⟩
theorem DG.mv {k n:Int} {s:ByteArray} {ks:List Tree} (hc:c.st=false) (h:Zv ks + 1≤1500→∀ (Bt:Nat) (a:ATree),TreeAt w0 Bt a→a.kind=k→a.text=s→a.n=n→Zr a.kids=ks→RV w0 a (toB (vbT (.mk k s n ks)))):DG w0 c [.mk k s n ks]:=
 DG.ofV hc fun hm Bt a ha hT=>by
  obtain ⟨k1,k2,k3,k4⟩:=Z0p ha;exact h (by simp only [Tree.many] at hm; omega) Bt a hT k1 k2 k3 k4
theorem DG.ms {k n:Int} {s:ByteArray} {ks:List Tree} (hc:c.st=true) (h:Zv ks + 1≤1500→∀ (Bt:Nat) (a:ATree),TreeAt w0 Bt a→a.kind=k→a.text=s→a.n=n→Zr a.kids=ks→RS' w0 a (toB (sP (.mk k s n ks)))):DG w0 c [.mk k s n ks]:=
 DG.ofS hc fun hm Bt a ha hT=>by
  obtain ⟨k1,k2,k3,k4⟩:=Z0p ha;exact h (by simp only [Tree.many] at hm; omega) Bt a hT k1 k2 k3 k4
theorem DG.cons {c':Srt} (hc:c'.st=c.st) (h1:DG w0 c' [t]) (h2:DG w0 c l):DG w0 c (t :: l):=by
 intro hm Bt L hL hT x hx;simp only [Zv] at hm;obtain ⟨a,L',rfl,ha,e2⟩:=Zg hL;rcases List.mem_cons.1 hx with rfl | hx2
 ·have:=h1 (by rw [Z42]; omega) Bt [x] (by rw [← ha]; rfl) (by simpa using hT x (by simp)) x (by simp);rwa [hc] at this
 ·exact h2 (by omega) Bt L' e2 (fun y hy=>hT y (by simp [hy])) x hx2
theorem DG.nil:DG w0 c []:=by
 intro hm Bt L hL hT x hx;have h3:=Zy hL;subst h3;cases hx
theorem DG.as {c':Srt} (hc:c'.st=c.st) (h:DG w0 c' l):DG w0 c l:=by
 intro hm Bt L hL hT x hx;have:=h hm Bt L hL hT x hx;rwa [hc] at this
theorem Zbo {t:Tree} (h:Wf .v [t]) (need:Int):(toB (vP t need)).size≤2000 * t.many:=by have:=Z4p h t rfl need; rw [Z2q]; omega
theorem Z5m {t:Tree} (h:Wf .v [t]):(toB (vbT t)).size≤2000 * t.many:=by have:=Z4p h t rfl 0; rw [Z3e] at this; rw [Z2q]; omega
theorem Z5d {c:Srt} {t:Tree} (hc:c=.s∨c=.b∨c=.k) (h:Wf c [t]):(toB (sP t)).size≤2000 * t.many:=by
 have:=Z4p h;rw [Z2q];rcases hc with rfl | rfl | rfl;all_goals (have:=this t rfl; omega)
theorem DG.av (h:DG w0 c [t]) (hw:Wf .v [t]) (e:a.tree=t) (hT:TreeAt w0 Bt a) (hm:t.many≤1500) (hc:c.st=false) (need:Int):RA w0 a need (toB (vP t need)):=by
 have hv:=h.v e hT hm hc;have hk:a.kind=t.kind:=by rw [← e]; cases a; rfl
 rw [Zmq];by_cases hn:Zo t.kind < need
 ·have:=Zjg a hT need _ hv (by rw [hk]; exact hn) (by have:=Z5m hw; omega);rw [decide_eq_true hn];exact this.cast (by simp [Zm,Z9o,Z4,Z7,Zj,Pc.bytes])
 ·rw [decide_eq_false hn];exact Ze6 a hT need _ hv (by rw [hk]; exact hn)
theorem DG.lv (h:DG w0 c l) (hc:c.st=false) (hm:Zv l≤1500) {L:List ATree} (e:Zr L=l) (hT:∀ x∈L,TreeAt w0 Bt x) (hl:lenP (lP true l)≤2000 * Zv l) (v:Value) (hV:Z4c w0 v L):RL w0 v (toB (lP true l)):=by
 have hE:Each (RV w0) L (L.map fun x=>toB (vbT x.tree)):=Zap fun x hx=>(h (by omega) Bt L e hT x hx).2 hc;have hll:L.length≤1500:=by have:=Z2x l; have h2:l.length=L.length:=(by rw [← e,Z2p]); omega
 have hr:=Zml L _ hE hll (by rw [Zga,e,Z2q]; omega) v hV;rwa [Zga,e] at hr
end
theorem Z4y {s:ByteArray} (h:Z3o s):s.size≤100000000:=by have:=h.2.1; omega
theorem Zfc {t:Tree} (h:Wf .v [t]):Zd (vbT t)≠[]:=by
 cases h with
 | num h1 h2 =>
   rw [vbT,Zdy];have:∀ n:Int,Lib.itoa n≠[]:=fun n=>by
    have hd:∀ u,Lib.decDigits u≠[]:=fun u=>by rw [Lib.decDigits]; split <;> simp
    unfold Lib.itoa;split;·simp
    ·exact hd _
   simpa [Z4,Zj,Pc.bytes] using this _
 | str h1=>rw [vbT,Zdi]; simp [Z4,Zj,Pc.bytes,Z57]
 | con h1 h2 =>
   rw [vbT,Z95 h1 h2];unfold Z9z;repeat' split
   all_goals simp [Z4,Zj,Pc.bytes,Z49,Z38,Z4s,Z1q]
 | name h1 =>
   rw [vbT,Z7v];intro e;have h0:=h1.1;rename_i s;have hl:(Zd [nm s]).length=s.size:=by simp [Z4,Zj,Pc.bytes]
   have:s.size=0:=by rw [← hl,e]; rfl
   omega
 | set h0 h1 h2=>rw [vbT,Zdq]; simp [Z4,Z7,Pc.bytes]
 | two h1 h2 g1 g2 =>
   rename_i k x y;rw [vbT,Zdp h1 h2];have hs:Zd (sgnP k)≠[]:=by
    have:k=25∨k=26∨k=27∨k=28∨k=29∨k=30∨k=31:=by omega
    rcases this with rfl | rfl | rfl | rfl | rfl | rfl | rfl <;> simp [sgnP,Z4,Pc.bytes]
   simp [Z7,hs]
 | one h1 h2 g1 =>
   rename_i k x;rw [vbT,Za0 h1 h2];have hs:Zd (sgnP k)≠[]:=by
    have:k=32∨k=33∨k=34:=by omega
    rcases this with rfl | rfl | rfl <;> simp [sgnP,Z4,Zj,Pc.bytes,Z1l,Z1t]
   simp [Z7,hs]
 | mem h1 g1=>rw [vbT,Zdl]; simp [Z4,Z7,Pc.bytes]
 | call g1 g2=>rw [vbT,Z8z]; simp [Z4,Z7,Pc.bytes]
 | lam h1 g1 g2=>rw [vbT,Zc3]; simp [fnP,Z4,Pc.bytes,Ze]
 | obj g1=>rw [vbT,Zdw]; simp [Z4,Pc.bytes]
theorem Zly {w0:World} (hP:Pow w0) {c:Srt} {l:List Tree} (h:Wf c l):DG w0 c l:=by
 induction h with
 | @num n h1 h2 =>
   refine DG.mv rfl fun hm Bt a hT k1 k2 k3 k4=>?_;try simp only [Tree.many,Zv] at hm
   have h:=Zlu a hT k1 (by rw [k3]; exact h1) (by rw [k3]; exact h2) hP;exact h.cast (by rw [k3]; simp [Zm,vbT,Zdy,Z4,Zj,Pc.bytes])
 | str h1 =>
   refine DG.mv rfl fun hm Bt a hT k1 k2 k3 k4=>?_;try simp only [Tree.many,Zv] at hm
   have h:=Zm4 a hT k1 (by rw [k2]; exact h1);exact h.cast (by rw [k2]; simp [Zm,vbT,Zdi,Z4,Zj,Pc.bytes])
 | @con k h1 h2 =>
   refine DG.mv rfl fun hm Bt a hT k1 k2 k3 k4=>?_;try simp only [Tree.many,Zv] at hm
   have:k=19∨k=20∨k=21∨k=22:=by omega
   rcases this with rfl | rfl | rfl | rfl;·exact (Zj4 a hT k1).cast (by rw [Zm,vbT,Z95 (by omega) (by omega)]; rfl)
   ·exact (Ziq a hT k1).cast (by rw [Zm,vbT,Z95 (by omega) (by omega)]; rfl)
   ·exact (Zj7 a hT k1).cast (by rw [Zm,vbT,Z95 (by omega) (by omega)]; rfl)
   ·exact (Zie a hT k1).cast (by rw [Zm,vbT,Z95 (by omega) (by omega)]; rfl)
 | name h1 =>
   refine DG.mv rfl fun hm Bt a hT k1 k2 k3 k4=>?_;try simp only [Tree.many,Zv] at hm
   exact (Zha a hT k1).cast (by rw [k2]; simp [Zm,vbT,Z7v,Z4,Zj,Pc.bytes])
 | @set x0 y0 h0 h1 h2 i1 i2 =>
   refine DG.mv rfl fun hm Bt a hT k1 k2 k3 k4=>?_;try simp only [Tree.many,Zv] at hm
   obtain ⟨x,r0,e0,t0,k4⟩:=Zg k4;obtain ⟨y,r1,e1,t1,k4⟩:=Zg k4;have k4:=Zy k4;subst k4;subst e1;have hk:=e0;have Tx:TreeAt w0 Bt x:=hT.kid (by rw [hk]; simp);have Ty:TreeAt w0 Bt y:=hT.kid (by rw [hk]; simp);exact (Zm3 a hT k1 x y hk _ _ (i1.av h1 t0 Tx (by omega) rfl 8) (i2.v t1 Ty (by omega) rfl) (by have:=Zbo h1 8; omega) (by have:=Z5m h2; omega)).cast (by rw [Zm,vbT,Zdq,Z3e y0]; simp [Zm,Z4,Z7,Zj,Pc.bytes])
 | @two k x0 y0 h1 h2 g1 g2 i1 i2 =>
   refine DG.mv rfl fun hm Bt a hT k1 k2 k3 k4=>?_;try simp only [Tree.many,Zv] at hm
   obtain ⟨x,r0,e0,t0,k4⟩:=Zg k4;obtain ⟨y,r1,e1,t1,k4⟩:=Zg k4;have k4:=Zy k4;subst k4;subst e1;have hk:=e0;have Tx:TreeAt w0 Bt x:=hT.kid (by rw [hk]; simp);have Ty:TreeAt w0 Bt y:=hT.kid (by rw [hk]; simp);have:k=25∨k=26∨k=27∨k=28∨k=29∨k=30∨k=31:=by omega
   obtain ⟨L,sg,hK,hsg,hL⟩:∃ (L:Int) (sg:ByteArray),((k=25∧L=1∧sg=⟨#[124,124]⟩)∨(k=26∧L=2∧sg=⟨#[38,38]⟩)∨(k=27∧L=3∧sg=⟨#[61,61,61]⟩)∨(k=28∧L=4∧sg=⟨#[60]⟩)∨(k=29∧L=5∧sg=⟨#[43]⟩)∨(k=30∧L=5∧sg=⟨#[45]⟩)∨(k=31∧L=6∧sg=⟨#[42]⟩))∧Zd (sgnP k)=32 :: (sg.data.toList ++ [32])∧Zo k=L:=by
    rcases this with rfl | rfl | rfl | rfl | rfl | rfl | rfl;all_goals exact ⟨_,_,by simp; exact ⟨rfl,rfl⟩,by simp [sgnP,Z4,Zj,Pc.bytes,s_or,Z5n,Z3j],by decide⟩
   refine (Zm6 a hT k L sg hK k1 x y hk _ _ (i1.av g1 t0 Tx (by omega) rfl L) (i2.av g2 t1 Ty (by omega) rfl (L + 1)) (by have:=Zbo g1 L; omega) (by have:=Zbo g2 (L + 1); omega)).cast ?_;rw [Zm,vbT,Zdp (by omega) (by omega),hL,Z7,Z7,hsg];simp [Zm]
 | @one k x0 h1 h2 g1 i1 =>
   refine DG.mv rfl fun hm Bt a hT k1 k2 k3 k4=>?_;try simp only [Tree.many,Zv] at hm
   obtain ⟨x,r0,e0,t0,k4⟩:=Zg k4;have k4:=Zy k4;subst k4;have hk:=e0;have Tx:TreeAt w0 Bt x:=hT.kid (by rw [hk]; simp);have:k=32∨k=33∨k=34:=by omega
   rcases this with rfl | rfl | rfl;·exact (Zm7 a hT k1 x hk _ (i1.av g1 t0 Tx (by omega) rfl 7) (by have:=Zbo g1 7; omega)).cast (by rw [Zm,vbT,Za0 (by omega) (by omega)]; simp [Zm,Z4,Z7,Zj,Pc.bytes,sgnP,Z1l,Z1t])
   ·exact (Zfj a hT k1 x hk _ (i1.av g1 t0 Tx (by omega) rfl 7) (by have:=Zbo g1 7; omega)).cast (by rw [Zm,vbT,Za0 (by omega) (by omega)]; simp [Zm,Z4,Z7,Zj,Pc.bytes,sgnP,Z1l,Z1t])
   ·exact (Zgn a hT k1 x hk _ (i1.av g1 t0 Tx (by omega) rfl 7) (by have:=Zbo g1 7; omega)).cast (by rw [Zm,vbT,Za0 (by omega) (by omega)]; simp [Zm,Z4,Z7,Zj,Pc.bytes,sgnP,Z1l,Z1t])
 | @mem s x0 h1 g1 i1 =>
   refine DG.mv rfl fun hm Bt a hT k1 k2 k3 k4=>?_;try simp only [Tree.many,Zv] at hm
   obtain ⟨x,r0,e0,t0,k4⟩:=Zg k4;have k4:=Zy k4;subst k4;have hk:=e0;have Tx:TreeAt w0 Bt x:=hT.kid (by rw [hk]; simp);exact (Zm1 a hT k1 x hk _ (i1.av g1 t0 Tx (by omega) rfl 8) (by have:=Zbo g1 8; omega) (by rw [k2]; exact Z4y h1)).cast (by rw [k2,Zm,vbT,Zdl]; simp [Zm,Z4,Z7,Zj,Pc.bytes])
 | @call x0 l g1 g2 i1 i2 =>
   refine DG.mv rfl fun hm Bt a hT k1 k2 k3 k4=>?_;try simp only [Tree.many,Zv] at hm
   obtain ⟨x,L,hk,t0,k4⟩:=Zg k4;have Tx:TreeAt w0 Bt x:=hT.kid (by rw [hk]; simp);have hLl:L.length≤1500:=by
    have:=Z2x l;have h2:l.length=L.length:=by rw [← k4,Z2p]
    omega
   have hl:∀ v,Z4c w0 v L→RL w0 v (toB (lP true l)):=fun v hv=>i2.lv rfl (by omega) k4 (fun y hy=>hT.kid (by rw [hk]; simp [hy])) (Z4p g2 true) v hv;exact (Zkr a hT k1 x L hk _ _ (i1.av g1 t0 Tx (by omega) rfl 8) hl (by have:=Zbo g1 8; omega) (by have:=Z4p g2 true; rw [Z2q]; omega) hLl).cast (by rw [Zm,vbT,Z8z]; simp [Zm,Z4,Z7,Zj,Pc.bytes])
 | @lam s l b h1 g1 g2 i1 i2 =>
   refine DG.mv rfl fun hm Bt a hT k1 k2 k3 k4=>?_;try simp only [Tree.many,Zv] at hm
   obtain ⟨p,r0,e0,t0,k4⟩:=Zg k4;obtain ⟨q,r1,e1,t1,k4⟩:=Zg k4;have k4:=Zy k4;subst k4;subst e1;have hk:=e0;have Tp:TreeAt w0 Bt p:=hT.kid (by rw [hk]; simp);have Tq:TreeAt w0 Bt q:=hT.kid (by rw [hk]; simp);obtain ⟨p1,p2,p3,p4⟩:=Z0p t0;have hl:RL w0 p.v (toB (lP true l)):=i1.lv rfl (by omega) p4 (fun y hy=>Tp.kid hy) (Z4p g1 true) _ (Z4j Tp);have hs:=i2.s t1 Tq (by omega) rfl;have z1:(toB (lP true l)).size≤100000000:=by have:=Z4p g1 true; rw [Z2q]; omega
   have z2:(toB (sP b)).size≤100000000:=by have:=Z5d (.inr (.inl rfl)) g2; omega
   by_cases hz:s.size=0
   ·have hse:s=ByteArray.empty:=ByteArray.size_eq_zero_iff.1 hz;subst hse;exact (Zlm a hT k1 p q hk _ _ hl hs Tp z1 z2 k2).cast (by rw [Zm,vbT,Zc3]; simp [Zm,Z4,Z7,Zj,Pc.bytes,fnP,Ze])
   ·have hn:Z3o s:=by
     rcases h1 with rfl | h1;·exact absurd rfl hz
     ·exact h1
    exact (Zhv a hT k1 p q hk _ _ hl hs Tp z1 z2 (by rw [k2]; exact hz) (by rw [k2]; exact Z4y hn)).cast (by rw [k2,Zm,vbT,Zc3]; unfold fnP; rw [Y9 hz]; simp [Zm,Z4,Z7,Zj,Pc.bytes,Ze])
 | @obj l g1 i1 =>
   refine DG.mv rfl fun hm Bt a hT k1 k2 k3 k4=>?_;try simp only [Tree.many,Zv] at hm
   have hl:RL w0 a.v (toB (lP true l)):=i1.lv rfl (by omega) k4 (fun y hy=>hT.kid hy) (Z4p g1 true) _ (Z4j hT);exact (Zmj a hT k1 _ hl (by have:=Z4p g1 true; rw [Z2q]; omega)).cast (by rw [Zm,vbT,Zdw]; simp [Zm,Z4,Z7,Zj,Pc.bytes])
 | vnil=>exact DG.nil
 | vcons _ _ i1 i2=>exact i1.cons rfl i2
 | onil=>exact DG.nil
 | @ocons s x0 l h1 g1 g2 i1 i2 =>
   refine DG.cons (c':=.v) rfl ?_ i2;refine DG.mv rfl fun hm Bt a hT k1 k2 k3 k4=>?_;try simp only [Tree.many,Zv] at hm
   obtain ⟨x,r0,e0,t0,k4⟩:=Zg k4;have k4:=Zy k4;subst k4;have hk:=e0;have Tx:TreeAt w0 Bt x:=hT.kid (by rw [hk]; simp);exact (Zle a hT k1 x hk _ (i1.v t0 Tx (by omega) rfl) (by have:=Z5m g1; omega) (by rw [k2]; exact Z4y h1)).cast (by rw [k2,Zm,vbT,Zda,Z3e]; simp [Zm,Z4,Z7,Zj,Pc.bytes])
 | pnil=>exact DG.nil
 | pcons h1 _ i2 =>
   refine DG.cons (c':=.v) rfl ?_ i2;refine DG.mv rfl fun hm Bt a hT k1 k2 k3 k4=>?_;try simp only [Tree.many,Zv] at hm
   exact (Zha a hT k1).cast (by rw [k2]; simp [Zm,vbT,Z7v,Z4,Zj,Pc.bytes])
 | @body l g1 i1 =>
   refine DG.ms rfl fun hm Bt a hT k1 k2 k3 k4=>?_;try simp only [Tree.many,Zv] at hm
   have hE:Each (RS' w0) a.kids (a.kids.map fun x=>toB (sP x.tree)):=Zap fun x hx=>(i1 (by omega) Bt a.kids k4 (fun y hy=>hT.kid hy) x hx).1 rfl;have hll:a.kids.length≤1500:=by have:=Z2x l; have h2:l.length=a.kids.length:=(by rw [← k4,Z2p]); omega
   exact (Zdx a hT k1 a.kids rfl _ hE hll (by rw [Zao,k4,Z2q]; have:=(Z4p g1).1 true; omega)).cast (by rw [Zao,k4,Zm,Z99]; simp [Zm,Z4,Z7,Zj,Pc.bytes])
 | @block l g1 i1 =>
   refine DG.ms rfl fun hm Bt a hT k1 k2 k3 k4=>?_;try simp only [Tree.many,Zv] at hm
   have hE:Each (RS' w0) a.kids (a.kids.map fun x=>toB (sP x.tree)):=Zap fun x hx=>(i1 (by omega) Bt a.kids k4 (fun y hy=>hT.kid hy) x hx).1 rfl;have hll:a.kids.length≤1500:=by have:=Z2x l; have h2:l.length=a.kids.length:=(by rw [← k4,Z2p]); omega
   exact (Zdx a hT k1 a.kids rfl _ hE hll (by rw [Zao,k4,Z2q]; have:=(Z4p g1).1 true; omega)).cast (by rw [Zao,k4,Zm,Z99]; simp [Zm,Z4,Z7,Zj,Pc.bytes])
 | @decl0 k s h0 h1 =>
   refine DG.ms rfl fun hm Bt a hT k1 k2 k3 k4=>?_;try simp only [Tree.many,Zv] at hm
   have k4:=Zy k4;have hk:=k4;rcases h0 with rfl | rfl;·exact (Zh8 a hT _ ⟨#[118,97,114,32]⟩ (by simp) k1 hk (by rw [k2]; exact Z4y h1)).cast (by rw [k2,Zm,Zal (by omega)]; simp [Zm,Z4,Z7,Zj,Pc.bytes,Z2y,Z18,Z1c,Z06,s_if,Zz,Z0d,Z08,Z0s,Z1y,Z1j,Z0r,Zt])
   ·exact (Zh8 a hT _ ⟨#[108,101,116,32]⟩ (by simp) k1 hk (by rw [k2]; exact Z4y h1)).cast (by rw [k2,Zm,Zal (by omega)]; simp [Zm,Z4,Z7,Zj,Pc.bytes,Z2y,Z18,Z1c,Z06,s_if,Zz,Z0d,Z08,Z0s,Z1y,Z1j,Z0r,Zt])
 | @decl1 k s x0 h0 h1 g1 i1 =>
   refine DG.ms rfl fun hm Bt a hT k1 k2 k3 k4=>?_;try simp only [Tree.many,Zv] at hm
   obtain ⟨x,r0,e0,t0,k4⟩:=Zg k4;have k4:=Zy k4;subst k4;have hk:=e0;have Tx:TreeAt w0 Bt x:=hT.kid (by rw [hk]; simp);rcases h0 with rfl | rfl | rfl;·exact (Zas a hT _ ⟨#[118,97,114,32]⟩ (by simp) k1 x hk _ (rval a hT x 0 (by rw [hk]; rfl) _ (i1.v t0 Tx (by omega) rfl) (by rw [hk]; simp)) (by have:=Z5m g1; omega) (by rw [k2]; exact Z4y h1)).cast (by rw [k2,Zm,Z8u (by omega),Z3e]; simp [Zm,Z4,Z7,Zj,Pc.bytes,Z2y,Z18,Z1c,Z06,s_if,Zz,Z0d,Z08,Z0s,Z1y,Z1j,Z0r,Zt])
   ·exact (Zas a hT _ ⟨#[108,101,116,32]⟩ (by simp) k1 x hk _ (rval a hT x 0 (by rw [hk]; rfl) _ (i1.v t0 Tx (by omega) rfl) (by rw [hk]; simp)) (by have:=Z5m g1; omega) (by rw [k2]; exact Z4y h1)).cast (by rw [k2,Zm,Z8u (by omega),Z3e]; simp [Zm,Z4,Z7,Zj,Pc.bytes,Z2y,Z18,Z1c,Z06,s_if,Zz,Z0d,Z08,Z0s,Z1y,Z1j,Z0r,Zt])
   ·exact (Zas a hT _ ⟨#[99,111,110,115,116,32]⟩ (by simp) k1 x hk _ (rval a hT x 0 (by rw [hk]; rfl) _ (i1.v t0 Tx (by omega) rfl) (by rw [hk]; simp)) (by have:=Z5m g1; omega) (by rw [k2]; exact Z4y h1)).cast (by rw [k2,Zm,Z8u (by omega),Z3e]; simp [Zm,Z4,Z7,Zj,Pc.bytes,Z2y,Z18,Z1c,Z06,s_if,Zz,Z0d,Z08,Z0s,Z1y,Z1j,Z0r,Zt])
 | @func s l b h1 g1 g2 i1 i2 =>
   refine DG.ms rfl fun hm Bt a hT k1 k2 k3 k4=>?_;try simp only [Tree.many,Zv] at hm
   obtain ⟨p,r0,e0,t0,k4⟩:=Zg k4;obtain ⟨q,r1,e1,t1,k4⟩:=Zg k4;have k4:=Zy k4;subst k4;subst e1;have hk:=e0;have Tp:TreeAt w0 Bt p:=hT.kid (by rw [hk]; simp);have Tq:TreeAt w0 Bt q:=hT.kid (by rw [hk]; simp);obtain ⟨p1,p2,p3,p4⟩:=Z0p t0;have hl:RL w0 p.v (toB (lP true l)):=i1.lv rfl (by omega) p4 (fun y hy=>Tp.kid hy) (Z4p g1 true) _ (Z4j Tp);have hs:=i2.s t1 Tq (by omega) rfl;have z1:(toB (lP true l)).size≤100000000:=by have:=Z4p g1 true; rw [Z2q]; omega
   have z2:(toB (sP b)).size≤100000000:=by have:=Z5d (.inr (.inl rfl)) g2; omega
   have hz:s.size≠0:=by have:=h1.1; omega
   refine Zkj a hT k1 _ ((Zkv a hT k1 p q hk _ _ hl hs Tp z1 z2 (by rw [k2]; exact hz) (by rw [k2]; exact Z4y h1)).cast (Y:=toB (sP _)) ?_);rw [k2,Zm,Zgr];unfold fnP;rw [Y9 hz];simp [Zm,Z4,Z7,Zj,Pc.bytes,Ze]
 | blk g1 i1=>exact i1.as rfl
 | @if2 x0 y0 g1 g2 i1 i2 =>
   refine DG.ms rfl fun hm Bt a hT k1 k2 k3 k4=>?_;try simp only [Tree.many,Zv] at hm
   obtain ⟨x,r0,e0,t0,k4⟩:=Zg k4;obtain ⟨y,r1,e1,t1,k4⟩:=Zg k4;have k4:=Zy k4;subst k4;subst e1;have hk:=e0;have Tx:TreeAt w0 Bt x:=hT.kid (by rw [hk]; simp);have Ty:TreeAt w0 Bt y:=hT.kid (by rw [hk]; simp);exact (Zlw a hT k1 x y hk _ _ (rval a hT x 0 (by rw [hk]; rfl) _ (i1.v t0 Tx (by omega) rfl) (by rw [hk]; simp)) (i2.s t1 Ty (by omega) rfl) (by have:=Z5m g1; omega) (by have:=Z5d (.inl rfl) g2; omega)).cast (by rw [Zm,Zb8 (by omega),Z3e]; simp [Zm,Z4,Z7,Zj,Pc.bytes,Z2y,Z18,Z1c,Z06,s_if,Zz,Z0d,Z08,Z0s,Z1y,Z1j,Z0r,Zt])
 | @if3 x0 y0 z0 g1 g2 g3 hd i1 i2 i3 =>
   refine DG.ms rfl fun hm Bt a hT k1 k2 k3 k4=>?_;try simp only [Tree.many,Zv] at hm
   obtain ⟨x,r0,e0,t0,k4⟩:=Zg k4;obtain ⟨y,r1,e1,t1,k4⟩:=Zg k4;obtain ⟨z,r2,e2,t2,k4⟩:=Zg k4;have k4:=Zy k4;subst k4;subst e2;subst e1;have hk:=e0;have Tx:TreeAt w0 Bt x:=hT.kid (by rw [hk]; simp);have Ty:TreeAt w0 Bt y:=hT.kid (by rw [hk]; simp);have Tz:TreeAt w0 Bt z:=hT.kid (by rw [hk]; simp)
   exact (Zm5 a hT k1 x y z hk _ _ _ (rval a hT x 0 (by rw [hk]; rfl) _ (i1.v t0 Tx (by omega) rfl) (by rw [hk]; simp)) (i2.s t1 Ty (by omega) rfl) (i3.s t2 Tz (by omega) rfl) (by have:=Z5m g1; omega) (by have:=Z5d (.inl rfl) g2; omega) (by have:=Z5d (.inl rfl) g3; omega)).cast (by rw [Zm,Zll,Z3e]; simp [Zm,Z4,Z7,Zj,Pc.bytes,Z2y,Z18,Z1c,Z06,s_if,Zz,Z0d,Z08,Z0s,Z1y,Z1j,Z0r,Zt])
 | @loop k x0 y0 h0 g1 g2 i1 i2 =>
   refine DG.ms rfl fun hm Bt a hT k1 k2 k3 k4=>?_;try simp only [Tree.many,Zv] at hm
   obtain ⟨x,r0,e0,t0,k4⟩:=Zg k4;obtain ⟨y,r1,e1,t1,k4⟩:=Zg k4;have k4:=Zy k4;subst k4;subst e1;have hk:=e0;have Tx:TreeAt w0 Bt x:=hT.kid (by rw [hk]; simp);have Ty:TreeAt w0 Bt y:=hT.kid (by rw [hk]; simp);rcases h0 with rfl | rfl;·exact (Zje a hT k1 x y hk _ _ (rval a hT x 0 (by rw [hk]; rfl) _ (i1.v t0 Tx (by omega) rfl) (by rw [hk]; simp)) (i2.s t1 Ty (by omega) rfl) (by have:=Z5m g1; omega) (by have:=Z5d (.inl rfl) g2; omega)).cast (by rw [Zm,Zb8 (by omega),Z3e]; simp [Zm,Z4,Z7,Zj,Pc.bytes,Z2y,Z18,Z1c,Z06,s_if,Zz,Z0d,Z08,Z0s,Z1y,Z1j,Z0r,Zt])
   ·exact (Zlc a hT k1 x y hk _ _ (rval a hT x 0 (by rw [hk]; rfl) _ (i1.v t0 Tx (by omega) rfl) (by rw [hk]; simp)) (i2.s t1 Ty (by omega) rfl) (by have:=Z5m g1; omega) (by have:=Z5d (.inl rfl) g2; omega)).cast (by rw [Zm,Zb8 (by omega),Z3e]; simp [Zm,Z4,Z7,Zj,Pc.bytes,Z2y,Z18,Z1c,Z06,s_if,Zz,Z0d,Z08,Z0s,Z1y,Z1j,Z0r,Zt])
 | ret0 =>
   refine DG.ms rfl fun hm Bt a hT k1 k2 k3 k4=>?_;try simp only [Tree.many,Zv] at hm
   have k4:=Zy k4;have hk:=k4;exact (Zkb a hT k1 hk).cast (by rw [Zm,Zgl (by omega)]; simp [Zm,Z4,Z7,Zj,Pc.bytes,Z2y,Z18,Z1c,Z06,s_if,Zz,Z0d,Z08,Z0s,Z1y,Z1j,Z0r,Zt])
 | @ret1 k x0 h0 g1 i1 =>
   refine DG.ms rfl fun hm Bt a hT k1 k2 k3 k4=>?_;try simp only [Tree.many,Zv] at hm
   obtain ⟨x,r0,e0,t0,k4⟩:=Zg k4;have k4:=Zy k4;subst k4;have hk:=e0;have Tx:TreeAt w0 Bt x:=hT.kid (by rw [hk]; simp);rcases h0 with rfl | rfl;·exact (Zky a hT k1 x hk _ (rval a hT x 0 (by rw [hk]; rfl) _ (i1.v t0 Tx (by omega) rfl) (by rw [hk]; simp)) (by have:=Z5m g1; omega)).cast (by rw [Zm,Zc0 (by omega),Z3e]; simp [Zm,Z4,Z7,Zj,Pc.bytes,Z2y,Z18,Z1c,Z06,s_if,Zz,Z0d,Z08,Z0s,Z1y,Z1j,Z0r,Zt])
   ·exact (Zis a hT k1 x hk _ (rval a hT x 0 (by rw [hk]; rfl) _ (i1.v t0 Tx (by omega) rfl) (by rw [hk]; simp)) (by have:=Z5m g1; omega)).cast (by rw [Zm,Zc0 (by omega),Z3e]; simp [Zm,Z4,Z7,Zj,Pc.bytes,Z2y,Z18,Z1c,Z06,s_if,Zz,Z0d,Z08,Z0s,Z1y,Z1j,Z0r,Zt])
 | @tryc s b c g1 h1 g2 i1 i2 =>
   refine DG.ms rfl fun hm Bt a hT k1 k2 k3 k4=>?_;try simp only [Tree.many,Zv] at hm
   obtain ⟨x,r0,e0,t0,k4⟩:=Zg k4;obtain ⟨y,r1,e1,t1,k4⟩:=Zg k4;have k4:=Zy k4;subst k4;subst e1;have hk:=e0;have Tx:TreeAt w0 Bt x:=hT.kid (by rw [hk]; simp);have Ty:TreeAt w0 Bt y:=hT.kid (by rw [hk]; simp);obtain ⟨yk,yt,_,y4⟩:=Z0p t1;obtain ⟨cc,ry,ecc,tcc,y4⟩:=Zg y4;have y5:=Zy y4;subst y5;have Hy:RH w0 Bt y (⟨#[32,99,97,116,99,104,32,40]⟩ ++ s ++ ⟨#[41,32]⟩ ++ toB (sP c)):=⟨Ty,cc,_,ecc,i2.s tcc (Ty.kid (by rw [ecc]; simp)) (by omega) rfl,(by have:=Z5d (.inr (.inr rfl)) g2; omega),(by rw [yt]; exact Z4y h1),(.inl ⟨yk,by rw [yt]⟩)⟩
   have hE:Each (RH w0 Bt) [y] [⟨#[32,99,97,116,99,104,32,40]⟩ ++ s ++ ⟨#[41,32]⟩ ++ toB (sP c)]:=⟨rfl,fun i z hz=>by
    rcases i with _ | i;·(simp at hz; subst hz; exact ⟨_,rfl,Hy⟩)
    ·simp at hz⟩
   have hX:=i1.s t0 Tx (by omega) rfl;refine (Zgx a hT k1 x [y] hk _ hX _ hE (by simp) (by simp) (by have:=Z5d (.inr (.inr rfl)) g1; omega) (fun k=>?_)).cast (by rw [Zm,Z9d,Z8t,Z9l]; simp [Zm,Z4,Z7,Zj,Pc.bytes,Z2y,Z18,Z1c,Z06,s_if,Zz,Z0d,Z08,Z0s,Z1y,Z1j,Z0r,Zt]);have z0:=Z5d (.inr (.inr rfl)) g1;have z1:=Z5d (.inr (.inr rfl)) g2;have zn:=h1.2.1;rcases k with _ | k
   all_goals
    have l1:(⟨#[116,114,121,32]⟩:ByteArray).size=4:=rfl;have l2:(⟨#[32,99,97,116,99,104,32,40]⟩:ByteArray).size=8:=rfl;have l3:(⟨#[41,32]⟩:ByteArray).size=2:=rfl;have l4:(⟨#[32,102,105,110,97,108,108,121,32]⟩:ByteArray).size=9:=rfl;simp [ByteArray.size_append,l1,l2,l3,l4];omega
 | @tryf b c g1 g2 i1 i2 =>
   refine DG.ms rfl fun hm Bt a hT k1 k2 k3 k4=>?_;try simp only [Tree.many,Zv] at hm
   obtain ⟨x,r0,e0,t0,k4⟩:=Zg k4;obtain ⟨y,r1,e1,t1,k4⟩:=Zg k4;have k4:=Zy k4;subst k4;subst e1;have hk:=e0;have Tx:TreeAt w0 Bt x:=hT.kid (by rw [hk]; simp);have Ty:TreeAt w0 Bt y:=hT.kid (by rw [hk]; simp);obtain ⟨yk,yt,_,y4⟩:=Z0p t1;obtain ⟨cc,ry,ecc,tcc,y4⟩:=Zg y4;have y5:=Zy y4;subst y5;have Hy:RH w0 Bt y (⟨#[32,102,105,110,97,108,108,121,32]⟩ ++ toB (sP c)):=⟨Ty,cc,_,ecc,i2.s tcc (Ty.kid (by rw [ecc]; simp)) (by omega) rfl,(by have:=Z5d (.inr (.inr rfl)) g2; omega),(by rw [yt]; exact Yp _),(.inr ⟨yk,rfl⟩)⟩
   have hE:Each (RH w0 Bt) [y] [⟨#[32,102,105,110,97,108,108,121,32]⟩ ++ toB (sP c)]:=⟨rfl,fun i z hz=>by
    rcases i with _ | i;·(simp at hz; subst hz; exact ⟨_,rfl,Hy⟩)
    ·simp at hz⟩
   have hX:=i1.s t0 Tx (by omega) rfl;refine (Zgx a hT k1 x [y] hk _ hX _ hE (by simp) (by simp) (by have:=Z5d (.inr (.inr rfl)) g1; omega) (fun k=>?_)).cast (by rw [Zm,Z9d,Z5z,Z9l]; simp [Zm,Z4,Z7,Zj,Pc.bytes,Z2y,Z18,Z1c,Z06,s_if,Zz,Z0d,Z08,Z0s,Z1y,Z1j,Z0r,Zt]);have z0:=Z5d (.inr (.inr rfl)) g1;have z1:=Z5d (.inr (.inr rfl)) g2;rcases k with _ | k
   all_goals
    have l1:(⟨#[116,114,121,32]⟩:ByteArray).size=4:=rfl;have l2:(⟨#[32,99,97,116,99,104,32,40]⟩:ByteArray).size=8:=rfl;have l3:(⟨#[41,32]⟩:ByteArray).size=2:=rfl;have l4:(⟨#[32,102,105,110,97,108,108,121,32]⟩:ByteArray).size=9:=rfl;simp [ByteArray.size_append,l1,l2,l3,l4];omega
 | @trycf s b c e g1 h1 g2 g3 i1 i2 i3 =>
   refine DG.ms rfl fun hm Bt a hT k1 k2 k3 k4=>?_;try simp only [Tree.many,Zv] at hm
   obtain ⟨x,r0,e0,t0,k4⟩:=Zg k4;obtain ⟨y,r1,e1,t1,k4⟩:=Zg k4;obtain ⟨z,r2,e2,t2,k4⟩:=Zg k4;have k4:=Zy k4;subst k4;subst e2;subst e1;have hk:=e0;have Tx:TreeAt w0 Bt x:=hT.kid (by rw [hk]; simp);have Ty:TreeAt w0 Bt y:=hT.kid (by rw [hk]; simp);have Tz:TreeAt w0 Bt z:=hT.kid (by rw [hk]; simp);obtain ⟨yk,yt,_,y4⟩:=Z0p t1;obtain ⟨cc,ry,ecc,tcc,y4⟩:=Zg y4;have y5:=Zy y4;subst y5
   have Hy:RH w0 Bt y (⟨#[32,99,97,116,99,104,32,40]⟩ ++ s ++ ⟨#[41,32]⟩ ++ toB (sP c)):=⟨Ty,cc,_,ecc,i2.s tcc (Ty.kid (by rw [ecc]; simp)) (by omega) rfl,(by have:=Z5d (.inr (.inr rfl)) g2; omega),(by rw [yt]; exact Z4y h1),(.inl ⟨yk,by rw [yt]⟩)⟩
   obtain ⟨zk,zt,_,z4⟩:=Z0p t2;obtain ⟨cd,rz,ecd,tcd,z4⟩:=Zg z4;have z5:=Zy z4;subst z5;have Hz:RH w0 Bt z (⟨#[32,102,105,110,97,108,108,121,32]⟩ ++ toB (sP e)):=⟨Tz,cd,_,ecd,i3.s tcd (Tz.kid (by rw [ecd]; simp)) (by omega) rfl,(by have:=Z5d (.inr (.inr rfl)) g3; omega),(by rw [zt]; exact Yp _),(.inr ⟨zk,rfl⟩)⟩
   have hE:Each (RH w0 Bt) [y,z] [⟨#[32,99,97,116,99,104,32,40]⟩ ++ s ++ ⟨#[41,32]⟩ ++ toB (sP c),⟨#[32,102,105,110,97,108,108,121,32]⟩ ++ toB (sP e)]:=⟨rfl,fun i z hz=>by
    rcases i with _ | _ | i;·(simp at hz; subst hz; exact ⟨_,rfl,Hy⟩)
    ·(simp at hz; subst hz; exact ⟨_,rfl,Hz⟩)
    ·simp at hz⟩
   have hX:=i1.s t0 Tx (by omega) rfl;refine (Zgx a hT k1 x [y,z] hk _ hX _ hE (by simp) (by simp) (by have:=Z5d (.inr (.inr rfl)) g1; omega) (fun k=>?_)).cast (by rw [Zm,Z9d,Z8t,Z5z,Z9l]; simp [Zm,Z4,Z7,Zj,Pc.bytes,Z2y,Z18,Z1c,Z06,s_if,Zz,Z0d,Z08,Z0s,Z1y,Z1j,Z0r,Zt]);have z0:=Z5d (.inr (.inr rfl)) g1;have z1:=Z5d (.inr (.inr rfl)) g2;have z2:=Z5d (.inr (.inr rfl)) g3;have zn:=h1.2.1;rcases k with _ | _ | k
   all_goals
    have l1:(⟨#[116,114,121,32]⟩:ByteArray).size=4:=rfl;have l2:(⟨#[32,99,97,116,99,104,32,40]⟩:ByteArray).size=8:=rfl;have l3:(⟨#[41,32]⟩:ByteArray).size=2:=rfl;have l4:(⟨#[32,102,105,110,97,108,108,121,32]⟩:ByteArray).size=9:=rfl;simp [ByteArray.size_append,l1,l2,l3,l4];omega
 | empty =>
   refine DG.ms rfl fun hm Bt a hT k1 k2 k3 k4=>?_;try simp only [Tree.many,Zv] at hm
   exact (Zjk a hT k1).cast (by rw [Zm,Zcw]; simp [Zm,Z4,Z7,Zj,Pc.bytes,Z2y,Z18,Z1c,Z06,s_if,Zz,Z0d,Z08,Z0s,Z1y,Z1j,Z0r,Zt])
 | @expr x0 g1 i1 =>
   refine DG.ms rfl fun hm Bt a hT k1 k2 k3 k4=>?_;try simp only [Tree.many,Zv] at hm
   obtain ⟨x,r0,e0,t0,k4⟩:=Zg k4;have k4:=Zy k4;subst k4;have hk:=e0;have Tx:TreeAt w0 Bt x:=hT.kid (by rw [hk]; simp);have hne:0 < (toB (vbT x0)).size:=by
    have:=Zfc g1;rw [Z2q];unfold lenP;exact List.length_pos_iff.2 this
   refine (Zl3 a hT k1 x hk _ (rval a hT x 0 (by rw [hk]; rfl) _ (i1.v t0 Tx (by omega) rfl) (by rw [hk]; simp)) hne (by have:=Z5m g1; omega)).cast ?_;rw [Zm,Zm,Zgh,Z3e];unfold Zfm Z9o;split;·simp [Zm,Z4,Z7,Zj,Pc.bytes,Z2y,Z18,Z1c,Z06,s_if,Zz,Z0d,Z08,Z0s,Z1y,Z1j,Z0r,Zt]
   ·simp [Zm,Z4,Z7,Zj,Pc.bytes,Z2y,Z18,Z1c,Z06,s_if,Zz,Z0d,Z08,Z0s,Z1y,Z1j,Z0r,Zt]
 | snil=>exact DG.nil
 | scons _ _ i1 i2=>exact i1.cons rfl i2
theorem Zge (w0:World) (hP:Pow w0) (Bt:Nat) (a:ATree) (hT:TreeAt w0 Bt a) (hl:Wf .sl (Zr a.kids)) (hm:Zv (Zr a.kids)≤1500) (W:World) (hB:Below w0.heap.size w0 W) :
 Calls Tryz.prog 9 #[a.ptr] W fun e w'=>e=.returned (.string (Zgg (Zr a.kids)))∧Below W.heap.size W w':=by
 have hS:∀ x∈a.kids,RS' w0 x (toB (sP x.tree)):=fun x hx=>(Zly hP hl hm Bt a.kids rfl (fun y hy=>hT.kid hy) x hx).1 rfl;have hfit:=(Z4p hl).2;have c3:=hT.c3;obtain ⟨p,cp,hvv,hge,hmx,hk⟩:=Z4j hT;obtain ⟨L,hL⟩:=zX a.kids
 rw [← hL] at hS hfit hge hk hvv hm ⊢;obtain ⟨n,hn⟩:=zX L.length
 have hlen:L.length≤1500:=by have:=Z2x (Zr L); rw [Z2p] at this; omega
 rw [hvv,← hn] at c3;rw [← hn] at hge hlen;unfold maxLen at hmx;have HB0:=lh hB;have HK:=lh hk;have HS:=lh hS;have HN:=lh hn;have x3:=ob hB c3;have HF:Hid (lenP (pP (Zr L))≤3000000):=lh (by omega);unfold Zgg;clear hT hB hk hS hn hvv hL hl hm hfit c3;unfold ATree.ptr;go_enter Tryz.func9,Tryz.ntmps9
 go_wp2_with fail
 go_loopw [3,5,13] (fun s _ i wr=>∃ k:Nat,k≤n∧i=.int .i64 k∧s=.string (toB (pP (Zr (L.take k))))∧Hid (Below W.heap.size W wr)) (fun _ _ i _=>n - (intOf i).toNat)
 case atStart=>exact ⟨0,by omega,rfl,rfl,lh (Y8 _ _)⟩
 case round=>
  obtain ⟨k,hkn,rfl,rfl,HC⟩:=hrel;by_cases hlt:k < n
  ·obtain ⟨x, hx⟩ : ∃ x, L[k]? = some x := ⟨_, Yd (by rw [← HN.out]; exact hlt)⟩
   obtain ⟨g,off,rfl,hc⟩:=HK.out k x hx;have HBk:=lh (HB0.out.trans (HC.out.mono HB0.out.size));have cx:=ob HBk.out hc;have HX:=lh (HS.out x (Yl hx));unfold RS' ATree.ptr at HX;have htk:L.take (k + 1)=L.take k ++ [x]:=by rw [List.take_add_one,hx]; rfl
   have hsn:toB (pP (Zr (L.take (k + 1))))=toB (pP (Zr (L.take k))) ++ (toB (sP x.tree) ++ ⟨#[10]⟩):=by
    rw [htk,Z2j,show Zr [x]=[x.tree] from rfl,Zdf];exact bext (by simp [Zm,pP,Z4,Z7,Zj,Pc.bytes])
   have hpre:(toB (pP (Zr (L.take (k + 1))))).size≤(toB (pP (Zr L))).size:=by
    have h:Zr L=Zr (L.take (k + 1)) ++ Zr (L.drop (k + 1)):=by rw [← Z2j,List.take_append_drop]
    rw [Z2q,Z2q,h,Zdf,Zx]; omega
   rw [hsn,ByteArray.size_append,ByteArray.size_append,Z2q (pP (Zr L))] at hpre;have hf:=HF.out;have HSN:=lh hsn;unfold ATree.ptr at cx;have hkI:((k:Nat):Int) < (n:Int):=by omega
   obtain ⟨P,hP⟩:=zX (toB (pP (Zr (L.take k))))
   obtain ⟨X,hX⟩:=zX (toB (sP x.tree))
   rw [← hP,← hX] at hpre HSN;rw [← hP];rw [← hX] at HX;have h1:(⟨#[10]⟩:ByteArray).size=1:=rfl;have q1:¬ 9223372036854775807 < X.size + 1:=by omega
   have q2:¬ 9223372036854775807 < P.size + (X.size + 1):=by omega
   clear hc hx htk hsn hpre hf hP hX h1;go_wp2_with fail
   refine (HX.out _ HBk.out).mono ?_;rintro e w2 ⟨rfl,hb2⟩;have HC2:=zT HC hb2;clear hb2 HX;go_wp2;go_roundw
   case rel=>exact ⟨k + 1,by omega,by go_num,by rw [HSN.out],HC2⟩
   case measure=>simp [intOf]; omega
  ·have hk2 : k = n := by omega
   subst hk2;have htk:L.take k=L:=Ym (by rw [← HN.out]; exact Y5 _);rw [htk];clear htk;go_wp2;go_ret;exact ⟨rfl,HC.out⟩
structure QC where
 rb:Nat
 tb:Nat
 off:Nat
 cap:Nat
 L:List Tok
def fE:Option (Int×Nat)→Int
 | none=>0
 | some x=>x.1
def fP:Option (Int×Nat)→Int
 | none=>-1
 | some x=>x.2
structure QAt (w:World) (C:QC) (i:Nat) (f:Option (Int×Nat)):Prop where
 blk:w.heap[C.rb]?=some (.cells #[.slice (some ⟨C.tb,C.off,none⟩) C.L.length C.cap,.int .i64 i,.int .i64 (fE f),.int .i64 (fP f)] 45 (0,0))
 le:C.L.length≤C.cap
 most:C.cap≤9223372036854775807
 ord:C.tb < C.rb
 cells:∀ k t j x,C.L[k]?=some t→t.cells[j]?=some x→w.cell? ⟨C.tb,C.off + k * 4 + j,none⟩=some x
 last:∃ l e,C.L=l ++ [e]∧e.kind=6∧∀ t∈l,t.kind≠6
 lt:i < C.L.length
 few:C.L.length≤4000
 code:∀ c p,f=some (c,p)→c≠0
 pm:∀ t∈C.L,t.kind=5→t.text≠⟨#[43,45]⟩
 sm:∀ t∈C.L,t.text.size≤maxLen
def QS (w:World) (C:QC) (σ:RS):Prop:=∃ i,σ.ts=C.L.drop i∧QAt w C i σ.f
section
variable {w w':World} {C:QC} {i:Nat} {f:Option (Int×Nat)} {σ:RS}
theorem QAt.rlt (h:QAt w C i f):C.rb < w.heap.size:=(Y6.1 h.blk).1
theorem QAt.keep (h:QAt w C i f) (hk:∀ k,k≤C.rb→w'.heap[k]?=w.heap[k]?):QAt w' C i f:=
 ⟨(hk _ (Y5 _)).trans h.blk,h.le,h.most,h.ord,fun k t j x h1 h2=>(Yj (hk _ (Nat.le_of_lt h.ord))).trans (h.cells k t j x h1 h2),h.last,h.lt,h.few,h.code,h.pm,h.sm⟩
theorem QAt.below (h:QAt w C i f) (hB:Below w.heap.size w w'):QAt w' C i f:=h.keep fun k hk=>hB.block k (Nat.lt_of_le_of_lt hk h.rlt)
theorem QAt.drew (h:QAt w C i f):QAt w.drew C i f:=h.keep fun _ _=>rfl
theorem QS.below (h:QS w C σ) (hB:Below w.heap.size w w'):QS w' C σ:=by
 obtain ⟨i,e,h⟩:=h;exact ⟨i,e,h.below hB⟩
theorem QS.drew (h:QS w C σ):QS w.drew C σ:=h.below (Y8 _ _).drew
theorem QS.rlt (h:QS w C σ):C.rb < w.heap.size:=by obtain ⟨i,e,h⟩:=h; exact h.rlt
theorem QAt.c0 (h:QAt w C i f):w.cell? ⟨C.rb,0,none⟩=some (.slice (some ⟨C.tb,C.off,none⟩) C.L.length C.cap):=by simp [World.cell?,h.blk]
theorem QAt.c1 (h:QAt w C i f):w.cell? ⟨C.rb,1,none⟩=some (.int .i64 i):=by simp [World.cell?,h.blk]
theorem QAt.c2 (h:QAt w C i f):w.cell? ⟨C.rb,2,none⟩=some (.int .i64 (fE f)):=by simp [World.cell?,h.blk]
theorem QAt.c3 (h:QAt w C i f):w.cell? ⟨C.rb,3,none⟩=some (.int .i64 (fP f)):=by simp [World.cell?,h.blk]
theorem QAt.fz (h:QAt w C i f) (j:Nat):w.frozen? ⟨C.rb,j,none⟩=false:=by simp [World.frozen?,h.blk]
theorem QAt.hdEq (h:QAt w C i f):C.L[i]?=some (hdT (C.L.drop i)):=by
 have:=h.lt;rw [List.drop_eq_getElem_cons this,Yd this];rfl
theorem QAt.hd (h:QAt w C i f) {j:Nat} {x:Value} (hj:(hdT (C.L.drop i)).cells[j]?=some x):w.cell? ⟨C.tb,C.off + i * 4 + j,none⟩=some x:=h.cells i _ j x h.hdEq hj
theorem QAt.more (h:QAt w C i f) (hk:(hdT (C.L.drop i)).kind≠6):i + 1 < C.L.length:=by
 obtain ⟨l,e,h1,h2,_⟩:=h.last;have hi:=h.lt;have hh:=h.hdEq;rw [h1] at hh hi ⊢;rw [Yq,List.length_singleton] at hi ⊢;by_cases hl:i < l.length;·omega
 ·exfalso;have e1 : i = l.length := by omega
  subst e1;rw [List.getElem?_append_right (Y5 _)] at hh;simp only [Nat.sub_self,List.getElem?_cons_zero,Option.some.injEq] at hh;rw [h1,← hh] at hk;exact hk h2
theorem QAt.at (h:QAt w C i f) {j:Nat} (hj:j < C.L.length) {x:Int} (hx:x=j):QAt (w.setCell ⟨C.rb,1,none⟩ (.int .i64 x)) C j f:=by
 subst hx;have hb:=Yg w ⟨C.rb,1,none⟩ (.int .i64 (j:Int)) C.tb (by have:=h.ord; simp only; omega);exact ⟨Z07 (o:=1) (.int .i64 (j:Int)) h.blk,h.le,h.most,h.ord,fun k t j' x h3 h4=>(Yj hb).trans (h.cells k t j' x h3 h4),h.last,hj,h.few,h.code,h.pm,h.sm⟩
theorem QAt.fault (h:QAt w C i f) {c:Int} {p:Nat} (hc:c≠0) {x:Int} (hx:x=p):QAt ((w.setCell ⟨C.rb,2,none⟩ (.int .i64 c)).setCell ⟨C.rb,3,none⟩ (.int .i64 x)) C i (some (c,p)):=by
 subst hx;have hb:((w.setCell ⟨C.rb,2,none⟩ (.int .i64 c)).setCell ⟨C.rb,3,none⟩ (.int .i64 (p:Int))).heap[C.tb]?=w.heap[C.tb]?:=by
  have:=h.ord;rw [Yg _ _ _ _ (by simp only; omega),Yg _ _ _ _ (by simp only; omega)]
 exact ⟨Z07 (o:=3) _ (Z07 (o:=2) _ h.blk),h.le,h.most,h.ord,fun k t j' x h3 h4=>(Yj hb).trans (h.cells k t j' x h3 h4),h.last,h.lt,h.few,fun c' p' e=>by
  simp only [Option.some.injEq,Prod.mk.injEq] at e;rw [← e.1]; exact hc,h.pm,h.sm⟩
theorem Zbr {α:Type} (l:List α) (i:Nat):(l.drop i).tail=l.drop (i + 1):=by rw [List.tail_drop]
theorem QS.adv {w:World} (h:QAt w C i f) (hk:(hdT (C.L.drop i)).kind≠6) {x:Int} (hx:x=(i:Int) + 1):QS (w.setCell ⟨C.rb,1,none⟩ (.int .i64 x)) C (advR ⟨C.L.drop i,f⟩):=
 ⟨i + 1,Zbr _ _,h.at (h.more hk) (by rw [hx]; rfl)⟩
theorem Zhq (h:QAt w C i f):Calls Tryz.prog 12 #[.pointer (some ⟨C.rb,0,none⟩)] w fun e w'=>e=.returned (.bool f.isNone)∧w=w':=by
 have hc:=h.c2;have hcode:=h.code;rcases f with _ | ⟨c,p⟩
 ·simp only [fE] at hc;clear h hcode;go_enter Tryz.func12, Tryz.ntmps12
  go_wp2;go_ret;exact ⟨rfl,rfl⟩
 ·have h0 : (c == 0) = false := by simpa using hcode c p rfl
  simp only [fE] at hc;clear h hcode;go_enter Tryz.func12,Tryz.ntmps12
  go_wp2;go_ret;exact ⟨rfl,rfl⟩
theorem Z2f (h:QS w C σ):Calls Tryz.prog 12 #[.pointer (some ⟨C.rb,0,none⟩)] w fun e w'=>e=.returned (.bool σ.f.isNone)∧w=w':=by
 obtain ⟨i,_,h⟩:=h;exact Zhq h
theorem Zlb (s:ByteArray) (t:Tok):((decide (t.kind=5) || decide (t.kind=2)) && Z15 t.text s)=((t.kind == 2 || t.kind == 5) && (t.text.toList == s.toList)):=by
 rw [Z3u,Bool.or_comm]; rfl
theorem Zk (h:QS w C σ) (s:ByteArray):Calls Tryz.prog 33 #[.pointer (some ⟨C.rb,0,none⟩),.string s] w fun e w'=>e=.returned (.bool (Zl s σ))∧Below w.heap.size w w':=by
 obtain ⟨i,e,h⟩:=h;obtain ⟨ts,f⟩:=σ;simp only at e h;subst e;have HOK:=lh (fun w1 (hB:Below w.heap.size w w1)=>Zhq (h.below hB));have c0:=h.c0;have c1:=h.c1;have t0:=h.hd (j:=0) rfl;have t1:=h.hd (j:=1) rfl;have t2:=h.hd (j:=2) rfl;have t3:=h.hd (j:=3) rfl;have hi:=h.lt;have hle:=h.le;have hm:=h.most;have hr:=h.rlt;have ht:C.tb < w.heap.size:=Nat.lt_trans h.ord hr;obtain ⟨n,hn⟩:=zX C.L.length
 rw [← hn] at c0 hi hle;obtain ⟨X,hX⟩:=zX (Zl s ⟨C.L.drop i,f⟩)
 rw [← hX];unfold Zl isT at hX;rw [Zlb] at hX;obtain ⟨⟨k,tx,tn,ta⟩,htok⟩:∃ t,t=hdT (C.L.drop i):=⟨_,rfl⟩
 simp only [← htok] at t0 t1 t2 t3 hX;rw [Nat.add_zero] at t0;generalize C.tb=tb at *;generalize C.off=off at *;generalize C.cap=cap at *;generalize f.isNone=b at *;have HX:=lh hX;generalize C.rb=rb at *;clear h hn htok hX;cases b with
 | false =>
   go_enter Tryz.func33,Tryz.ntmps33
   go_wp2_with fail
   refine Zf [0,2,4,6,8,10,12,14,16,18,21] [11] (fun W=>W.cell? ⟨rb,0,none⟩=some (.slice (some ⟨tb,off,none⟩) n cap)∧W.cell? ⟨rb,1,none⟩=some (.int .i64 i)∧W.cell? ⟨tb,off + i * 4,none⟩=some (.int .i64 k)∧W.cell? ⟨tb,off + i * 4 + 1,none⟩=some (.string tx)∧W.cell? ⟨tb,off + i * 4 + 2,none⟩=some (.int .i64 tn)∧W.cell? ⟨tb,off + i * 4 + 3,none⟩=some (.int .i64 ta)) ⟨c0,c1,t0,t1,t2,t3⟩ fun _=>?_
   simp only [Zh,pD,zD,zE,zF,zG,zH,zI,zJ,zK]
   iterate 10
    first | refine Za _ ?_ | refine Zb ?_
    simp only [Act.put,zA,zB,zC]
   refine Z5 (fun K hK=>?_);go_simp
   refine hK _ _ ⟨(Z8 hr).trans c0,(Z8 hr).trans c1,(Z8 ht).trans t0,(Z8 ht).trans t1,(Z8 ht).trans t2,(Z8 ht).trans t3⟩ ?_;clear hK K;refine Z6 ?_;go_wp2_with fail
   refine (HOK.out _ ?_).mono ?_;·repeat (first | exact Y8 _ _ | (refine Below.setCell ?_ (by simp) _) | (refine Below.alloc ?_ (by simp) _) | (refine Below.drew ?_))
   rintro e w1 ⟨rfl,rfl⟩;go_wp2;go_ret;refine ⟨Z7a (by rw [HX.out]; rfl),?_⟩;repeat (first | exact Y8 _ _ | (refine Below.setCell ?_ (by simp) _) | (refine Below.alloc ?_ (by simp) _) | (refine Below.drew ?_))
 | true =>
   by_cases k2:(k == 2)=true
   ·go_enter Tryz.func33, Tryz.ntmps33
    go_wp2_with fail
    refine Zf [0,2,4,6,8,10,12,14,16,18,21] [11] (fun W=>W.cell? ⟨rb,0,none⟩=some (.slice (some ⟨tb,off,none⟩) n cap)∧W.cell? ⟨rb,1,none⟩=some (.int .i64 i)∧W.cell? ⟨tb,off + i * 4,none⟩=some (.int .i64 k)∧W.cell? ⟨tb,off + i * 4 + 1,none⟩=some (.string tx)∧W.cell? ⟨tb,off + i * 4 + 2,none⟩=some (.int .i64 tn)∧W.cell? ⟨tb,off + i * 4 + 3,none⟩=some (.int .i64 ta)) ⟨c0,c1,t0,t1,t2,t3⟩ fun _=>?_
    simp only [Zh,pD,zD,zE,zF,zG,zH,zI,zJ,zK]
    iterate 10
     first | refine Za _ ?_ | refine Zb ?_
     simp only [Act.put,zA,zB,zC]
    refine Z5 (fun K hK=>?_);go_simp
    refine hK _ _ ⟨(Z8 hr).trans c0,(Z8 hr).trans c1,(Z8 ht).trans t0,(Z8 ht).trans t1,(Z8 ht).trans t2,(Z8 ht).trans t3⟩ ?_;clear hK K;refine Z6 ?_;go_wp2_with fail
    refine (HOK.out _ ?_).mono ?_;·repeat (first | exact Y8 _ _ | (refine Below.setCell ?_ (by simp) _) | (refine Below.alloc ?_ (by simp) _) | (refine Below.drew ?_))
    rintro e w1 ⟨rfl,rfl⟩;go_wp2;go_ret;refine ⟨Z7a (by rw [HX.out,k2]; rfl),?_⟩;repeat (first | exact Y8 _ _ | (refine Below.setCell ?_ (by simp) _) | (refine Below.alloc ?_ (by simp) _) | (refine Below.drew ?_))
   ·have k2' : (k == 2) = false := by simpa using k2
    by_cases k5:(k == 5)=true
    ·go_enter Tryz.func33, Tryz.ntmps33
     go_wp2_with fail
     refine Zf [0,2,4,6,8,10,12,14,16,18,21] [11] (fun W=>W.cell? ⟨rb,0,none⟩=some (.slice (some ⟨tb,off,none⟩) n cap)∧W.cell? ⟨rb,1,none⟩=some (.int .i64 i)∧W.cell? ⟨tb,off + i * 4,none⟩=some (.int .i64 k)∧W.cell? ⟨tb,off + i * 4 + 1,none⟩=some (.string tx)∧W.cell? ⟨tb,off + i * 4 + 2,none⟩=some (.int .i64 tn)∧W.cell? ⟨tb,off + i * 4 + 3,none⟩=some (.int .i64 ta)) ⟨c0,c1,t0,t1,t2,t3⟩ fun _=>?_
     simp only [Zh,pD,zD,zE,zF,zG,zH,zI,zJ,zK]
     iterate 10
      first | refine Za _ ?_ | refine Zb ?_
      simp only [Act.put,zA,zB,zC]
     refine Z5 (fun K hK=>?_);go_simp
     refine hK _ _ ⟨(Z8 hr).trans c0,(Z8 hr).trans c1,(Z8 ht).trans t0,(Z8 ht).trans t1,(Z8 ht).trans t2,(Z8 ht).trans t3⟩ ?_;clear hK K;refine Z6 ?_;go_wp2_with fail
     refine (HOK.out _ ?_).mono ?_;·repeat (first | exact Y8 _ _ | (refine Below.setCell ?_ (by simp) _) | (refine Below.alloc ?_ (by simp) _) | (refine Below.drew ?_))
     rintro e w1 ⟨rfl,rfl⟩;go_wp2;go_ret;refine ⟨Z7a (by rw [HX.out,k5,Bool.or_true]; rfl),?_⟩;repeat (first | exact Y8 _ _ | (refine Below.setCell ?_ (by simp) _) | (refine Below.alloc ?_ (by simp) _) | (refine Below.drew ?_))
    ·have k5' : (k == 5) = false := by simpa using k5
     go_enter Tryz.func33,Tryz.ntmps33
     go_wp2_with fail
     refine Zf [0,2,4,6,8,10,12,14,16,18,21] [11] (fun W=>W.cell? ⟨rb,0,none⟩=some (.slice (some ⟨tb,off,none⟩) n cap)∧W.cell? ⟨rb,1,none⟩=some (.int .i64 i)∧W.cell? ⟨tb,off + i * 4,none⟩=some (.int .i64 k)∧W.cell? ⟨tb,off + i * 4 + 1,none⟩=some (.string tx)∧W.cell? ⟨tb,off + i * 4 + 2,none⟩=some (.int .i64 tn)∧W.cell? ⟨tb,off + i * 4 + 3,none⟩=some (.int .i64 ta)) ⟨c0,c1,t0,t1,t2,t3⟩ fun _=>?_
     simp only [Zh,pD,zD,zE,zF,zG,zH,zI,zJ,zK]
     iterate 10
      first | refine Za _ ?_ | refine Zb ?_
      simp only [Act.put,zA,zB,zC]
     refine Z5 (fun K hK=>?_);go_simp
     refine hK _ _ ⟨(Z8 hr).trans c0,(Z8 hr).trans c1,(Z8 ht).trans t0,(Z8 ht).trans t1,(Z8 ht).trans t2,(Z8 ht).trans t3⟩ ?_;clear hK K;refine Z6 ?_;go_wp2_with fail
     refine (HOK.out _ ?_).mono ?_;·repeat (first | exact Y8 _ _ | (refine Below.setCell ?_ (by simp) _) | (refine Below.alloc ?_ (by simp) _) | (refine Below.drew ?_))
     rintro e w1 ⟨rfl,rfl⟩;go_wp2;go_ret;refine ⟨Z7a (by rw [HX.out,k2',k5']; rfl),?_⟩;repeat (first | exact Y8 _ _ | (refine Below.setCell ?_ (by simp) _) | (refine Below.alloc ?_ (by simp) _) | (refine Below.drew ?_))
theorem RFr.of_set {w:World} {rb:Nat} (o:Nat) (x:Value):RFr w (w.setCell ⟨rb,o,none⟩ x) rb:=(RFr.refl w rb).set o x
def Z27 (w:World) (C:QC) (B:Nat) (t:Tree) (σ':RS) (e:Ending) (w':World):Prop:=
 ∃ a,e=.returned (.pointer (some ⟨a.b,0,none⟩))∧Got w B w' a t∧QS w' C σ'∧RFr w w' C.rb
theorem Z2t (h:QS w C σ) (c:Int) (hc:c≠0) (B:Nat) (hB:C.rb < B) (hBw:B≤w.heap.size) :
 Calls Tryz.prog 32 #[.pointer (some ⟨C.rb,0,none⟩),.int .i64 c] w (Z27 w C B gT (Z39 c σ)):=by
 obtain ⟨i,e,h⟩:=h;obtain ⟨ts,f⟩:=σ;simp only at e h;subst e;have HOK:=lh (Zhq h);have HH:=lh h;cases hf:f.isNone with
 | false =>
   rw [hf] at HOK;have hR:Z39 c ⟨C.L.drop i,f⟩=⟨C.L.drop i,f⟩:=by simp [Z39,hf]
   rw [hR];clear h hf hR;go_enter Tryz.func32,Tryz.ntmps32
   go_wp2_with fail
   refine HOK.out.mono ?_;rintro e w1 ⟨rfl,rfl⟩;go_wp2;go_ret;exact ⟨_,rfl,Got.leaf hBw (RFr.refl w C.rb),⟨i,rfl,HH.out.below ((Y8 _ _).alloc (Y5 _) _)⟩,RFr.below ((Y8 _ _).alloc (Y5 _) _)⟩
 | true =>
   rw [hf] at HOK;obtain rfl:f=none:=by cases f <;> simp_all
   have hR:Z39 c ⟨C.L.drop i,none⟩=⟨C.L.drop i,some (c,(hdT (C.L.drop i)).at')⟩:=by simp [Z39]
   rw [hR];have c0:=h.c0;have c1:=h.c1;have c2:=h.c2;have c3:=h.c3;have t3:=h.hd (j:=3) rfl;have z2:=h.fz 2;have z3:=h.fz 3;have hi:=h.lt;have hle:=h.le;have hm:=h.most;obtain ⟨p,hp⟩:=zX ((hdT (C.L.drop i)).at')
   rw [← hp] at t3 ⊢;obtain ⟨n,hn⟩:=zX C.L.length
   rw [← hn] at c0 hi hle;clear h hf hR hp hn;obtain ⟨rb,tb,off,cap,L⟩:=C;simp only at *;go_enter Tryz.func32,Tryz.ntmps32
   go_wp2_with fail
   refine HOK.out.mono ?_;rintro e w1 ⟨rfl,rfl⟩;go_wp2_with fail
   refine Zf [0,2,4,6,8,10,12,14,16,18,20,22,24,26] [14,15,16] (fun W=>W.cell? ⟨rb,0,none⟩=some (.slice (some ⟨tb,off,none⟩) n cap)∧W.cell? ⟨rb,1,none⟩=some (.int .i64 i)∧W.cell? ⟨tb,off + i * 4 + 3,none⟩=some (.int .i64 p)) ⟨c0,c1,t3⟩ fun _=>?_;simp only [Zh,pD,zD,zE,zF,zG,zH,zI,zJ,zK]
   iterate 14
    first | refine Za _ ?_ | refine Zb ?_
    simp only [Act.put,zA,zB,zC]
   refine Z6 ?_;go_wp2;go_ret;have h2:QAt ((w.setCell ⟨rb,2,none⟩ (.int .i64 c)).setCell ⟨rb,3,none⟩ (.int .i64 p)) ⟨rb,tb,off,cap,L⟩ i (some (c,p)):=HH.out.fault hc rfl;have h3:RFr w ((w.setCell ⟨rb,2,none⟩ (.int .i64 c)).setCell ⟨rb,3,none⟩ (.int .i64 p)) rb:=((RFr.refl w rb).set 2 _).set 3 _;have h4:=Got.leaf (w0:=w) (rb:=rb) (B:=B) (k:=0) (t:=⟨#[]⟩) (n:=0) hBw h3;refine ⟨_,?pt,h4.rfr hB (RFr.refl _ rb).drew,⟨i,rfl,(h2.below ((Y8 _ _).alloc (Y5 _) _)).drew⟩,(h3.trans (RFr.below ((Y8 _ _).alloc (Y5 _) _))).drew⟩
   case pt=>simp [ATree.b]
theorem Z31 {s:ByteArray} {σ:RS} (h:Zl s σ=true):isT s σ.ts=true:=by
 unfold Zl at h;simp only [Bool.and_eq_true] at h;exact h.2
theorem Z1i (h:QS w C σ) (s:ByteArray):Calls Tryz.prog 35 #[.pointer (some ⟨C.rb,0,none⟩),.string s] w fun e w'=>
 e=.returned (.bool (Zl s σ))∧QS w' C (if Zl s σ then advR σ else σ)∧RFr w w' C.rb:=by
 have HN:=Zk h s;have HH:=lh h;obtain ⟨rb,tb,off,cap,L⟩:=C;by_cases hs:Zl s σ=true
 ·rw [hs] at HN;have HN := lh HN;have HS := lh hs;rw [Yb hs];clear h hs;go_enter Tryz.func35, Tryz.ntmps35
  go_wp2_with fail
  refine HN.out.mono ?_;rintro e w1 ⟨rfl,hB1⟩;have h1:=HH.out.below hB1;have HB:=lh hB1;obtain ⟨i,e,h⟩:=h1;have c1:=h.c1;have z1:=h.fz 1;have hi:=h.lt;have hf:=h.few;simp only at c1 z1;have H1:=lh h;have E1:=lh e;clear hB1 h e;go_wp2;go_ret;have hk:=Z54 (Z31 HS.out);rw [E1.out] at hk;have h2:=QS.adv H1.out (x:=(i:Int) + 1) hk rfl;have h3:(⟨List.drop i L,σ.f⟩:RS)=σ:=by rw [← E1.out]
  simp only at h2;rw [h3] at h2;refine ⟨by rw [HS.out]; rfl,h2,(RFr.below HB.out).set 1 _⟩
 ·have hs : Zl s σ = false := by simpa using hs
  rw [hs] at HN;have HN:=lh HN;simp only [hs,if_false,Bool.false_eq_true];clear h hs;go_enter Tryz.func35,Tryz.ntmps35
  go_wp2_with fail
  refine HN.out.mono ?_;rintro e w1 ⟨rfl,hB1⟩;have HB:=lh hB1;clear hB1;go_wp2;go_ret;exact ⟨rfl,HH.out.below HB.out,RFr.below HB.out⟩
theorem Z0w (h:QS w C σ) (s:ByteArray) (B:Nat) (hB:C.rb < B) (hBw:B≤w.heap.size):Calls Tryz.prog 40 #[.pointer (some ⟨C.rb,0,none⟩),.string s] w fun e w'=>
 e=.returned (.tuple #[])∧QS w' C (Z0y s σ)∧RFr w w' C.rb:=by
 have HO:=Z2f h;have HH:=lh h;have HBB:=lh hB;have HBW:=lh hBw;obtain ⟨X,hX⟩:=zX (Z0y s σ)
 rw [← hX];unfold Z0y at hX;by_cases hf:σ.f.isNone=true
 ·rw [hf] at HO;rw [Yb hf] at hX;have HS := Z1i h s;have hns : Zl s σ = isT s σ.ts := by simp [Zl, hf]
  rw [hns] at HS;have HO:=lh HO;by_cases hs:isT s σ.ts=true
  ·rw [Yb hs] at hX;rw [hs] at HS;rw [Yb rfl, ← hX] at HS;have HS := lh HS;clear h hX hf hns hs hB hBw;go_enter Tryz.func40, Tryz.ntmps40
   go_wp2_with fail
   refine HO.out.mono ?_;rintro e w1 ⟨rfl,rfl⟩;go_wp2_with fail
   refine HS.out.mono ?_;rintro e w1 ⟨rfl,h1⟩;have H1:=lh h1;clear h1;go_wp2;go_end0
   exact ⟨rfl,H1.out⟩
  ·rw [Y9 hs] at hX;have hs : isT s σ.ts = false := by simpa using hs
   rw [hs] at HS;simp only [Bool.false_eq_true,if_false] at HS;have HS:=lh HS;have HX:=lh hX;clear h hX hf hns hs hB hBw;go_enter Tryz.func40,Tryz.ntmps40
   go_wp2_with fail
   refine HO.out.mono ?_;rintro e w1 ⟨rfl,rfl⟩;go_wp2_with fail
   refine HS.out.mono ?_;rintro e w2 ⟨rfl,h2⟩;have H2:=lh h2;clear h2;go_wp2_with fail
   refine (Z2t H2.out.1 3 (by decide) B HBB.out (Ya HBW.out H2.out.2.size)).mono ?_;rintro e w3 ⟨a,rfl,_,h3,h4⟩;have H3:=lh h3;have H4:=lh h4;clear h3 h4;go_wp2;go_end0
   refine ⟨rfl,?_,H2.out.2.trans H4.out⟩;rw [HX.out];exact H3.out
 ·have hf : σ.f.isNone = false := Bool.eq_false_iff.2 hf;rw [hf] at HO;rw [Y9 (by rw [hf]; decide)] at hX;have HO := lh HO;have HX := lh hX;clear h hX hf hB hBw;go_enter Tryz.func40, Tryz.ntmps40
  go_wp2_with fail
  refine HO.out.mono ?_;rintro e w1 ⟨rfl,rfl⟩;go_wp2;go_end0
  exact ⟨rfl,by rw [HX.out]; exact HH.out,RFr.refl _ _⟩
theorem Z34 (h:QS w C σ) (B:Nat) (hB:C.rb < B) (hBw:B≤w.heap.size):Calls Tryz.prog 36 #[.pointer (some ⟨C.rb,0,none⟩)] w fun e w'=>
 e=.returned (.string (Zw σ).1)∧QS w' C (Zw σ).2∧RFr w w' C.rb:=by
 have HO:=Z2f h;have HH:=lh h;have HBB:=lh hB;have HBW:=lh hBw;obtain ⟨X,hX⟩:=zX (Zw σ)
 rw [← hX];unfold Zw at hX;by_cases hf:σ.f.isNone=true
 ·rw [hf] at HO;rw [Yb hf] at hX;have HO := lh HO;obtain ⟨i, e, h⟩ := h;obtain ⟨ts, f⟩ := σ;simp only at e hf hX;subst e;have c0 := h.c0;have c1 := h.c1;have t0 := h.hd (j := 0) (x := .int .i64 (hdT (C.L.drop i)).kind) rfl;have t1 := h.hd (j := 1) (x := .string (hdT (C.L.drop i)).text) rfl;have z1 := h.fz 1;have hi := h.lt;have hle := h.le;have hm := h.most;have hr := h.rlt;have ho := h.ord;have hfew := h.few;have HA := lh h;rw [Nat.add_zero] at t0;obtain ⟨rb, tb, off, cap, L⟩ := C;simp only at *;obtain ⟨n, hn⟩ := zX L.length
  rw [← hn] at c0 hi hle hfew;by_cases hk:(hdT (L.drop i)).kind=1
  ·rw [Yb hk] at hX;rw [hk] at t0;have hk6 : (hdT (L.drop i)).kind ≠ 6 := by rw [hk]; decide
   have HK6:=lh hk6;have HX:=lh hX;have hrt:¬ rb=tb:=by omega
   obtain ⟨tx,htx⟩:=zX ((hdT (L.drop i)).text)
   rw [← htx] at t1;have HTX:=lh htx;clear h hX hf hk hB hBw hk6 hn htx;go_enter Tryz.func36,Tryz.ntmps36
   go_wp2_with fail
   refine HO.out.mono ?_;rintro e w1 ⟨rfl,rfl⟩;go_wp2_with fail
   refine Zf [0,2,4,6,8,10,12,14] [8,9,10,11] (fun W=>W.cell? ⟨rb,0,none⟩=some (.slice (some ⟨tb,off,none⟩) n cap)∧W.cell? ⟨rb,1,none⟩=some (.int .i64 i)∧W.cell? ⟨tb,off + i * 4,none⟩=some (.int .i64 1)) ⟨c0,c1,t0⟩ fun _=>?_;simp only [Zh,pD,zD,zE,zF,zG,zH,zI,zJ,zK]
   iterate 8
    first | refine Za _ ?_ | refine Zb ?_
    simp only [Act.put,zA,zB,zC]
   refine Z6 ?_;have h2:=HA.out.drew.at (j:=i + 1) (x:=(i:Int) + 1) (HA.out.more HK6.out) rfl;have d0:=h2.c0;have d1:=h2.c1;have e1:=h2.cells i _ 1 (.string (hdT (L.drop i)).text) HA.out.hdEq rfl;simp only [← HTX.out] at d0 d1 e1;obtain ⟨m,hm'⟩:=zX L.length
   rw [← hm'] at d0;have hm2:=HA.out.more HK6.out;simp only [← hm'] at hm2;have H2:=lh h2;clear h2 hm';go_wp2_with fail
   refine Zf [0,2,4,6,8,10,12,14,16] [9,10,11,12] (fun W=>W.cell? ⟨rb,0,none⟩=some (.slice (some ⟨tb,off,none⟩) m cap)∧W.cell? ⟨rb,1,none⟩=some (.int .i64 ((i:Int) + 1))∧W.cell? ⟨tb,off + i * 4 + 1,none⟩=some (.string tx)) ⟨d0,d1,e1⟩ fun _=>?_;simp only [Zh,pD,zD,zE,zF,zG,zH,zI,zJ,zK]
   iterate 9
    first | refine Za _ ?_ | refine Zb ?_
    simp only [Act.put,zA,zB,zC]
   refine Z6 ?_;go_wp2;go_ret;refine ⟨by rw [HX.out,HTX.out]; rfl,?_,((RFr.refl _ _).drew.set 1 _).drew⟩;rw [HX.out];exact QS.drew ⟨i + 1,Zbr _ _,H2.out⟩
  ·rw [Y9 hk] at hX;have hk1 : ((hdT (L.drop i)).kind != 1) = true := by simpa using hk
   obtain ⟨k,hkk⟩:=zX ((hdT (L.drop i)).kind)
   rw [← hkk] at t0 hk1;have HX:=lh hX;clear h hX hf hk hB hBw hn hkk t1;go_enter Tryz.func36,Tryz.ntmps36
   go_wp2_with fail
   refine HO.out.mono ?_;rintro e w1 ⟨rfl,rfl⟩;go_wp2_with fail
   refine Zf [0,2,4,6,8,10,12,14] [8,9,10,11] (fun W=>W.cell? ⟨rb,0,none⟩=some (.slice (some ⟨tb,off,none⟩) n cap)∧W.cell? ⟨rb,1,none⟩=some (.int .i64 i)∧W.cell? ⟨tb,off + i * 4,none⟩=some (.int .i64 k)) ⟨c0,c1,t0⟩ fun _=>?_;simp only [Zh,pD,zD,zE,zF,zG,zH,zI,zJ,zK]
   iterate 8
    first | refine Za _ ?_ | refine Zb ?_
    simp only [Act.put,zA,zB,zC]
   refine Z6 ?_;go_wp2_with fail
   refine (Z2t HH.out.drew 3 (by decide) B HBB.out (by simpa using HBW.out)).mono ?_;rintro e w3 ⟨a,rfl,_,h3,h4⟩;have H3:=lh h3;have H4:=lh h4;clear h3 h4;go_wp2;go_ret;refine ⟨by rw [HX.out]; rfl,?_,(RFr.refl _ _).drew.trans H4.out⟩;rw [HX.out];exact H3.out
 ·have hf : σ.f.isNone = false := Bool.eq_false_iff.2 hf;rw [hf] at HO;rw [Y9 (by rw [hf]; decide)] at hX;have HO := lh HO;have HX := lh hX;clear h hX hf hB hBw;go_enter Tryz.func36, Tryz.ntmps36
  go_wp2_with fail
  refine HO.out.mono ?_;rintro e w1 ⟨rfl,rfl⟩;go_wp2;go_ret;exact ⟨by rw [HX.out]; rfl,by rw [HX.out]; exact HH.out,RFr.refl _ _⟩
end
structure KidsAt (w0:World) (B:Nat) (w:World) (kids:List ATree) (ts:List Tree):Prop where
 tree:Zr kids=ts
 at':∀ a∈kids,TreeAt w B a
 nodup:(Z0f kids).Nodup
 new:∀ x∈Z0f kids,w0.heap.size≤x∧x < w.heap.size
structure ListAt (w0:World) (B:Nat) (w:World) (v:Value) (kids:List ATree) (ts:List Tree):Prop where
 ks:KidsAt w0 B w kids ts
 row:w.ownsRow B 22 1 v kids.length (kids.map ATree.ptr)
 own:∀ g,v.ownBlock=some g→w0.heap.size≤g∧g < w.heap.size∧g ∉ Z0f kids
section
variable {w0 w w' w1 w2 wA:World} {B rb:Nat} {v:Value} {kids:List ATree} {ts:List Tree} {a:ATree} {t:Tree} {k n:Int} {tx:ByteArray} {b:Nat}
theorem KidsAt.nil:KidsAt w0 B w [] []:=⟨rfl,fun a ha=>(by cases ha),by simp [Z0f],fun x hx=>by simp [Z0f] at hx⟩
theorem KidsAt.rfr (h:KidsAt w0 B w kids ts) (hr:rb < B) (f:RFr w w' rb):KidsAt w0 B w' kids ts:=
 ⟨h.tree,fun a ha=>(h.at' a ha).rfr hr f,h.nodup,fun x hx=>⟨(h.new x hx).1,Ye (h.new x hx).2 f.size⟩⟩
theorem KidsAt.pre (h:KidsAt w1 B w kids ts) (f:w0.heap.size≤w1.heap.size):KidsAt w0 B w kids ts:=
 ⟨h.tree,h.at',h.nodup,fun x hx=>⟨Ya f (h.new x hx).1,(h.new x hx).2⟩⟩
theorem KidsAt.add (h:KidsAt w0 B w kids ts) (hA:∀ x∈Z0f kids,x < wA.heap.size) (A:Got wA B w a t) (h0:w0.heap.size≤wA.heap.size):KidsAt w0 B w (kids ++ [a]) (ts ++ [t]):=by
 refine ⟨by rw [Z2j,h.tree]; simp [Zr,A.tree],fun x hx=>?_,?_,fun x hx=>?_⟩
 ·rcases List.mem_append.1 hx with hx | hx;·exact h.at' x hx
  ·simp only [List.mem_singleton] at hx; subst hx; exact A.at'
 ·rw [Z20];simp only [Z0f,List.append_nil,List.nodup_append];exact ⟨h.nodup,A.nodup,fun x hx y hy e=>by have h1:=hA x hx; have h2:=A.new y hy; omega⟩
 ·rw [Z20] at hx;simp only [Z0f, List.append_nil, List.mem_append] at hx;rcases hx with hx | hx;·exact h.new x hx
  ·have:=A.new x hx; omega
theorem KidsAt.one (A:Got w0 B w a t):KidsAt w0 B w [a] [t]:=KidsAt.nil.add (kids:=[]) (ts:=[]) (wA:=w0) (fun x hx=>by simp [Z0f] at hx) A (Y5 _)
theorem KidsAt.two {a2:ATree} {t2:Tree} (A:Got w0 B w a t) (hA:∀ x∈a.blocks,x < wA.heap.size) (h0:w0.heap.size≤wA.heap.size) (A2:Got wA B w a2 t2):KidsAt w0 B w [a,a2] [t,t2]:=
 (KidsAt.one A).add (wA:=wA) (fun x hx=>hA x (by simpa [Z0f] using hx)) A2 h0
theorem ListAt.nil:ListAt w0 B w (.slice none 0 0) [] []:=⟨KidsAt.nil,World.ownsRow_nil _ _ _ _,fun g hg=>by simp [Value.ownBlock] at hg⟩
theorem ListAt.rfr (h:ListAt w0 B w v kids ts) (hr:rb < B) (f:RFr w w' rb):ListAt w0 B w' v kids ts:=
 ⟨h.ks.rfr hr f,Zq h.row fun g hg=>f.block g (h.own g hg).2.1 (by have:=(h.row.lt g hg).1; omega),fun g hg=>⟨(h.own g hg).1,Ye (h.own g hg).2.1 f.size,(h.own g hg).2.2⟩⟩
theorem ListAt.pre (h:ListAt w1 B w v kids ts) (f:w0.heap.size≤w1.heap.size):ListAt w0 B w v kids ts:=
 ⟨h.ks.pre f,h.row,fun g hg=>⟨Ya f (h.own g hg).1,(h.own g hg).2⟩⟩
theorem KidsAt.lit (h:KidsAt w0 B w kids ts) (hBw:B≤w.heap.size) (h0:w0.heap.size≤w.heap.size) (hl:kids.length≤1000) :
 ListAt w0 B (w.alloc (.cells (kids.map ATree.ptr).toArray 22)) (.slice (some ⟨w.heap.size,0,none⟩) kids.length kids.length) kids ts:=by
 have hal:Below w.heap.size w (w.alloc (.cells (kids.map ATree.ptr).toArray 22)):=(Y8 _ _).alloc (Y5 _) _;refine ⟨⟨h.tree,fun a ha=>(h.at' a ha).bel hal,h.nodup,fun x hx=>⟨(h.new x hx).1,Ye (h.new x hx).2 hal.size⟩⟩,Zcp hBw hl,fun g hg=>?_⟩;simp only [Value.ownBlock,Option.some.injEq] at hg;subst hg;exact ⟨h0,by simp,fun hm=>by have:=(h.new _ hm).2; omega⟩
theorem ListAt.push {g cap:Nat} (L:ListAt w0 B w v kids ts) (hLA:∀ x∈Z0f kids,x < wA.heap.size) (hvA:∀ x,v.ownBlock=some x→x < wA.heap.size) (A:Got wA B w a t) (h0:w0.heap.size≤wA.heap.size) (hAw:wA.heap.size≤w.heap.size)
 (hB1:Below w.heap.size w w1) (hg:w1.grownBy w2 v.ownBlock) (hown:w2.ownsRow B 22 1 (.slice (some ⟨g,0,none⟩) (kids.length + 1) cap) (kids.length + 1) (kids.map ATree.ptr ++ [a.ptr]))
 (hat:v.ownBlock=some g∨w.heap.size≤g) (hgl:g < w2.heap.size) (hF:RFr w0 w rb) :
 ListAt w0 B w2 (.slice (some ⟨g,0,none⟩) (kids.length + 1) cap) (kids ++ [a]) (ts ++ [t])∧(∀ x,x < w.heap.size→v.ownBlock≠some x→w2.heap[x]?=w.heap[x]?)∧w.heap.size≤w2.heap.size ∧
  RFr w0 w2 rb:=by
 have hs1:w.heap.size≤w2.heap.size:=Ya hB1.size hg.size;have far:∀ x,x < w.heap.size→v.ownBlock≠some x→w2.heap[x]?=w.heap[x]?:=fun x hx hn=>(hg.block x (Ye hx hB1.size) (fun e=>hn e.symm)).trans (hB1.block x hx);have hv:∀ x,v.ownBlock=some x→w0.heap.size≤x∧x < wA.heap.size:=fun x hx=>⟨(L.own x hx).1,hvA x hx⟩;have hgk:g ∉ Z0f kids:=fun hm=>by
  rcases hat with h | h;·exact (L.own g h).2.2 hm
  ·have:=(L.ks.new g hm).2; omega
 have hga:g ∉ a.blocks:=fun hm=>by
  have h1:=A.new g hm;rcases hat with h | h;·have:=hv g h; omega
  ·omega
 have hg0:w0.heap.size≤g:=by
  rcases hat with h | h;·exact (hv g h).1
  ·have:=hF.size; omega
 have hkeep:∀ x∈Z0f kids,w2.heap[x]?=w.heap[x]?:=fun x hx=>far x (L.ks.new x hx).2 fun e=>(L.own x e).2.2 hx;have hkeepA:∀ x∈a.blocks,w2.heap[x]?=w.heap[x]?:=fun x hx=>far x (A.new x hx).2 fun e=>by have h1:=hv x e; have h2:=A.new x hx; omega
 refine ⟨⟨⟨?_,fun x hx=>?_,?_,fun x hx=>?_⟩,?_,fun g' hg'=>?_⟩,far,hs1,⟨?_,?_,?_,?_,?_⟩⟩;·rw [Z2j,L.ks.tree]; simp [Zr,A.tree]
 ·rcases List.mem_append.1 hx with hx | hx
  ·refine (L.ks.at' x hx).keepB fun y hy=>hkeep y ?_;rw [Z1k]; exact List.mem_flatMap.2 ⟨x,hx,hy⟩
  ·simp only [List.mem_singleton] at hx; subst hx; exact A.at'.keepB hkeepA
 ·rw [Z20];simp only [Z0f,List.append_nil,List.nodup_append];exact ⟨L.ks.nodup,A.nodup,fun x hx y hy e=>by have h1:=hLA x hx; have h2:=A.new y hy; omega⟩
 ·rw [Z20] at hx;simp only [Z0f, List.append_nil, List.mem_append] at hx;rcases hx with hx | hx;·have := L.ks.new x hx; omega
  ·have:=A.new x hx; omega
 ·rw [Yq,Yu]; exact hown
 ·simp only [Value.ownBlock,Option.some.injEq] at hg';subst hg';refine ⟨hg0,hgl,fun hm=>?_⟩;rw [Z20] at hm;simp only [Z0f,List.append_nil,List.mem_append] at hm;exact hm.elim hgk hga
 ·exact (hg.os.trans hB1.os).trans hF.os
 ·exact (hg.tape.trans hB1.tape).trans hF.tape
 ·exact (hg.output.trans hB1.output).trans hF.output
 ·have:=hF.size; omega
 ·intro x hx hn;have:=hF.size;exact (far x (by omega) (fun e=>by have:=hv x e; omega)).trans (hF.block x hx hn)
theorem ListAt.node (L:ListAt w0 B w v kids ts) (hBw:B≤w.heap.size) (h0:w0.heap.size≤w.heap.size) :
 Got w0 B (w.alloc (.cells #[.int .i64 k,.string tx,.int .i64 n,v] 38)) (.mk w.heap.size v k tx n kids) (.mk k tx n ts):=by
 refine ⟨by simp [ATree.tree,L.ks.tree],TreeAt.new hBw L.row L.ks.at',?_,fun x hx=>?_⟩
 ·simp only [ATree.blocks, List.nodup_cons, List.mem_append, List.nodup_append, Option.mem_toList, not_or];refine ⟨⟨fun e => by have := (L.own _ e).2.1; omega, fun hm => by have := (L.ks.new _ hm).2; omega⟩, ?_, L.ks.nodup, fun x hx y hy e => ?_⟩;·cases v.ownBlock <;> simp
  ·subst e; exact (L.own x hx).2.2 hy
 ·simp only [ATree.blocks, List.mem_cons, List.mem_append, Option.mem_toList] at hx;rw [World.size_alloc];rcases hx with rfl | hx | hx;·omega
  ·have:=L.own x hx; omega
  ·have:=L.ks.new x hx; omega
theorem Got.kind0 {k':Int} {l:List Tree} (hr:rb < B) (hB0:B≤w0.heap.size) (N:Got w0 B w (.mk b v k tx n kids) (.mk k tx n l)) (F:RFr w0 w rb) :
 Got w0 B (w.setCell ⟨b,0,none⟩ (.int .i64 k')) (.mk b v k' tx n kids) (.mk k' tx n l)∧RFr w0 (w.setCell ⟨b,0,none⟩ (.int .i64 k')) rb∧(∀ x,x < B→(w.setCell ⟨b,0,none⟩ (.int .i64 k')).heap[x]?=w.heap[x]?):=by
 have hnd:=N.nodup;simp only [ATree.blocks,List.nodup_cons,List.mem_append,Option.mem_toList,not_or] at hnd;obtain ⟨⟨hb1,hb2⟩,_⟩:=hnd;have hb0:w0.heap.size≤b:=(N.new b (by simp [ATree.blocks])).1;have hsz:(w.setCell ⟨b,0,none⟩ (.int .i64 k')).heap.size=w.heap.size:=Yn ..;have far:∀ x,x≠b→(w.setCell ⟨b,0,none⟩ (.int .i64 k')).heap[x]?=w.heap[x]?:=fun x hx=>Yg _ _ _ _ hx
 refine ⟨⟨?_,?_,N.nodup,?_⟩,⟨F.os,F.tape,F.output,by rw [hsz]; exact F.size,fun x hx hn=>(far x (by omega)).trans (F.block x hx hn)⟩,fun x hx=>far x (by omega)⟩
 ·have:=N.tree;simp only [ATree.tree,Tree.mk.injEq,true_and] at this ⊢;exact this
 ·refine .mk (Z07 (o:=0) _ N.at'.blkOf) N.at'.le (Zq N.at'.rowOf fun g hg=>far g (fun e=>hb1 (by rw [← e]; exact hg))) fun x hx=>?_;have hT:=N.at'.kid (k:=x) hx;refine hT.keepB fun y hy=>far y fun e=>hb2 ?_;rw [Z1k,← e];exact List.mem_flatMap.2 ⟨x,hx,hy⟩
 ·intro x hx; rw [hsz]; exact N.new x hx
theorem Got.text0 {t':ByteArray} {l:List Tree} (hr:rb < B) (hB0:B≤w0.heap.size) (N:Got w0 B w (.mk b v k tx n kids) (.mk k tx n l)) (F:RFr w0 w rb) :
 Got w0 B (w.setCell ⟨b,1,none⟩ (.string t')) (.mk b v k t' n kids) (.mk k t' n l)∧RFr w0 (w.setCell ⟨b,1,none⟩ (.string t')) rb∧(∀ x,x < B→(w.setCell ⟨b,1,none⟩ (.string t')).heap[x]?=w.heap[x]?):=by
 have hnd:=N.nodup;simp only [ATree.blocks,List.nodup_cons,List.mem_append,Option.mem_toList,not_or] at hnd;obtain ⟨⟨hb1,hb2⟩,_⟩:=hnd;have hb0:w0.heap.size≤b:=(N.new b (by simp [ATree.blocks])).1;have hsz:(w.setCell ⟨b,1,none⟩ (.string t')).heap.size=w.heap.size:=Yn ..;have far:∀ x,x≠b→(w.setCell ⟨b,1,none⟩ (.string t')).heap[x]?=w.heap[x]?:=fun x hx=>Yg _ _ _ _ hx
 refine ⟨⟨?_,?_,N.nodup,?_⟩,⟨F.os,F.tape,F.output,by rw [hsz]; exact F.size,fun x hx hn=>(far x (by omega)).trans (F.block x hx hn)⟩,fun x hx=>far x (by omega)⟩
 ·have:=N.tree;simp only [ATree.tree,Tree.mk.injEq,true_and] at this ⊢;exact this
 ·refine .mk (Z07 (o:=1) _ N.at'.blkOf) N.at'.le (Zq N.at'.rowOf fun g hg=>far g (fun e=>hb1 (by rw [← e]; exact hg))) fun x hx=>?_;have hT:=N.at'.kid (k:=x) hx;refine hT.keepB fun y hy=>far y fun e=>hb2 ?_;rw [Z1k,← e];exact List.mem_flatMap.2 ⟨x,hx,hy⟩
 ·intro x hx; rw [hsz]; exact N.new x hx
theorem Got.kids0 {v':Value} {kids':List ATree} {l:List Tree} (hr:rb < B) (hB0:B≤w0.heap.size) (N:TreeAt w B (.mk b v k tx n kids)) (hb0:w0.heap.size≤b) (L:ListAt w0 B w v' kids' l) (h1:v'.ownBlock≠some b) (h2:b ∉ Z0f kids') (F:RFr w0 w rb) :
 Got w0 B (w.setCell ⟨b,3,none⟩ v') (.mk b v' k tx n kids') (.mk k tx n l)∧RFr w0 (w.setCell ⟨b,3,none⟩ v') rb∧(∀ x,x < B→(w.setCell ⟨b,3,none⟩ v').heap[x]?=w.heap[x]?):=by
 have hsz:(w.setCell ⟨b,3,none⟩ v').heap.size=w.heap.size:=Yn ..;have far:∀ x,x≠b→(w.setCell ⟨b,3,none⟩ v').heap[x]?=w.heap[x]?:=fun x hx=>Yg _ _ _ _ hx;have hbw:b < w.heap.size:=N.lt;refine ⟨⟨?_,?_,?_,?_⟩,⟨F.os,F.tape,F.output,by rw [hsz]; exact F.size,fun x hx hn=>(far x (by omega)).trans (F.block x hx hn)⟩,fun x hx=>far x (by omega)⟩;·simp [ATree.tree,L.ks.tree]
 ·refine .mk (Z07 (o:=3) _ N.blkOf) N.le (Zq L.row fun g hg=>far g (fun e=>h1 (by rw [← e]; exact hg))) fun x hx=>?_;refine (L.ks.at' x hx).keepB fun y hy=>far y fun e=>h2 ?_;rw [Z1k,← e];exact List.mem_flatMap.2 ⟨x,hx,hy⟩
 ·simp only [ATree.blocks, List.nodup_cons, List.mem_append, List.nodup_append, Option.mem_toList, not_or];refine ⟨⟨h1, h2⟩, ?_, L.ks.nodup, fun x hx y hy e => ?_⟩;·cases v'.ownBlock <;> simp
  ·subst e; exact (L.own x hx).2.2 hy
 ·intro x hx;simp only [ATree.blocks, List.mem_cons, List.mem_append, Option.mem_toList] at hx;rw [hsz];rcases hx with rfl | hx | hx;·exact ⟨hb0, hbw⟩
  ·have:=L.own x hx; omega
  ·exact L.ks.new x hx
theorem ListAt.apart (L:ListAt w1 B w v kids ts) (hb:b < w1.heap.size):v.ownBlock≠some b∧b ∉ Z0f kids:=
 ⟨fun e=>by have:=(L.own b e).1; omega,fun hm=>by have:=(L.ks.new b hm).1; omega⟩
theorem Got.list (N:Got w0 B w (.mk b v k tx n kids) t):ListAt w0 B w v kids (Zr kids)∧v.ownBlock≠some b∧b ∉ Z0f kids:=by
 have hnd:=N.nodup;simp only [ATree.blocks,List.nodup_cons,List.mem_append,List.nodup_append,Option.mem_toList,not_or] at hnd;obtain ⟨⟨hb1,hb2⟩,_,hk1,hk2⟩:=hnd;exact ⟨⟨⟨rfl,fun a ha=>N.at'.kid (k:=a) ha,hk1,fun x hx=>N.new x (by simp [ATree.blocks,hx])⟩,N.at'.rowOf,fun g hg=>⟨(N.new g (by simp [ATree.blocks,hg])).1,(N.new g (by simp [ATree.blocks,hg])).2,fun hm=>hk2 g hg g hm rfl⟩⟩,hb1,hb2⟩
theorem QS.keep {C:QC} {σ:RS} (h:QS w C σ) (hk:∀ k,k≤C.rb→w'.heap[k]?=w.heap[k]?):QS w' C σ:=by
 obtain ⟨i,e,h⟩:=h;exact ⟨i,e,h.keep hk⟩
end
def Z1s (F:FuncId) (args:Nat→Nat→Array Value) (job:RJob) (f:Nat):Prop:=
 ∀ (w:World) (C:QC) (B d:Nat) (σ:RS) (t:Tree) (σ':RS),QS w C σ→C.rb < B→B≤w.heap.size→d + f≤1000000000000→refF f job d σ=some (t,σ')→Calls Tryz.prog F (args C.rb d) w (Z27 w C B t σ')
theorem Zn {p:RR} {k:Tree→RS→RR} {t:Tree} {σ:RS} (h:Z0n p k=some (t,σ)):∃ t1 σ1,p=some (t1,σ1)∧k t1 σ1=some (t,σ):=by
 cases p with
 | none=>cases h
 | some r=>obtain ⟨t1,σ1⟩:=r; exact ⟨t1,σ1,rfl,h⟩
def qd (rb d:Nat):Array Value:=#[.pointer (some ⟨rb,0,none⟩),.int .i64 d]
theorem Z27.pre {w w1 w2:World} {C:QC} {B:Nat} {t:Tree} {σ':RS} {e:Ending} (f:RFr w w1 C.rb) (h:Z27 w1 C B t σ' e w2):Z27 w C B t σ' e w2:=by
 obtain ⟨a,h1,h2,h3,h4⟩:=h;exact ⟨a,h1,h2.pre f,h3,f.trans h4⟩
theorem Z27.bare {w w1:World} {C:QC} {B:Nat} {σ:RS} (hBw:B≤w.heap.size) (f:RFr w w1 C.rb) (h:QS w1 C σ):Z27 w C B gT σ (.returned (.pointer (some ⟨w1.heap.size,0,none⟩))) (w1.alloc (.cells #[.int .i64 0,.string ⟨#[]⟩,.int .i64 0,.slice none 0 0] 38)):=
 ⟨.mk w1.heap.size (.slice none 0 0) 0 ⟨#[]⟩ 0 [],rfl,Got.leaf hBw f,h.below ((Y8 _ _).alloc (Y5 _) _),f.trans (RFr.below ((Y8 _ _).alloc (Y5 _) _))⟩
theorem Zlr (f:Nat) (hS:Z1s 13 qd .stmt f):Z1s 39 qd .stmt2 (f + 1):=by
 intro w C B d σ t σ' hQ hr hB hd hp;rw [refF] at hp;have HO:=Z2f hQ;have HQ:=lh hQ;have HR:=lh hr;have HB:=lh hB;have HS:=lh hS;by_cases hf:σ.f.isNone=true
 ·rw [hf] at HO;rw [Yb hf] at hp;have HO := lh HO;have HP := lh hp;clear hQ hr hB hS hf hp;unfold qd;go_enter Tryz.func39, Tryz.ntmps39
  go_wp2_with fail
  refine HO.out.mono ?_;rintro e w1 ⟨rfl,rfl⟩;go_wp2_with fail
  refine (HS.out w C B (d + 1) _ _ _ HQ.out HR.out HB.out (by omega) HP.out).mono ?_;rintro e w3 ⟨a,rfl,h2,h3,h4⟩;have H2:=lh h2;have H3:=lh h3;have H4:=lh h4;clear h2 h3 h4;go_wp2;go_ret;exact ⟨a,rfl,H2.out,H3.out,H4.out⟩
 ·have hf : σ.f.isNone = false := Bool.eq_false_iff.2 hf;rw [hf] at HO;rw [Y9 (by rw [hf]; decide)] at hp;obtain ⟨rfl, rfl⟩ : gT = t ∧ σ = σ' := by simpa using hp
  have HO:=lh HO;clear hQ hr hB hS hf hp;unfold qd;go_enter Tryz.func39,Tryz.ntmps39
  go_wp2_with fail
  refine HO.out.mono ?_;rintro e w1 ⟨rfl,rfl⟩;go_wp2;go_ret;exact Z27.bare HB.out (RFr.refl _ _) HQ.out
theorem Zm2 (f:Nat) (hV:Z1s 41 qd .value f):Z1s 38 qd .head (f + 1):=by
 intro w C B d σ t σ' hQ hr hB hd hp;rw [refF] at hp;obtain ⟨x,σ1,hv,h2⟩:=Zn hp;obtain ⟨rfl,rfl⟩:x=t∧Z0y Z0v σ1=σ':=by simpa using h2
 have HM:=lh (Z0w hQ Z0u B hr hB);have HR:=lh hr;have HB:=lh hB;have HS:=lh hV;have HP:=lh hv;clear hQ hr hB hV hp h2 hv;unfold qd;go_enter Tryz.func38,Tryz.ntmps38
 go_wp2_with fail
 refine HM.out.mono ?_;rintro e w1 ⟨rfl,h3,h4⟩;have Q1:=lh h3;have F1:=lh h4;clear h3 h4 HM;go_wp2_with fail
 refine (HS.out w1 C B (d + 1) _ _ _ Q1.out HR.out (Ya HB.out F1.out.size) (by omega) HP.out).mono ?_;rintro e w2 ⟨a,rfl,h2,h3,h4⟩;have G2:=lh h2;have Q2:=lh h3;have F2:=lh (F1.out.trans h4);clear h2 h3 h4;go_wp2_with fail
 refine (Z0w Q2.out Z0v B HR.out (Ya HB.out F2.out.size)).mono ?_;rintro e w3 ⟨rfl,h3,h4⟩;have Q3:=lh h3;have F3:=lh h4;clear h3 h4;go_wp2;go_ret;exact ⟨a,rfl,(G2.out.pre F1.out).rfr HR.out F3.out,Q3.out,F2.out.trans F3.out⟩
end Go.Proofs.YtmeiggjboakmpaaGreatDoor
