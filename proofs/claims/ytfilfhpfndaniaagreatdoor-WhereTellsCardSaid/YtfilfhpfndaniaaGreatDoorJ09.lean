/- Package where: Evals. -/
import Derived.Test.YtfilfhpfndaniaaGreatDoorJ08
namespace Go.Proofs.YtfilfhpfndaniaaGreatDoor
open Go Go.RowKit
set_option maxRecDepth 100000
set_option maxHeartbeats 20000000
set_option linter.unusedVariables false
def Z39:ByteArray:=⟨#[101,118,97,108]⟩
def Z1z (a:ATree):Bool:=a.kind == 35 && (match a.kids with | k :: _=>k.kind == 23 && Zt k.text Z39 | []=>false)
def Z6v (s:Bool) (a:ATree):Bool×Bool:=(!Z1a a,s || Z1z a)
structure EInv (w0:World) (c:Nat) (s:Bool) (w:World):Prop where
 cell:w.heap[c]?=some (.cells #[.bool s] 4 (0,0))
 bel:Below w0.heap.size w0 w
theorem EInv.set {w0 w:World} {c:Nat} {s:Bool} (h:EInv w0 c s w) (hc:w0.heap.size≤c) (r:Bool):EInv w0 c r (w.setCell ⟨c,0,none⟩ (.bool r)):=
 ⟨Zm (o:=0) (.bool r) h.cell,h.bel.setCell (p:=⟨c,0,none⟩) hc _⟩
theorem Zg7 (w0:World) (c B:Nat) (hc:w0.heap.size≤c) (x:ATree) (hx:TreeAt w0 B x) (hkid:x.kind=35→x.kids≠[]) (s:Bool) (w:World) (hI:EInv w0 c s w) :
 Calls Tryz.prog 26 #[x.ptr,.pointer (some ⟨c,0,none⟩)] w fun e w'=>e=.returned (.bool (Z6v s x).1)∧EInv w0 c (Z6v s x).2 w':=by
 have hxw:TreeAt w B x:=hx.keep fun k _ hk=>hI.bel.block k hk;have c0:=hxw.c0;have cc:w.cell? ⟨c,0,none⟩=some (.bool s):=by simp [World.cell?,hI.cell]
 have cz:w.frozen? ⟨c,0,none⟩=false:=by simp [World.frozen?,hI.cell]
 have HS:Hid (∀ r,EInv w0 c r (w.setCell ⟨c,0,none⟩ (.bool r))):=lh fun r=>hI.set hc r;have hne:x.b≠c:=by have:=hx.lt; omega
 have hlt:x.b < w.heap.size:=hxw.lt;unfold Z6v Z1a Z1z ATree.ptr;by_cases h35:x.kind=35
 ·obtain ⟨k,ks,hks⟩:∃ k ks,x.kids=k :: ks:=by
   cases h:x.kids with
   | nil=>exact absurd h (hkid h35)
   | cons k ks=>exact ⟨k,ks,rfl⟩
  obtain ⟨p,cp,hv,hge,hmx⟩:=hxw.vOf;have c3:=hxw.c3;rw [hv] at c3;have hpos:0 < x.kids.length:=by rw [hks]; simp
  have hrow:=hxw.rowOf;obtain ⟨g,hp⟩:∃ g,p=some ⟨g,0,none⟩:=by
   rcases Z7 hrow with ⟨_,h2⟩ | ⟨g,cap,h1,_⟩;·omega
   ·rw [hv] at h1; simp only [Value.slice.injEq] at h1; exact ⟨g,h1.1⟩
  subst hp;have ck:=Ze hrow (g:=g) (by rw [hv]; rfl) (i:=0) (x:=k.ptr) (by rw [hks]; rfl);have hk:=hxw.kid (k:=k) (by rw [hks]; simp);have k0:=hk.c0;have k1:=hk.c1;unfold ATree.ptr at ck;rw [hks];rw [h35] at c0;obtain ⟨n,hn⟩:=zX x.kids.length
  rw [← hn] at c3 hpos hge;unfold maxLen at hmx;simp only [h35];obtain ⟨kk,hkk⟩:=zX k.kind
  obtain ⟨kt,hkt⟩:=zX k.text
  rw [← hkk] at k0 ⊢;rw [← hkt] at k1 ⊢;clear hxw hx hkid hI hks hrow hv hk hkk hkt hn h35 hc;cases s
  ·by_cases h23 : kk = 23
   ·subst h23;by_cases he : kt = Z39
    ·subst he;rw [show Zt Z39 Z39 = true by simp [Zt]];unfold Z39 at k1;go_enter Tryz.func26, Tryz.ntmps26
     go_wp2;go_ret;exact ⟨rfl,HS.out _⟩
    ·have hne1 : Zt kt Z39 = false := by simp [Zt, he]
     rw [hne1];have hne2:(kt.toList == Z39.toList)=false:=by rw [Z26]; exact hne1
     have hne3:(kt.toList == [101,118,97,108])=false:=by
      have:Z39.toList=[101,118,97,108]:=by kernel_rfl
      rwa [this] at hne2
     clear hne1 hne2 he;go_enter Tryz.func26,Tryz.ntmps26
     go_wp2;go_ret;exact ⟨rfl,HS.out _⟩
   ·have n23 : (kk == 23) = false := by simpa using h23
    rw [n23];clear h23;go_enter Tryz.func26,Tryz.ntmps26
    go_wp2;go_ret;exact ⟨rfl,HS.out _⟩
  ·go_enter Tryz.func26, Tryz.ntmps26
   go_wp2;go_ret;exact ⟨rfl,HS.out _⟩
 ·have n35 : (x.kind == 35) = false := by simpa using h35
  rw [n35];simp only [Bool.false_and,Bool.or_false];obtain ⟨kd,hkd⟩:=zX x.kind
  rw [← hkd] at c0 n35 ⊢;clear hxw hx hkid hI hkd h35 hc;cases s <;> rcases (by omega:kd=5∨kd=37∨(kd≠5∧kd≠37)) with h3 | h3 | ⟨h3,h4⟩
  iterate 2
   ·subst h3;go_enter Tryz.func26, Tryz.ntmps26
    go_wp2;go_ret;exact ⟨rfl,HS.out _⟩
   ·subst h3;go_enter Tryz.func26, Tryz.ntmps26
    go_wp2;go_ret;exact ⟨rfl,HS.out _⟩
   ·have n3 : (kd == 5) = false := by simpa using h3
    have n4:(kd == 37)=false:=by simpa using h4
    have m3:(kd != 5)=true:=by simpa using h3
    have m4:(kd != 37)=true:=by simpa using h4
    clear h3 h4;rw [n3,n4];go_enter Tryz.func26,Tryz.ntmps26
    go_wp2;go_ret;exact ⟨rfl,HS.out _⟩
def Z5w (a:ATree):Bool:=Z2g Z6v a false
def Zbi (a:ATree):Prop:=∀ x∈a.subs,x.kind=35→x.kids≠[]
theorem Zcy (w:World) (B:Nat) (a:ATree) (hT:TreeAt w B a) (hk:Zbi a) :
 Calls Tryz.prog 7 #[a.ptr] w fun e w'=>e=.returned (.bool (Z5w a))∧Below w.heap.size w w':=by
 have hmf:∀ (fn:Fn) (first cap:Array Value) (w:World),(Instr.makeFunc fn first cap).run Tryz.prog w=.ok (.func fn first cap) w:=fun _ _ _ _=>rfl
 have HW:=lh (fun (w1:World) (h:EInv w w.heap.size false w1)=>Zl5 ⟨w.heap.size,0,none⟩ (EInv w w.heap.size) Z6v B a.many a (Y5 _) (fun s w1 h=>hT.keep fun k _ hk=>h.bel.block k hk) false
  (fun x s hx w1 h=>Zg7 w w.heap.size B (Y5 _) x (Z5v hT hx.sub) (hk x hx.sub) s w1 h) w1 h)
 have hstart:EInv w w.heap.size false (w.alloc (.cells #[.bool false] 4)):=
  ⟨(Go.MapKept.heap_alloc w _).1,(Y8 _ _).alloc (Y5 _) _⟩
 have HS:=lh hstart;clear hstart hT hk;unfold ATree.ptr at HW ⊢;unfold Z5w;go_enter Tryz.func7,Tryz.ntmps7
 go_wp2_with fail
 refine (HW.out _ HS.out).mono ?_;rintro e w1 ⟨rfl,hI⟩;have cc:w1.cell? ⟨w.heap.size,0,none⟩=some (.bool (Z2g Z6v a false)):=by simp [World.cell?,hI.cell]
 have HI:=lh hI;clear hI HS HW;go_wp2;go_ret;exact ⟨rfl,HI.out.bel⟩
structure Sc where
 at':Int
 names:List ByteArray
 op:Bool
def Zg5:Value→Nat
 | .pointer (some a)=>a.block + 1
 | _=>0
def Z0w (w:World) (B:Nat):List Sc→Value→Prop
 | [],v=>v=.pointer none
 | s :: l,v=>∃ b nv ov,v=.pointer (some ⟨b,0,none⟩)∧w.heap[b]?=some (.cells #[ov,.int .i64 s.at',nv,.bool s.op] 54 (0,0))∧Zr w B nv s.names∧Zg5 ov < b + 1∧Z0w w B l ov
def Z5i (name:ByteArray):List Sc→Bool→Int×Bool
 | [],sure=>(-1,sure)
 | s :: l,sure=>if Lib.containsS s.names name then (s.at',sure) else Z5i name l (sure && !s.op)
theorem Z0w.keep {w w':World} {B:Nat}:∀ {l:List Sc} {v:Value},Z0w w B l v→(∀ (k:Nat) (c:Array Value) (t:TypeId),w.heap[k]?=some (Obj.cells c t (0,0))→t=54→w'.heap[k]?=w.heap[k]?) →
 (∀ v l,Zr w B v l→Zr w' B v l)→Z0w w' B l v
 | [],v,h,_,_=>h
 | s :: l,v,⟨b,nv,ov,h1,h2,h3,h4,h5⟩,hk,ht=>⟨b,nv,ov,h1,(hk b _ _ h2 rfl).trans h2,ht _ _ h3,h4,h5.keep hk ht⟩
theorem Z0w.bel {w w':World} {B:Nat} {l:List Sc} {v:Value} (h:Z0w w B l v) (g:Below w.heap.size w w'):Z0w w' B l v:=
 h.keep (fun k c t h _=>g.block k (Y6.1 h).1) fun v l h=>h.bel g
theorem Z0w.ptr {w:World} {B:Nat} {l:List Sc} {v:Value} (h:Z0w w B l v):∃ p,v=.pointer p:=by
 cases l with
 | nil=>exact ⟨_,h⟩
 | cons s l=>obtain ⟨b,nv,ov,h1,_⟩:=h; exact ⟨_,h1⟩
theorem set3 {w wr:World} {B0:Nat} (hB:Below B0 w wr) {b:Nat} (hb:B0≤b) (x y z:Value):Below B0 w (((wr.setCell ⟨b,0,none⟩ x).setCell ⟨b,1,none⟩ y).setCell ⟨b,2,none⟩ z):=
 ((hB.setCell (p:=⟨b,0,none⟩) hb x).setCell (p:=⟨b,1,none⟩) hb y).setCell (p:=⟨b,2,none⟩) hb z
def useV (at':Int) (r:Int×Bool):Value:=.agg #[.int .i64 at',.int .i64 r.1,.bool r.2]
theorem Zix (w:World) (B:Nat) (at':Int) (name:ByteArray) (l:List Sc) (v:Value) (hS:Z0w w B l v) :
 Calls Tryz.prog 71 #[.int .i64 at',.string name,v] w fun e w'=>e=.returned (useV at' (Z5i name l true))∧Below w.heap.size w w':=by
 obtain ⟨R,hR⟩:=zX (Z5i name l true)
 rw [← hR];obtain ⟨p,rfl⟩:=hS.ptr;have HS:=lh hS;have HR:=lh hR;clear hS hR;unfold useV;go_enter Tryz.func71,Tryz.ntmps71
 go_wp2_with fail
 go_loopw [2] (fun x wr=>∃ (l':List Sc) (sure:Bool),Z0w w B l' x∧Z5i name l' sure=R∧Below w.heap.size w wr∧wr.heap.size=w.heap.size + 2 ∧
  wr.heap[w.heap.size]?=some (.cells #[.int .i64 0,.int .i64 0,.bool false] 31 (0,0))∧wr.heap[w.heap.size + 1]?=some (.cells #[.int .i64 at',.int .i64 (-1),.bool sure] 31 (0,0))) (fun x _=>Zg5 x)
 case atStart=>
  exact ⟨l,true,HS.out,HR.out.symm,((Y8 _ _).alloc (Y5 _) _).alloc (by simp) _,by simp,((Go.MapKept.heap_alloc (w.alloc (.cells #[.int .i64 0,.int .i64 0,.bool false] 31)) (.cells #[.int .i64 at',.int .i64 (-1),.bool true] 31)).2 _ (by simp)).trans (Go.MapKept.heap_alloc w _).1,by
   have:=(Go.MapKept.heap_alloc (w.alloc (.cells #[.int .i64 0,.int .i64 0,.bool false] 31)) (.cells #[.int .i64 at',.int .i64 (-1),.bool true] 31)).1;simpa using this⟩
 case round=>
  obtain ⟨l',sure,hS,hR,hB,hsz,hb0,hb1⟩:=hrel;have HB:=lh hB;have d0:wr.cell? ⟨w.heap.size + 1,0,none⟩=some (.int .i64 at'):=by simp [World.cell?,hb1]
  have d1:wr.cell? ⟨w.heap.size + 1,1,none⟩=some (.int .i64 (-1)):=by simp [World.cell?,hb1]
  have d2:wr.cell? ⟨w.heap.size + 1,2,none⟩=some (.bool sure):=by simp [World.cell?,hb1]
  have e0:wr.cell? ⟨w.heap.size,0,none⟩=some (.int .i64 0):=by simp [World.cell?,hb0]
  have e1:wr.cell? ⟨w.heap.size,1,none⟩=some (.int .i64 0):=by simp [World.cell?,hb0]
  have e2:wr.cell? ⟨w.heap.size,2,none⟩=some (.bool false):=by simp [World.cell?,hb0]
  have ez:∀ i,wr.frozen? ⟨w.heap.size,i,none⟩=false:=fun i=>by simp [World.frozen?,hb0]
  have dz:∀ i,wr.frozen? ⟨w.heap.size + 1,i,none⟩=false:=fun i=>by simp [World.frozen?,hb1]
  have HD:=lh hb0;have HE:=lh hb1;cases l' with
  | nil =>
    have hx:_=Value.pointer none:=hS;subst hx;have hR2:R=(-1,sure):=hR.symm;subst hR2;clear hS hR hB;go_wp2;refine bodyPost_ret (v:=useV at' (-1,sure)) ?_ rfl ⟨rfl,set3 HB.out (Y5 _) _ _ _⟩;simp [results,Tryz.results71,go_sem,useV,e0,e1,e2]
  | cons s l' =>
    obtain ⟨b,nv,ov,rfl,hb,ht,hr,hS'⟩:=hS;have hbw:=(Y6.1 hb).1;have hbr:wr.heap[b]?=_:=(HB.out.block b hbw).trans hb;have f0:wr.cell? ⟨b,0,none⟩=some ov:=by simp [World.cell?,hbr]
    have f1:wr.cell? ⟨b,1,none⟩=some (.int .i64 s.at'):=by simp [World.cell?,hbr]
    have f2:wr.cell? ⟨b,2,none⟩=some nv:=by simp [World.cell?,hbr]
    have f3:wr.cell? ⟨b,3,none⟩=some (.bool s.op):=by simp [World.cell?,hbr]
    have hne0:b≠w.heap.size:=by omega
    have hne1:b≠w.heap.size + 1:=by omega
    obtain ⟨q,rfl⟩:=hS'.ptr;have HC:=lh (Z6s (ht.bel HB.out) name);have HS2:=lh hS';have HRK:=lh hr;simp only [Z5i] at hR;obtain ⟨con,hcon⟩:=zX (Lib.containsS s.names name)
    rw [← hcon] at hR HC;clear hS' hr ht hb hbr hcon hB hb0 hb1;cases con
    ·simp only [Bool.false_eq_true, if_false] at hR;have HR2 := lh hR;obtain ⟨so, hso⟩ := zX s.op
     rw [← hso] at f3 HR2;clear hR hso;go_wp2_with fail
     refine HC.out.mono ?_;rintro e w3 ⟨rfl,rfl⟩;clear HC;cases sure <;> cases so
     all_goals
      go_wp2;go_roundw
      case rel=>exact ⟨l',_,HS2.out,HR2.out,HB.out.setCell (p:=⟨w.heap.size + 1,2,none⟩) (by simp) _,by rw [Yn]; exact hsz,(Yg _ _ _ _ (by simp)).trans HD.out,Zm (o:=2) _ HE.out⟩
      case measure=>have:=HRK.out; simp only [Zg5] at this ⊢; exact this
    ·simp only [if_true] at hR;subst hR;go_wp2_with fail
     refine HC.out.mono ?_;rintro e w3 ⟨rfl,rfl⟩;clear HC;go_wp2;refine bodyPost_ret (v:=useV at' (s.at',sure)) ?_ rfl ⟨rfl,set3 (HB.out.setCell (p:=⟨w.heap.size + 1,1,none⟩) (by simp) _) (Y5 _) _ _ _⟩;simp [results,Tryz.results71,go_sem,useV,e0,e1,e2]
end Go.Proofs.YtfilfhpfndaniaaGreatDoor
namespace Go.Proofs.YtfilfhpfndaniaaGreatDoor
open Go
section
variable {P:Program} {ops:Array Oper} {md:Region.Mode} {Q:Exit→Act→World→Prop} {S:World→Prop} {t:Nat}
theorem Z84 {m:Array Bool} {i j:Nat} (h:i < m.size):(m.setIfInBounds i true).getD j false=if i=j then true else m.getD j false:=by
 by_cases e:i=j;·subst e; rw [Yb rfl]; simp [h]
 ·rw [Y9 e,getD_set_ne false e]
def Z6e (P:Program) (md:Region.Mode) (ops:Array Oper) (Q:Exit→Act→World→Prop) (S:World→Prop) (t:Nat):Nat→Array Bool→Act→World→Prop
 | 0,listed,a,w=>Region.ready md ops listed=[]∧Q .normal a w
 | fuel + 1, listed, a, w =>
   (Region.ready md ops listed=[]→Q .normal a w) ∧
   ∀ i∈Region.ready md ops listed,wpOp P ops Q i (fun a' w'=>((listed.setIfInBounds i true).getD t false=false→S w')∧Z6e P md ops Q S t fuel (listed.setIfInBounds i true) a' w') a w
theorem Z9k:∀ (fuel:Nat) (listed:Array Bool) (a:Act) (w:World),Z6e P md ops Q S t fuel listed a w→wpAny P md ops Q fuel listed a w
 | 0,_,_,_,h=>h
 | fuel + 1,_,_,_,h=>⟨h.1,fun i hi=>wpOp_mono (fun a' w' h'=>Z9k fuel _ a' w' h'.2) (h.2 i hi)⟩
theorem Z7h {i:Nat} {oi:Oper} {v:Value} {S':World→Prop} (hi:ops[i]?=some oi) (hsel:∀ (j:Nat) (o:Oper) cs b,ops[j]?=some o→o.op≠.select cs b)
 (hQ:∀ c a w,Q (.panic c) (a.put oi.dst v) w→Q (.panic c) a w) (hit:i≠t) :
 ∀ (fuel : Nat) (listed : Array Bool) (a : Act) (w : World), listed.size = ops.size →
   (∀ j oj,ops[j]?=some oj→j≠i→listed.getD j true=false→(∀ e∈oj.after,Region.binds md e=true→e.on≠i)→oi.apart ops oj=true) →
   i∈Region.ready md ops listed→YieldsIf P ops S' oi v a→((waits md ops t i=true∧listed.getD t false=false∧S'=S)∨S'=fun _=>True)→(listed.getD t false=false→S w) →
   Z6e P md ops Q S t fuel (listed.setIfInBounds i true) (a.put oi.dst v) w→Z6e P md ops Q S t (fuel + 1) listed a w:=by
 have key:∀ (listed:Array Bool) (w:World),((waits md ops t i=true∧listed.getD t false=false∧S'=S)∨S'=fun _=>True)→(listed.getD t false=false→S w)→S' w:=by
  intro listed w h1 h2;rcases h1 with ⟨_,h,rfl⟩ | rfl;·exact h2 h
  ·trivial
 have same:∀ (listed:Array Bool),(listed.setIfInBounds i true).getD t false=listed.getD t false:=fun l=>getD_set_ne false hit;intro fuel;induction fuel with
 | zero =>
   intro listed a w _ _ hr hy h1 hS H;refine ⟨fun h=>(by rw [h] at hr; cases hr),fun j hj=>?_⟩;by_cases hji:j=i;·subst hji; exact hy.wpOp hi (key _ _ h1 hS) ⟨fun h=>hS ((same listed).symm.trans h),H⟩
   ·have:=ready_mono hj hji;rw [H.1] at this;cases this
 | succ fuel ih =>
   intro listed a w hsz hfree hr hy h1 hS H;refine ⟨fun h=>(by rw [h] at hr; cases hr),fun j hj=>?_⟩;by_cases hji:j=i;·subst hji; exact hy.wpOp hi (key _ _ h1 hS) ⟨fun h=>hS ((same listed).symm.trans h),H⟩
   ·have h2:=H.2 j (ready_mono hj hji);obtain ⟨hjun,oj,hoj,hall⟩:=mem_ready.1 hj;have hun:listed.getD i true=false:=(mem_ready.1 hr).1;have hunf:listed.getD i false=false:=by
     rcases Nat.lt_or_ge i listed.size with h' | h';·simp [h'] at hun ⊢; exact hun
     ·simp [h']
    have hnot:∀ e∈oj.after,Region.binds md e=true→e.on≠i:=fun e he hb heq=>by
     have h1:=hall e he hb;rw [heq,hunf] at h1;cases h1
    have hjt:waits md ops t i=true→j≠t:=fun hw e=>by
     subst e;have:=Z87 hw hj;rw [hunf] at this;cases this
    have h3:=wpOp_putIf hoj (hfree j oj hoj hji hjun hnot) (fun cs b=>hsel i oi cs b hi) (fun cs b=>hsel j oj cs b hoj) hQ hy h2
    have hfree':∀ k ok,ops[k]?=some ok→k≠i→(listed.setIfInBounds j true).getD k true=false →
     (∀ e∈ok.after,Region.binds md e=true→e.on≠i)→oi.apart ops ok=true:=fun k ok hk hki hun hno=>by
     refine hfree k ok hk hki ?_ hno;by_cases hjk:j=k;·subst hjk; exact hjun
     ·rw [getD_set_ne true hjk] at hun; exact hun
    refine wpOp_mono (fun a' w' h4=>?_) h3;have hb:(listed.setIfInBounds j true).getD t false=false→S w':=fun h=>h4.2.1 (by rw [Z7m,getD_set_ne false hit]; exact h);refine ⟨hb,ih (listed.setIfInBounds j true) a' w' (by simpa using hsz) hfree' (ready_mono hr (Ne.symm hji)) h4.1 ?_ hb ?_⟩
    ·rcases h1 with ⟨q1, q2, q3⟩ | q;·exact .inl ⟨q1, by rw [getD_set_ne false (hjt q1)]; exact q2, q3⟩
     ·exact .inr q
    ·rw [Array.setIfInBounds_comm _ _ hji];exact h4.2.2
inductive Pl3
 | nil
 | take (i:Nat) (r:Pl3)
 | go (i:Nat) (r:Pl3)
 | two (i:Nat) (ri:Pl3) (j:Nat) (rj:Pl3)
 | three (i:Nat) (ri:Pl3) (j:Nat) (rj:Pl3) (k:Nat) (rk:Pl3)
def Pl3.len:Pl3→Nat
 | .nil=>0
 | .take _ r=>r.len + 1
 | .go _ r=>r.len + 1
 | .two _ r _ _=>r.len + 1
 | .three _ r _ _ _ _=>r.len + 1
def Z3v (P:Program) (md:Region.Mode) (ops:Array Oper) (Q:Exit→Act→World→Prop) (S:World→Prop) (t:Nat):Pl3→Bool→Act→World→Prop
 | .nil,_,a,w=>Q .normal a w
 | .take i r,b,a,w=>∃ o v,ops[i]?=some o∧((b=false∧waits md ops t i=true∧YieldsIf P ops S o v a)∨YieldsIf P ops (fun _=>True) o v a)∧Z3v P md ops Q S t r b (a.put o.dst v) w
 | .go i r,b,a,w=>wpOp P ops Q i (fun a' w'=>((b || i == t)=false→S w')∧Z3v P md ops Q S t r (b || i == t) a' w') a w
 | .two i ri j rj,b,a,w=>wpOp P ops Q i (fun a' w'=>((b || i == t)=false→S w')∧Z3v P md ops Q S t ri (b || i == t) a' w') a w∧wpOp P ops Q j (fun a' w'=>((b || j == t)=false→S w')∧Z3v P md ops Q S t rj (b || j == t) a' w') a w
 | .three i ri j rj k rk,b,a,w=>wpOp P ops Q i (fun a' w'=>((b || i == t)=false→S w')∧Z3v P md ops Q S t ri (b || i == t) a' w') a w∧wpOp P ops Q j (fun a' w'=>((b || j == t)=false→S w')∧Z3v P md ops Q S t rj (b || j == t) a' w') a w∧wpOp P ops Q k (fun a' w'=>((b || k == t)=false→S w')∧Z3v P md ops Q S t rk (b || k == t) a' w') a w
def plB3 (md:Region.Mode) (ops:Array Oper) (t:Nat):Pl3→Array Bool→Bool
 | .nil,listed=>(Region.ready md ops listed).isEmpty
 | .take i r,listed=>(Region.ready md ops listed).contains i && Region.free md ops listed i && decide (i≠t) && plB3 md ops t r (listed.setIfInBounds i true)
 | .go i r,listed=>decide (Region.ready md ops listed=[i]) && plB3 md ops t r (listed.setIfInBounds i true)
 | .two i ri j rj,listed=>decide (Region.ready md ops listed=[i,j]) && decide (ri.len=rj.len) && plB3 md ops t ri (listed.setIfInBounds i true) && plB3 md ops t rj (listed.setIfInBounds j true)
 | .three i ri j rj k rk,listed=>decide (Region.ready md ops listed=[i,j,k]) && decide (ri.len=rj.len) && decide (ri.len=rk.len) && plB3 md ops t ri (listed.setIfInBounds i true) && plB3 md ops t rj (listed.setIfInBounds j true) && plB3 md ops t rk (listed.setIfInBounds k true)
theorem Z2z (hsel:Region.noSelect ops=true) (hQ:∀ c a d v w,Q (.panic c) (Act.put a d v) w→Q (.panic c) a w) :
 ∀ (l:Pl3) (listed:Array Bool) (b:Bool) (a:Act) (w:World),listed.size=ops.size→listed.getD t false=b→plB3 md ops t l listed=true→(b=false→S w)→Z3v P md ops Q S t l b a w→Z6e P md ops Q S t l.len listed a w
 | .nil,listed,b,a,w,_,_,hB,_,h=>⟨by simpa [plB3] using hB,h⟩
 | .take i r, listed, b, a, w, hsz, hb, hB, hS, h => by
   simp only [plB3,Bool.and_eq_true,decide_eq_true_eq] at hB;obtain ⟨⟨⟨hr,hf⟩,hit⟩,hB'⟩:=hB;obtain ⟨o,v,ho,hy,h'⟩:=h;have hrec:=Z2z hsel hQ r (listed.setIfInBounds i true) b _ w (by simpa using hsz) ((getD_set_ne false hit).trans hb) hB' hS h';rcases hy with ⟨h0,hw,hy⟩ | hy;·exact Z7h ho (Region.noSelect_spec hsel) (fun c a w=>hQ c a _ _ w) hit r.len listed a w hsz (Region.free_spec ho hf) (by simpa using hr) hy (.inl ⟨hw,hb.trans h0,rfl⟩) (fun h=>hS (hb.symm.trans h)) hrec
   ·exact Z7h ho (Region.noSelect_spec hsel) (fun c a w=>hQ c a _ _ w) hit r.len listed a w hsz (Region.free_spec ho hf) (by simpa using hr) hy (.inr rfl) (fun h=>hS (hb.symm.trans h)) hrec
 | .go i r, listed, b, a, w, hsz, hb, hB, hS, h => by
   simp only [plB3,Bool.and_eq_true,decide_eq_true_eq] at hB;obtain ⟨hr,hB'⟩:=hB;obtain ⟨_,o,ho,_⟩:=mem_ready.1 (show i∈Region.ready md ops listed by rw [hr]; simp);have hil:i < listed.size:=by rw [hsz]; exact (Y6.1 ho).1
   have hbt:(listed.setIfInBounds i true).getD t false=(b || i == t):=by
    rw [Z84 hil,hb];by_cases e:i=t;·subst e; simp
    ·simp [e]
   refine ⟨fun h0=>(by rw [h0] at hr; cases hr),fun k hk=>?_⟩;rw [hr] at hk;have hki:k=i:=by simpa using hk
   subst hki;exact wpOp_mono (fun a' w' h'=>⟨fun hh=>h'.1 (hbt.symm.trans hh),Z2z hsel hQ r _ _ a' w' (by simpa using hsz) hbt hB' h'.1 h'.2⟩) h
 | .two i ri j rj, listed, b, a, w, hsz, hb, hB, hS, h => by
   simp only [plB3,Bool.and_eq_true,decide_eq_true_eq] at hB;obtain ⟨⟨⟨hr,hlen⟩,hB1⟩,hB2⟩:=hB;obtain ⟨_,o1,ho1,_⟩:=mem_ready.1 (show i∈Region.ready md ops listed by rw [hr]; simp);obtain ⟨_,o2,ho2,_⟩:=mem_ready.1 (show j∈Region.ready md ops listed by rw [hr]; simp);have hil:i < listed.size:=by rw [hsz]; exact (Y6.1 ho1).1
   have hjl:j < listed.size:=by rw [hsz]; exact (Y6.1 ho2).1
   have hbt:∀ k,k < listed.size→(listed.setIfInBounds k true).getD t false=(b || k == t):=fun k hk=>by
    rw [Z84 hk,hb];by_cases e:k=t;·subst e; simp
    ·simp [e]
   refine ⟨fun h0=>(by rw [h0] at hr; cases hr),fun k hk=>?_⟩;rw [hr] at hk;have hk':k=i∨k=j:=by simpa using hk
   rcases hk' with rfl | rfl;·exact wpOp_mono (fun a' w' h'=>⟨fun hh=>h'.1 ((hbt _ hil).symm.trans hh),Z2z hsel hQ ri _ _ a' w' (by simpa using hsz) (hbt _ hil) hB1 h'.1 h'.2⟩) h.1
   ·show wpOp P ops Q k (fun a' w'=>_∧Z6e P md ops Q S t ri.len _ a' w') a w;rw [hlen];exact wpOp_mono (fun a' w' h'=>⟨fun hh=>h'.1 ((hbt _ hjl).symm.trans hh),Z2z hsel hQ rj _ _ a' w' (by simpa using hsz) (hbt _ hjl) hB2 h'.1 h'.2⟩) h.2
 | .three i ri j rj k3 rk, listed, b, a, w, hsz, hb, hB, hS, h => by
   simp only [plB3,Bool.and_eq_true,decide_eq_true_eq] at hB;obtain ⟨⟨⟨⟨⟨hr,hlen⟩,hlen2⟩,hB1⟩,hB2⟩,hB3⟩:=hB;have hlt:∀ x,x∈Region.ready md ops listed→x < listed.size:=fun x hx=>by
    obtain ⟨_,o1,ho1,_⟩:=mem_ready.1 hx;rw [hsz]; exact (Y6.1 ho1).1
   have hil:i < listed.size:=hlt i (by rw [hr]; simp);have hjl:j < listed.size:=hlt j (by rw [hr]; simp);have hkl:k3 < listed.size:=hlt k3 (by rw [hr]; simp);have hbt:∀ k,k < listed.size→(listed.setIfInBounds k true).getD t false=(b || k == t):=fun k hk=>by
    rw [Z84 hk,hb];by_cases e:k=t;·subst e; simp
    ·simp [e]
   refine ⟨fun h0=>(by rw [h0] at hr; cases hr),fun k hk=>?_⟩;rw [hr] at hk;have hk':k=i∨k=j∨k=k3:=by simpa using hk
   rcases hk' with rfl | rfl | rfl;·exact wpOp_mono (fun a' w' h'=>⟨fun hh=>h'.1 ((hbt _ hil).symm.trans hh),Z2z hsel hQ ri _ _ a' w' (by simpa using hsz) (hbt _ hil) hB1 h'.1 h'.2⟩) h.1
   ·show wpOp P ops Q k (fun a' w'=>_∧Z6e P md ops Q S t ri.len _ a' w') a w;rw [hlen];exact wpOp_mono (fun a' w' h'=>⟨fun hh=>h'.1 ((hbt _ hjl).symm.trans hh),Z2z hsel hQ rj _ _ a' w' (by simpa using hsz) (hbt _ hjl) hB2 h'.1 h'.2⟩) h.2.1
   ·show wpOp P ops Q k (fun a' w'=>_∧Z6e P md ops Q S t ri.len _ a' w') a w;rw [hlen2];exact wpOp_mono (fun a' w' h'=>⟨fun hh=>h'.1 ((hbt _ hkl).symm.trans hh),Z2z hsel hQ rk _ _ a' w' (by simpa using hsz) (hbt _ hkl) hB3 h'.1 h'.2⟩) h.2.2
def Zk4 (md:Region.Mode) (ops:Array Oper) (t:Nat) (pl:Pl3):Bool:=
 Region.noSelect ops && plB3 md ops t pl (Array.replicate ops.size false) && decide (pl.len=ops.size)
theorem Z1b {id:Nat} {l:List Oper} {a:Act} {w:World} (pl:Pl3) (t:Nat) (S:World→Prop) (hm:P.follows .mixedOrders=true)
 (hB:Zk4 .any l.toArray t pl=true) (hQ:∀ c a d v w,Q (.panic c) (Act.put a d v) w→Q (.panic c) a w) (hS:S w.drew)
 (h:Z3v P .any l.toArray Q S t pl false a w.drew):(Code.region id l.toArray true).wp P Q a w:=by
 simp only [Zk4,Bool.and_eq_true,decide_eq_true_eq] at hB;obtain ⟨⟨hsel,hplan⟩,hlen⟩:=hB;refine wp_region_any hm ?_;have key:=Z9k _ _ _ _ (Z2z (P:=P) (md:=.any) (Q:=Q) (S:=S) (t:=t) hsel hQ pl (Array.replicate l.toArray.size false) false a w.drew (by simp) (Z6b _ _) hplan (fun _=>hS) h);rw [hlen] at key;exact key
theorem Z0a {o:Oper} {i:Nat} {r:Pl3} {a:Act} {w:World} (v:Value) (ho:ops[i]?=some o) (hwt:waits md ops t i=true)
 (hw:Region.wanted o (yielded ops a.tmps)=true) (hy:∀ w',S w'→(execOp a.eval o).run P w'=.ok (.value v) w') (h:Z3v P md ops Q S t r false (a.put o.dst v) w):Z3v P md ops Q S t (.take i r) false a w:=
 ⟨o,v,ho,.inl ⟨rfl,hwt,.inl ⟨hw,hy⟩⟩,h⟩
theorem Z05 {o:Oper} {i:Nat} {r:Pl3} {b:Bool} {a:Act} {w:World} (v:Value) (ho:ops[i]?=some o)
 (hw:Region.wanted o (yielded ops a.tmps)=true) (hy:∀ w',(execOp a.eval o).run P w'=.ok (.value v) w') (h:Z3v P md ops Q S t r b (a.put o.dst v) w):Z3v P md ops Q S t (.take i r) b a w:=
 ⟨o,v,ho,.inr (.inl ⟨hw,fun w' _=>hy w'⟩),h⟩
theorem Zy {o:Oper} {i:Nat} {r:Pl3} {a:Act} {w:World} (ho:ops[i]?=some o) (hit:(i == t)=false) (hw:Region.wanted o (yielded ops a.tmps)=true)
 (h:∀ K:Act→World→Prop,(∀ a' w',S w'→Z3v P md ops Q S t r false a' w'→K a' w')→o.wp P a w K Q):Z3v P md ops Q S t (.go i r) false a w:=by
 unfold Z3v wpOp;simp only [ho];rw [Yb hw];exact .inl (h _ fun a' w' h1 h2=>⟨fun _=>h1,by simpa [hit] using h2⟩)
theorem Z29 {o:Oper} {i:Nat} {r:Pl3} {b:Bool} {a:Act} {w:World} (ho:ops[i]?=some o) (hit:(b || i == t)=true) (hw:Region.wanted o (yielded ops a.tmps)=true)
 (h:∀ K:Act→World→Prop,(∀ a' w',Z3v P md ops Q S t r true a' w'→K a' w')→o.wp P a w K Q):Z3v P md ops Q S t (.go i r) b a w:=by
 unfold Z3v wpOp;simp only [ho];rw [Yb hw];exact .inl (h _ fun a' w' h2=>⟨fun h3=>(by rw [hit] at h3; cases h3),by rw [hit]; exact h2⟩)
theorem Z54 {i j:Nat} {ri rj:Pl3} {b:Bool} {a:Act} {w:World} (h1:Z3v P md ops Q S t (.go i ri) b a w) (h2:Z3v P md ops Q S t (.go j rj) b a w):Z3v P md ops Q S t (.two i ri j rj) b a w:=⟨h1,h2⟩
theorem Z6x {i j k:Nat} {ri rj rk:Pl3} {b:Bool} {a:Act} {w:World} (h1:Z3v P md ops Q S t (.go i ri) b a w) (h2:Z3v P md ops Q S t (.go j rj) b a w) (h3:Z3v P md ops Q S t (.go k rk) b a w):Z3v P md ops Q S t (.three i ri j rj k rk) b a w:=⟨h1,h2,h3⟩
theorem Z2r {b:Bool} {a:Act} {w:World} (h:Q .normal a w):Z3v P md ops Q S t .nil b a w:=h
end
end Go.Proofs.YtfilfhpfndaniaaGreatDoor
namespace Go.Proofs.YtfilfhpfndaniaaGreatDoor
open Go Go.RowKit
set_option maxRecDepth 100000
set_option maxHeartbeats 20000000
set_option linter.unusedVariables false
def Z2u (p:Sc×Value):List Value:=[.int .i64 p.1.at',p.2,.bool p.1.op]
structure RingsAt (w:World) (B:Nat) (v:Value) (R:List (Sc×Value)):Prop where
 row:w.ownsRow B 58 3 v R.length (R.flatMap Z2u)
 txt:∀ p∈R,Zr w B p.2 p.1.names
 pos:R≠[]
theorem RingsAt.keep {w w':World} {B:Nat} {v:Value} {R:List (Sc×Value)} (h:RingsAt w B v R) (hk:∀ (k:Nat) c t f,w.heap[k]?=some (.cells c t f)→t=58∨t=9→w'.heap[k]?=w.heap[k]?):RingsAt w' B v R:=by
 refine ⟨Zb h.row fun k hk'=>?_,fun p hp=>Zb (h.txt p hp) fun k hk'=>?_,h.pos⟩
 ·obtain ⟨c,f,hb⟩:=Lib.ownsRow_kind h.row k hk';exact hk k _ _ _ hb (.inl rfl)
 ·obtain ⟨c,f,hb⟩:=Lib.ownsRow_kind (h.txt p hp) k hk';exact hk k _ _ _ hb (.inr rfl)
theorem RingsAt.bel {w w':World} {B:Nat} {v:Value} {R:List (Sc×Value)} (h:RingsAt w B v R) (g:Below w.heap.size w w'):RingsAt w' B v R:=
 h.keep fun k c t f hb _=>g.block k (Y6.1 hb).1
theorem RingsAt.form {w:World} {B:Nat} {v:Value} {R:List (Sc×Value)} (h:RingsAt w B v R):∃ g cap,v=.slice (some ⟨g,0,none⟩) R.length cap∧g < w.heap.size∧R.length≤cap∧cap≤maxLen:=by
 rcases Z7 h.row with ⟨_,h2⟩ | ⟨g,cap,h1,h2,h3,h4⟩;·exact absurd (List.eq_nil_of_length_eq_zero h2) h.pos
 ·exact ⟨g,cap,h1,h4,h2,h3⟩
theorem Zcg:∀ R:List (Sc×Value),(R.flatMap Z2u).length=R.length * 3
 | []=>rfl
 | p :: R=>by simp only [List.flatMap_cons,List.length_append,Zcg R,List.length_cons]; simp [Z2u]; omega
theorem Zen:∀ (R:List (Sc×Value)) (i:Nat) (p:Sc×Value),R[i]?=some p→(R.flatMap Z2u)[i * 3]?=some (.int .i64 p.1.at')∧(R.flatMap Z2u)[i * 3 + 1]?=some p.2∧(R.flatMap Z2u)[i * 3 + 2]?=some (.bool p.1.op)
 | q :: R, 0, p, h => by
   obtain rfl:q=p:=by simpa using h
   exact ⟨rfl,rfl,rfl⟩
 | q :: R, i + 1, p, h => by
   have h1:=Zen R i p (by simpa using h);simp only [List.flatMap_cons];have e:∀ j,(Z2u q ++ R.flatMap Z2u)[(i + 1) * 3 + j]?=(R.flatMap Z2u)[i * 3 + j]?:=fun j=>by
    rw [List.getElem?_append_right (by simp [Z2u]; omega)];congr 1
    simp [Z2u]; omega
   exact ⟨(e 0).trans h1.1,(e 1).trans h1.2.1,(e 2).trans h1.2.2⟩
theorem RingsAt.cells {w:World} {B g cap n:Nat} {R:List (Sc×Value)} (h:RingsAt w B (.slice (some ⟨g,0,none⟩) n cap) R) {i:Nat} {p:Sc×Value} (hp:R[i]?=some p) :
 w.cell? ⟨g,i * 3,none⟩=some (.int .i64 p.1.at')∧w.cell? ⟨g,i * 3 + 1,none⟩=some p.2∧w.cell? ⟨g,i * 3 + 2,none⟩=some (.bool p.1.op):=by
 have key:∀ j x,(R.flatMap Z2u)[j]?=some x→w.cell? ⟨g,j,none⟩=some x:=fun j x hx=>by
  have:=h.row.cells (g:=g) rfl j x hx;rwa [show ((⟨g,0,none⟩:Addr).add j)=⟨g,j,none⟩ by unfold Addr.add; split <;> simp_all] at this
 obtain ⟨h1,h2,h3⟩:=Zen R i p hp;exact ⟨key _ _ h1,key _ _ h2,key _ _ h3⟩
theorem Z7f {P:Program} {o:Oper} {a:Act} {w:World} {K:Act→World→Prop} {Q:Exit→Act→World→Prop} (t e:TypeId) (ho:o.op=.buildSlice t 0 #[]) (ie:TypeInfo) (hu:P.underlying t=some (.slice e)) (hie:P.info? e=some ie)
 (h:K (a.put o.dst (.slice (some ⟨w.heap.size,0,none⟩) 0 0)) (w.alloc (.cells #[] e))):o.wp P a w K Q:=by
 have hr:(Instr.buildSlice t 0 #[]).run P w=.ok (.slice (some ⟨w.heap.size,0,none⟩) 0 0) (w.alloc (.cells #[] e)):=by
  simp [Instr.buildSlice,run_underlying hu,sizeOf,typeInfo,hie,newRow,Instr.fill,Result.andThen];rw [show Array.range 0=#[] from Array.eq_empty_of_size_eq_zero (by simp)];simp
 unfold Oper.wp execOp;simp only [ho,List.map_toArray,List.map_nil,Sem.run_bind,hr,Result.andThen];exact h
theorem Tryz.infoRing:(Tryz.prog.info? 58).map (fun i=>(i.zero,i.size,i.bytes))=some (some (.agg #[.int .i64 0,.slice none 0 0,.bool false]),3,40):=by kernel_rfl
theorem Z8a (w:World) (B q:Nat) (v:Value) (R:List (Sc×Value)) (s:Sc) (nv:Value) (hq:w.heap[q]?=some (.cells #[v] 56 (0,0))) (hR:RingsAt w B v R) (hn:Zr w B nv s.names) (hB:B≤w.heap.size) (hlen:R.length < 1099511627) :
 Calls Tryz.prog 18 #[.agg #[.int .i64 s.at',nv,.bool s.op],.pointer (some ⟨q,0,none⟩)] w fun e w'=>∃ v',e=.returned v'∧RingsAt w' B v' (R ++ [(s,nv)])∧Below w.heap.size w w':=by
 obtain ⟨i0,hi,hz0,hz1,hz2⟩:=info_parts Tryz.infoRing;obtain ⟨g,cap,rfl,hg,hle,hmx⟩:=hR.form;obtain ⟨p,n,c,rfl⟩:=hn.slice;have hpos:0 < R.length:=List.length_pos_iff.2 hR.pos;have hql:=(Y6.1 hq).1;obtain ⟨z,hz⟩:=zX (w.alloc (.cells #[.int .i64 s.at',.slice p n c,.bool s.op] 58))
 have hbz:Below w.heap.size w z:=by rw [hz]; exact (Y8 _ _).alloc (Y5 _) _
 have hzz:z.heap.size=w.heap.size + 1:=by rw [hz]; simp
 have hzb:z.heap[w.heap.size]?=some (.cells #[.int .i64 s.at',.slice p n c,.bool s.op] 58 (0,0)):=by rw [hz]; exact heap_alloc_new w _
 have HS:=lh (show ∀ W,Below z.heap.size z W→W.cell? ⟨q,0,none⟩=some (.slice (some ⟨g,0,none⟩) R.length cap)∧W.cell? ⟨w.heap.size,0,none⟩=some (.int .i64 s.at')∧W.cell? ⟨w.heap.size,1,none⟩=some (.slice p n c)∧W.cell? ⟨w.heap.size,2,none⟩=some (.bool s.op) from fun W hW=>by
  have e1:W.heap[q]?=_:=((hW.block q (by omega)).trans (hbz.block q hql)).trans hq;have e2:W.heap[w.heap.size]?=_:=(hW.block _ (by omega)).trans hzb;simp [World.cell?,e1,e2])
 have NEWS:=lh (show ∀ W,Below z.heap.size z W→∀ j u,(R.flatMap Z2u)[j]?=some u→W.cell? ((⟨g,0,none⟩:Addr).add j)=some u from fun W hW j u hu=>
  (Yj (w:=w) (((hW.mono (B':=w.heap.size) (by omega)).block _ (by unfold Addr.add; split <;> exact hg)).trans (hbz.block _ (by unfold Addr.add; split <;> exact hg)))).trans (hR.row.cells (g:=g) rfl j u hu))
 have ONE:=lh (show ∀ u∈R.flatMap Z2u,u.oneCell'=true from fun u hu=>by
  obtain ⟨x,hx,h2⟩:=List.mem_flatMap.1 hu;obtain ⟨p',n',c',e⟩:=(hR.txt x hx).slice;simp only [Z2u,e,List.mem_cons,List.not_mem_nil,or_false] at h2;rcases h2 with rfl | rfl | rfl <;> rfl)
 have LEN:=lh (Zcg R);have ROW0:=lh (show ∀ W:World,W.heap.size ≥ z.heap.size→(W.alloc (.cells #[] 58)).ownsRow z.heap.size 58 3 (.slice (some ⟨W.heap.size,0,none⟩) 0 0) 0 [] from fun W hW=>
  ⟨by simp,.inr ⟨W.heap.size,0,#[],rfl,hW,heap_alloc_new W _,by simp,by unfold maxLen; omega,by simp,by simp⟩⟩)
 have BZ:=lh hbz;have ZZ:=lh hzz;have FIN:=lh (show ∀ (W:World) g' cap',Below z.heap.size z W→W.ownsRow z.heap.size 58 3 (.slice (some ⟨g',0,none⟩) (R.length + 1) cap') (R.length + 1) (R.flatMap Z2u ++ Z2u (s,.slice p n c))→RingsAt W B (.slice (some ⟨g',0,none⟩) (R.length + 1) cap') (R ++ [(s,.slice p n c)])∧Below w.heap.size w W from fun W g' cap' hW hrow=>by
  have hb:=hbz.trans (hW.mono (B':=w.heap.size) (by omega));refine ⟨⟨?_,fun x hx=>?_,by simp⟩,hb⟩
  ·rw [Yq,List.flatMap_append];exact Z12 (base:=z.heap.size) (by omega) (by simpa using hrow)
  ·rcases List.mem_append.1 hx with hx | hx;·exact (hR.txt x hx).bel hb
   ·obtain rfl : x = (s, .slice p n c) := by simpa using hx
    exact hn.bel hb)
 obtain ⟨m,hm⟩:=zX R.length
 rw [← hm] at HS LEN FIN hpos hle hlen;have HSZ:=lh (show Below z.heap.size z z.drew from (Y8 _ _).drew);have SZD:z.drew.heap.size=z.heap.size:=rfl;clear hq hR hn hg hql hbz hzz hzb hm;go_enter Tryz.func18,Tryz.ntmps18
 go_wp2_with fail
 rw [← hz];clear hz;refine Z1b (.take 1 (.take 3 (.two 0 (.two 2 (.go 4 (.go 5 (.go 6 .nil))) 4 (.go 2 (.go 5 (.go 6 .nil)))) 4 (.go 0 (.go 2 (.go 5 (.go 6 .nil))))))) 6 (fun W=>W.cell? ⟨q,0,none⟩=some (.slice (some ⟨g,0,none⟩) m cap)∧W.cell? ⟨w.heap.size,0,none⟩=some (.int .i64 s.at')∧W.cell? ⟨w.heap.size,1,none⟩=some (.slice p n c)∧W.cell? ⟨w.heap.size,2,none⟩=some (.bool s.op)) (by kernel_rfl) (by kernel_rfl) (fun _ _ d _ _ h=>by cases d <;> exact h) (HS.out _ HSZ.out) ?_
 iterate 2 (refine Z0a ?_ (by rfl) (by kernel_rfl) (by rfl) (fun w' hS'=>?_) ?_; rotate_left; (obtain ⟨s0,s1,s2,s3⟩:=hS'; go_simp; first | done | with_reducible rfl); simp only [Act.put,List.setIfInBounds_toArray])
 refine Z54 ?_ ?_
 ·refine Zy (by rfl) (by rfl) (by rfl) (fun K hK => ?_);refine Z7f 56 58 (by rfl) i0 Tryz.underlying56 hi ?_;have HB1 := lh ((HSZ.out).alloc (HSZ.out).size (.cells #[] 58));refine hK _ _ (HS.out _ HB1.out) ?_;clear hK K;simp only [Act.put, List.getElem_toArray, List.getElem_cons_zero];refine Z54 ?_ ?_
  ·refine Zy (by rfl) (by rfl) (by rfl) (fun K hK => ?_);refine wp_append_lies _ (.tmp 4) (.tmp 5) 56 (by rfl) z.heap.size 58 i0 _ 3 40 Tryz.underlying56 hi hz0 hz1 hz2 rfl (by decide) (.slice (some ⟨z.drew.heap.size, 0, none⟩) 0 0) 0 [] (by rfl) (ROW0.out z.drew (Y5 _)) ⟨g, 0, none⟩ m cap (R.flatMap Z2u) (by rfl) LEN.out (NEWS.out _ HB1.out) ONE.out hpos (by unfold maxLen; omega) (by omega) HB1.out.size _ rfl ?_;intro g2 cap2 w2 hown2 hgrow2 hat2 hlt2;have HB2 := lh (HB1.out.grown hgrow2 HB1.out.size fun k hk => by have e := Yk hk; have := HB1.out.size; simp at e; omega)
   have HOW:=lh (show w2.ownsRow z.heap.size 58 3 (.slice (some ⟨g2,0,none⟩) m cap2) m (R.flatMap Z2u) from by rw [Nat.zero_add,List.nil_append] at hown2; exact hown2);refine hK _ _ (HS.out _ HB2.out) ?_;clear hK K hown2 hgrow2 hat2 hlt2;simp only [Act.put,List.getElem_toArray,List.getElem_cons_succ,List.getElem_cons_zero,List.setIfInBounds_toArray,List.set_cons_zero,List.set_cons_succ];rw [Nat.zero_add];refine Zy (by rfl) (by rfl) (by rfl) (fun K hK=>?_);simp only [List.getElem_toArray,List.getElem_cons_succ,List.getElem_cons_zero];unfold Oper.wp execOp;go_simp
   have HB3:=lh ((HB2.out).alloc (HB2.out).size (.cells #[.int .i64 s.at',.slice p n c,.bool s.op] 58));refine hK _ _ (HS.out _ HB3.out) ?_;clear hK K;refine Zy (by rfl) (by rfl) (by rfl) (fun K hK=>?_)
   refine wp_append_lies _ (.tmp 6) (.tmp 8) 56 (by rfl) z.heap.size 58 i0 _ 3 40 Tryz.underlying56 hi hz0 hz1 hz2 rfl (by decide) (.slice (some ⟨g2,0,none⟩) m cap2) m (R.flatMap Z2u) (by rfl) (HOW.out.alloc _) ⟨w2.heap.size,0,none⟩ 1 1 (Z2u (s,.slice p n c)) (by rfl) rfl (Yi (cs:=(Z2u (s,.slice p n c)).toArray) (t:=58) (fr:=(0,0)) (heap_alloc_new w2 _)) (by simp [Z2u,Value.oneCell']) (by decide) (by unfold maxLen; omega) (by omega) HB3.out.size _ rfl ?_;intro g3 cap3 w3 hown3 hgrow3 hat3 hlt3
   have hf:=FIN.out w3 g3 cap3 (HB3.out.grown hgrow3 HB3.out.size fun k hk=>(Yh HOW.out k hk).1) hown3;have HF:=lh hf;refine hK _ _ (HS.out _ (HB3.out.grown hgrow3 HB3.out.size fun k hk=>(Yh HOW.out k hk).1)) ?_;clear hown3 hgrow3 hat3 hlt3 hf hK K;simp only [Act.put,List.getElem_toArray,List.getElem_cons_succ,List.getElem_cons_zero,List.setIfInBounds_toArray,List.set_cons_zero,List.set_cons_succ];refine Z29 (by rfl) (by rfl) (by rfl) (fun K hK=>?_);simp only [List.getElem_toArray,List.getElem_cons_succ,List.getElem_cons_zero];unfold Oper.wp execOp
   go_simp
   refine hK _ _ (Z2r ?_);clear hK K;go_wp2;go_ret;exact ⟨_,rfl,HF.out.1,HF.out.2⟩
  ·refine Zy (by rfl) (by rfl) (by rfl) (fun K hK => ?_);simp only [List.getElem_toArray, List.getElem_cons_succ, List.getElem_cons_zero];unfold Oper.wp execOp;go_simp
   have HB2:=lh ((HB1.out).alloc (HB1.out).size (.cells #[.int .i64 s.at',.slice p n c,.bool s.op] 58));refine hK _ _ (HS.out _ HB2.out) ?_;clear hK K;refine Zy (by rfl) (by rfl) (by rfl) (fun K hK=>?_);refine wp_append_lies _ (.tmp 4) (.tmp 5) 56 (by rfl) z.heap.size 58 i0 _ 3 40 Tryz.underlying56 hi hz0 hz1 hz2 rfl (by decide) (.slice (some ⟨z.drew.heap.size,0,none⟩) 0 0) 0 [] (by rfl) ((ROW0.out z.drew (Y5 _)).alloc _) ⟨g,0,none⟩ m cap (R.flatMap Z2u) (by rfl) LEN.out (NEWS.out _ HB2.out) ONE.out hpos (by unfold maxLen; omega) (by omega) HB2.out.size _ rfl ?_
   intro g2 cap2 w2 hown2 hgrow2 hat2 hlt2;have HB3:=lh (HB2.out.grown hgrow2 HB2.out.size fun k hk=>by have e:=Yk hk; have:=HB2.out.size; simp at e; omega);have NB:=lh (show w2.heap[z.heap.size + 1]?=some (.cells #[.int .i64 s.at',.slice p n c,.bool s.op] 58 (0,0)) from by have h:=(hgrow2.block _ (by simp) (by simp [Value.ownBlock])).trans (heap_alloc_new (z.drew.alloc (.cells #[] 58)) _); rwa [World.size_alloc] at h)
   have HOW:=lh (show w2.ownsRow z.heap.size 58 3 (.slice (some ⟨g2,0,none⟩) m cap2) m (R.flatMap Z2u) from by rw [Nat.zero_add,List.nil_append] at hown2; exact hown2);refine hK _ _ (HS.out _ HB3.out) ?_;clear hK K hown2 hgrow2 hat2 hlt2;simp only [Act.put,List.getElem_toArray,List.getElem_cons_succ,List.getElem_cons_zero,List.setIfInBounds_toArray,List.set_cons_zero,List.set_cons_succ];rw [Nat.zero_add];refine Zy (by rfl) (by rfl) (by rfl) (fun K hK=>?_)
   refine wp_append_lies _ (.tmp 6) (.tmp 8) 56 (by rfl) z.heap.size 58 i0 _ 3 40 Tryz.underlying56 hi hz0 hz1 hz2 rfl (by decide) (.slice (some ⟨g2,0,none⟩) m cap2) m (R.flatMap Z2u) (by rfl) (HOW.out) ⟨z.heap.size + 1,0,none⟩ 1 1 (Z2u (s,.slice p n c)) (by rfl) rfl (Yi (cs:=(Z2u (s,.slice p n c)).toArray) (t:=58) (fr:=(0,0)) (NB.out)) (by simp [Z2u,Value.oneCell']) (by decide) (by unfold maxLen; omega) (by omega) HB3.out.size _ rfl ?_;intro g3 cap3 w3 hown3 hgrow3 hat3 hlt3
   have hf:=FIN.out w3 g3 cap3 (HB3.out.grown hgrow3 HB3.out.size fun k hk=>(Yh HOW.out k hk).1) hown3;have HF:=lh hf;refine hK _ _ (HS.out _ (HB3.out.grown hgrow3 HB3.out.size fun k hk=>(Yh HOW.out k hk).1)) ?_;clear hown3 hgrow3 hat3 hlt3 hf hK K;simp only [Act.put,List.getElem_toArray,List.getElem_cons_succ,List.getElem_cons_zero,List.setIfInBounds_toArray,List.set_cons_zero,List.set_cons_succ];refine Z29 (by rfl) (by rfl) (by rfl) (fun K hK=>?_);simp only [List.getElem_toArray,List.getElem_cons_succ,List.getElem_cons_zero];unfold Oper.wp execOp
   go_simp
   refine hK _ _ (Z2r ?_);clear hK K;go_wp2;go_ret;exact ⟨_,rfl,HF.out.1,HF.out.2⟩
 ·refine Zy (by rfl) (by rfl) (by rfl) (fun K hK => ?_);simp only [List.getElem_toArray, List.getElem_cons_succ, List.getElem_cons_zero];unfold Oper.wp execOp;go_simp
  have HB1:=lh ((HSZ.out).alloc (HSZ.out).size (.cells #[.int .i64 s.at',.slice p n c,.bool s.op] 58));refine hK _ _ (HS.out _ HB1.out) ?_;clear hK K;refine Zy (by rfl) (by rfl) (by rfl) (fun K hK=>?_);refine Z7f 56 58 (by rfl) i0 Tryz.underlying56 hi ?_;have HB2:=lh ((HB1.out).alloc (HB1.out).size (.cells #[] 58));refine hK _ _ (HS.out _ HB2.out) ?_;clear hK K;simp only [Act.put,List.getElem_toArray,List.getElem_cons_zero,List.setIfInBounds_toArray,List.set_cons_zero,List.set_cons_succ];refine Zy (by rfl) (by rfl) (by rfl) (fun K hK=>?_)
  refine wp_append_lies _ (.tmp 4) (.tmp 5) 56 (by rfl) z.heap.size 58 i0 _ 3 40 Tryz.underlying56 hi hz0 hz1 hz2 rfl (by decide) (.slice (some ⟨((z.drew.alloc (.cells #[.int .i64 s.at',.slice p n c,.bool s.op] 58))).heap.size,0,none⟩) 0 0) 0 [] (by rfl) (ROW0.out (z.drew.alloc (.cells #[.int .i64 s.at',.slice p n c,.bool s.op] 58)) HB1.out.size) ⟨g,0,none⟩ m cap (R.flatMap Z2u) (by rfl) LEN.out (NEWS.out _ HB2.out) ONE.out hpos (by unfold maxLen; omega) (by omega) HB2.out.size _ rfl ?_;intro g2 cap2 w2 hown2 hgrow2 hat2 hlt2
  have HB3:=lh (HB2.out.grown hgrow2 HB2.out.size fun k hk=>by have e:=Yk hk; have:=HB2.out.size; simp at e; omega);have NB:=lh (show w2.heap[z.drew.heap.size]?=some (.cells #[.int .i64 s.at',.slice p n c,.bool s.op] 58 (0,0)) from (hgrow2.block _ (by simp; omega) (by simp [Value.ownBlock])).trans ((heap_alloc_old (z.drew.alloc (.cells #[.int .i64 s.at',.slice p n c,.bool s.op] 58)) _ (by simp)).trans (heap_alloc_new z.drew _)))
  have HOW:=lh (show w2.ownsRow z.heap.size 58 3 (.slice (some ⟨g2,0,none⟩) m cap2) m (R.flatMap Z2u) from by rw [Nat.zero_add,List.nil_append] at hown2; exact hown2);refine hK _ _ (HS.out _ HB3.out) ?_;clear hK K hown2 hgrow2 hat2 hlt2;simp only [Act.put,List.getElem_toArray,List.getElem_cons_succ,List.getElem_cons_zero,List.setIfInBounds_toArray,List.set_cons_zero,List.set_cons_succ];rw [Nat.zero_add];refine Zy (by rfl) (by rfl) (by rfl) (fun K hK=>?_)
  refine wp_append_lies _ (.tmp 6) (.tmp 8) 56 (by rfl) z.heap.size 58 i0 _ 3 40 Tryz.underlying56 hi hz0 hz1 hz2 rfl (by decide) (.slice (some ⟨g2,0,none⟩) m cap2) m (R.flatMap Z2u) (by rfl) (HOW.out) ⟨z.drew.heap.size,0,none⟩ 1 1 (Z2u (s,.slice p n c)) (by rfl) rfl (Yi (cs:=(Z2u (s,.slice p n c)).toArray) (t:=58) (fr:=(0,0)) (NB.out)) (by simp [Z2u,Value.oneCell']) (by decide) (by unfold maxLen; omega) (by omega) HB3.out.size _ rfl ?_;intro g3 cap3 w3 hown3 hgrow3 hat3 hlt3
  have hf:=FIN.out w3 g3 cap3 (HB3.out.grown hgrow3 HB3.out.size fun k hk=>(Yh HOW.out k hk).1) hown3;have HF:=lh hf;refine hK _ _ (HS.out _ (HB3.out.grown hgrow3 HB3.out.size fun k hk=>(Yh HOW.out k hk).1)) ?_;clear hown3 hgrow3 hat3 hlt3 hf hK K;simp only [Act.put,List.getElem_toArray,List.getElem_cons_succ,List.getElem_cons_zero,List.setIfInBounds_toArray,List.set_cons_zero,List.set_cons_succ];refine Z29 (by rfl) (by rfl) (by rfl) (fun K hK=>?_);simp only [List.getElem_toArray,List.getElem_cons_succ,List.getElem_cons_zero];unfold Oper.wp execOp
  go_simp
  refine hK _ _ (Z2r ?_);clear hK K;go_wp2;go_ret;exact ⟨_,rfl,HF.out.1,HF.out.2⟩
mutual
theorem Z9n:∀ a:ATree,(a.subs.map ATree.b).Sublist a.blocks
 | .mk b v k t n ks => by
   simp only [ATree.subs,List.map_cons,ATree.b,ATree.blocks];exact List.Sublist.cons_cons _ ((Z8k ks).trans (by first | exact List.Sublist.refl _ | exact List.sublist_append_right _ _))
theorem Z8k:∀ l:List ATree,((Z0y l).map ATree.b).Sublist (Z00 l)
 | []=>by simp [Z0y]
 | a :: l => by
   simp only [Z0y,Z00,List.map_append];exact List.Sublist.append (Z9n a) (Z8k l)
end
theorem Got.apart {w w':World} {B:Nat} {a:ATree} {t:Tree} (h:Got w B w' a t):(a.subs.map ATree.b).Nodup:=h.nodup.sublist (Z9n a)
def Z9v (l:List (Nat×Nat)):Prop:=∀ (i:Nat) (x:Nat×Nat),l[i]?=some x→x.2=i
theorem Z9v.push {l:List (Nat×Nat)} (h:Z9v l) (b:Nat):Z9v (l ++ [(b,l.length)]):=by
 intro i x hx;rcases Nat.lt_or_ge i l.length with hi | hi
 ·rw [List.getElem?_append_left hi] at hx;exact h i x hx
 ·rw [List.getElem?_append_right hi] at hx;cases hd : i - l.length with
  | zero =>
    rw [hd] at hx;simp only [List.getElem?_cons_zero,Option.some.injEq] at hx;rw [← hx];simp only;omega
  | succ n=>rw [hd] at hx; simp at hx
mutual
theorem Zav:∀ (a:ATree) (l:List (Nat×Nat)),Z9v l→Z9v (Z2g numG a l)
 | .mk b v k t n ks, l, h => by
   simp only [Z2g,numG,if_true];exact Z9o ks _ (h.push _)
theorem Z9o:∀ (ks:List ATree) (l:List (Nat×Nat)),Z9v l→Z9v (Z16 numG ks l)
 | [],l,h=>by simpa [Z16] using h
 | a :: ks, l, h => by
   simp only [Z16];exact Z9o ks _ (Zav a l h)
end
def numOf (a:ATree) (b:Nat):Nat:=(a.subs.map ATree.b).idxOf b
theorem Zbw (a x:ATree) (hx:x∈a.subs):(x.b,numOf a x.b)∈Z2g numG a []:=by
 have hk:=Z8t a [];simp only [List.map_nil,List.nil_append] at hk;have hp:=Zav a [] (fun i x h=>by simp at h);have hm:x.b∈a.subs.map ATree.b:=List.mem_map.2 ⟨x,hx,rfl⟩;have hi:numOf a x.b < (a.subs.map ATree.b).length:=List.idxOf_lt_length_of_mem hm;have hl:numOf a x.b < (Z2g numG a []).length:=by rw [← hk,Yx] at hi; exact hi
 obtain ⟨y,hy⟩:∃ y,(Z2g numG a [])[numOf a x.b]?=some y:=⟨_,Yd hl⟩
 have h1:=hp _ _ hy;have h2:(a.subs.map ATree.b)[numOf a x.b]?=some y.1:=by rw [← hk,Yo,hy]; rfl
 have h3:(a.subs.map ATree.b)[numOf a x.b]?=some x.b:=by
  exact (Yd hi).trans (congrArg some (List.getElem_idxOf hi))
 rw [h3] at h2;have h4:y=(x.b,numOf a x.b):=Prod.ext (Yk h2).symm h1;rw [← h4];exact Yl hy
theorem Z86 {w2:World} {B:Nat} {v2:Value} {l:List ByteArray} {s:ByteArray} (h:w2.ownsRow B 9 1 v2 (l.length + 1) (l.map Value.string ++ [.string s])):Zr w2 B v2 (l ++ [s]):=by
 unfold Zr;rw [Yq,Yw];exact h
theorem Zic (w:World) (B0:Nat) (a:ATree) (hT:TreeAt w B0 a) (hn:a.kids.length < 1099511627776) :
 Calls Tryz.prog 14 #[a.ptr] w fun e w'=>∃ v,e=.returned v∧Zr w' w.heap.size v ((a.kids.filter Z2j).map ATree.text)∧Below w.heap.size w w':=by
 obtain ⟨i0,hi,hz0,hz1,hz2⟩:=info_parts Tryz.infoStr;have HL:=lh (Zb7 w B0 a hT hn);have hle:(a.kids.filter Z2j).length≤a.kids.length:=List.length_filter_le _ _;have hlk:∀ x,x∈a.kids.filter Z2j→x∈a.kids:=fun x hx=>(List.mem_filter.1 hx).1;have HLK:=lh hlk;have HT:=lh hT;obtain ⟨Q,hQ⟩:=zX (a.kids.filter Z2j)
 rw [← hQ] at HL hle HLK ⊢;clear hQ hlk hT;unfold ATree.ptr at HL ⊢;go_enter Tryz.func14,Tryz.ntmps14
 go_wp2_with fail
 refine HL.out.mono ?_;rintro e w2 ⟨v2,rfl,hn2,hb2⟩;obtain ⟨p2,cp2,rfl,hge2,hmx2⟩:∃ p cp,v2=.slice p Q.length cp∧Q.length≤cp∧cp≤maxLen:=by
  rcases hn2.form with ⟨h1,h2⟩ | ⟨g,cap,h1,h2,h3⟩;·exact ⟨none,0,by rw [h1,h2]; rfl,by rw [h2]; exact Y5 _,by unfold maxLen; omega⟩
  ·exact ⟨_,_,h1,h2,h3⟩
 have HB2:=lh hb2;have N2:=lh hn2;obtain ⟨q,hq1⟩:=zX Q.length
 have hqq:q≤9223372036854775807:=by unfold maxLen at hmx2; omega
 rw [← hq1] at hge2 N2 hle ⊢;have HQ1:=lh hq1;clear hn2 hb2 hq1 HL;go_wp2_with fail
 go_loopw [3,9] (fun v i wr=>∃ (k:Nat) (v':Value),v'=v∧k≤q∧i=.int .i64 k∧Hid (Zr wr w.heap.size v' ((Q.take k).map ATree.text))∧Hid (Z11 wr w.heap.size (.slice p2 q cp2) Q)∧Hid (Below w.heap.size w wr)) (fun _ i _=>q - (intOf i).toNat)
 case atStart=>exact ⟨0,_,rfl,Yp _,rfl,lh (Zr.nil _ _),N2,HB2⟩
 case round=>
  obtain ⟨k,v,rfl,hk,rfl,TX,NO,HB⟩:=hrel;clear N2 HB2;by_cases hkn:k < q
  ·obtain ⟨x, hx⟩ : ∃ x, Q[k]? = some x := ⟨_, Yd (by rw [← HQ1.out]; exact hkn)⟩
   obtain ⟨g0,hp⟩:∃ g,p2=some ⟨g,0,none⟩:=by
    rcases NO.out.form with ⟨h1,h2⟩ | ⟨g,cap,h1,_⟩;·rw [h2] at hx; simp at hx
    ·simp only [Value.slice.injEq] at h1; exact ⟨g,h1.1⟩
   subst hp;have cx:=NO.out.cell rfl hx;have hTx:=(HT.out.bel HB.out).kid (HLK.out x (Yl hx));have c1:=hTx.c1;have hsz:=HB.out.size;have HX:=lh hx;obtain ⟨L,hL⟩:=zX ((Q.take k).map ATree.text)
   have hll:L.length≤k:=by rw [hL]; simp; omega
   rw [← hL] at TX;have HLL:=lh hL;have TX2:=TX;unfold Zr at TX;clear hTx hx hL
   go_wp2_with (at_builtin; go_must (refine wpList_append_lies _ rfl (.tmp 13) (.tmp 18) 51 rfl w.heap.size 9 i0 (.string ByteArray.empty) 1 16 Tryz.underlying51 hi hz0 hz1 hz2 rfl (by decide) v L.length (L.map Value.string) rfl (TX.out.alloc _) ⟨wr.heap.size,0,none⟩ 1 1 [.string x.text] rfl rfl (fun j u hu=>cell_one_new wr _ _ j u hu) (by intro u hu; simp at hu; subst hu; rfl) (by first | omega | (simp; omega)) (by unfold maxLen; omega) (by first | omega | (simp; omega)) (by first | omega | (simp; omega)) (wr.heap.size + 1) (by simp) ?_); intro g cap w3 hown2 hgrow2 hat2 hgl2; have HG:=lh hgrow2; have HW:=lh hown2; clear hgrow2 hown2 hat2 hgl2)
   go_roundw
   case rel=>
    refine ⟨k + 1,_,rfl,by omega,by go_num,lh ?_,lh ?_,lh ?_⟩
    ·rw [Zk HX.out,Yw,← HLL.out];exact Z86 HW.out
    ·exact NO.out.far TX2.out fun j hj hv=>(HG.out.block j (by simp; omega) (fun e=>hv e.symm)).trans (Below.heap_alloc _ _ _ hj)
    ·exact (HB.out.alloc hsz _).grown HG.out (by simp; omega) fun j hj=>(Yh TX.out j hj).1
   case measure=>simp [intOf]; omega
  ·have hk2 : k = q := by omega
   subst hk2;go_wp2;go_ret;refine ⟨_,rfl,?_,HB.out⟩;have:=TX.out;rwa [Ym (by rw [← HQ1.out]; exact Y5 _)] at this
end Go.Proofs.YtfilfhpfndaniaaGreatDoor
