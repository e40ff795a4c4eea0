/- Package tree, plain: the tokens of a text that is made of pieces. -/
import Derived.Test.YtfgpdfcpkibkoaaGreatDoorJ04
import Derived.Shelf.Small.Strs
namespace Go.Proofs.YtfgpdfcpkibkoaaGreatDoor
open Go Go.RowKit
set_option maxRecDepth 100000
set_option linter.unusedVariables false
def Sx (T:ByteArray) (i:Nat) (l:List UInt8):Prop:=i≤T.size∧T.data.toList.drop i=l
section
variable {T:ByteArray} {i:Nat} {l m r:List UInt8}
theorem Sx.size (h:Sx T i l):i + l.length=T.size:=by
 have h1:=h.1;have h2:l.length=T.data.toList.length - i:=by rw [← h.2,List.length_drop]
 have h3:T.data.toList.length=T.size:=by simp
 omega
theorem Sx.get (h:Sx T i l) (j:Nat):T.data.getD (i + j) 0=l.getD j 0:=by
 rw [← h.2,Array.getD_eq_getD_getElem?,List.getD_eq_getElem?_getD,List.getElem?_drop,Array.getElem?_toList]
theorem Sx.app (h:Sx T i (l ++ m)):Sx T (i + l.length) m:=by
 have h1:=h.size;rw [Yi] at h1;refine ⟨by omega,?_⟩;rw [← List.drop_drop,h.2,List.drop_append];simp
theorem Sx.byte (h:Sx T i l) (j:Nat):Z6 T (i + j)=((l.getD j 0).toNat:Int):=by
 unfold Z6; rw [h.get j]
def hB (l:List UInt8):Int:=((l.getD 0 0).toNat:Int)
theorem Sx.hd (h:Sx T i l):Z6 T i=hB l:=h.byte 0
theorem Sx.next (h:Sx T i (l ++ m)):Z6 T (i + l.length)=hB m:=h.app.hd
theorem Sx.span (p:Int→Bool) (h:Sx T i (l ++ r)) (hl:∀ j,j < l.length→p ((l.getD j 0).toNat:Int)=true) (hr:p (hB r)=false):Zn p T (T.size - i) i=i + l.length:=by
 have h1:=h.size;rw [Yi] at h1;refine Z1n p T _ _ _ (Y0 _) (by omega) (by omega) (fun m h2 h3=>?_) fun h2=>?_
 ·have:=h.byte (m - i);rw [show i + (m - i)=m by omega] at this;rw [this,show (l ++ r).getD (m - i) 0=l.getD (m - i) 0 by rw [List.getD_eq_getElem?_getD,List.getD_eq_getElem?_getD,List.getElem?_append_left (by omega)]];exact hl _ (by omega)
 ·rw [h.next]; exact hr
theorem Sx.cut {s:ByteArray} (h:Sx T i (s.data.toList ++ r)):T.extract i (i + s.size)=s:=by
 apply ByteArray.ext;rw [ByteArray.data_extract];have h1:=h.size;rw [Yi] at h1;have e1:s.data.toList.length=s.size:=by simp
 have e2:s.data.size=s.size:=rfl;have e3:T.data.size=T.size:=rfl;apply Array.ext;·simp only [Array.size_extract]; omega
 ·intro j h2 h3;have:=h.get j;rw [Array.getD_eq_getD_getElem?,List.getD_eq_getElem?_getD,List.getElem?_append_left (by omega),Array.getElem?_toList,Array.getElem?_eq_getElem (by omega),Array.getElem?_eq_getElem h3] at this;simpa using this
end
def Z3o (s:ByteArray):Prop:=1≤s.size∧Z0e (Z6 s 0)=true∧(∀ i,i < s.size→Z1g (Z6 s i)=true)∧Z27 s=true
theorem Z62 (s:ByteArray) (j:Nat):((s.data.toList.getD j 0).toNat:Int)=Z6 s j:=by
 unfold Z6;rw [Array.getD_eq_getD_getElem?,List.getD_eq_getElem?_getD,Array.getElem?_toList]
section
variable {T:ByteArray} {i:Nat} {r:List UInt8}
theorem Sx.wordlike {s:ByteArray} (h:Sx T i (s.data.toList ++ r)) (h1:1≤s.size) (h2:Z0e (Z6 s 0)=true) (h3:∀ i,i < s.size→Z1g (Z6 s i)=true) (hr:Z1g (hB r)=false) :
 Z0e (Z6 T i)=true∧Zn Z1g T (T.size - i) i=i + s.size∧T.extract i (i + s.size)=s:=by
 have e1:s.data.toList.length=s.size:=by simp
 refine ⟨?_,?_,h.cut⟩
 ·rw [h.hd];unfold hB;rw [List.getD_eq_getElem?_getD,List.getElem?_append_left (by omega),← List.getD_eq_getElem?_getD,Z62];exact h2
 ·have:=h.span Z1g (fun j hj=>by rw [Z62]; exact h3 j (by omega)) hr;rw [this,e1]
theorem Zf1 {s:ByteArray} (hs:Z1q s) (h:Sx T i (s.data.toList ++ r)) (hr:Z1g (hB r)=false):Z0k T i=.ok (⟨1,s,0,i⟩,i + s.size):=by
 obtain ⟨n1,n2,n3,n4,n5⟩:=hs;obtain ⟨g1,g2,g3⟩:=h.wordlike n1 n3 n4 hr;unfold Z0k;simp only;rw [Y5 g1,g2,g3,Y3 (by rw [n5]; simp),Y3 (by omega)]
theorem Zes {s:ByteArray} (hs:Z3o s) (h:Sx T i (s.data.toList ++ r)) (hr:Z1g (hB r)=false):Z0k T i=.ok (⟨2,s,0,i⟩,i + s.size):=by
 obtain ⟨n1,n3,n4,n5⟩:=hs;obtain ⟨g1,g2,g3⟩:=h.wordlike n1 n3 n4 hr;unfold Z0k;simp only;rw [Y5 g1,g2,g3,Y5 n5]
theorem Z4r (u:Nat) (h:u < 10):((UInt8.ofNat (48 + u)).toNat:Int)=48 + u:=by
 simp; omega
theorem Zds (u:Nat):∀ c∈Lib.decDigits u,Z08 (c.toNat:Int)=true:=by
 induction u using Nat.strongRecOn with
 | _ u ih =>
   intro c hc;rw [Lib.decDigits] at hc;split at hc
   ·simp only [List.mem_singleton] at hc;subst hc;rw [Z4r u (by omega)];simp only [Z08,Bool.and_eq_true,decide_eq_true_eq]; omega
   ·rcases List.mem_append.1 hc with h | h;·exact ih _ (by omega) c h
    ·simp only [List.mem_singleton] at h;subst h;rw [Z4r (u % 10) (by omega)];simp only [Z08,Bool.and_eq_true,decide_eq_true_eq]; omega
theorem Zf0 (u:Nat):(Lib.decDigits u).foldl (fun (n:Int) (c:UInt8)=>10 * n + ((c.toNat:Int) - 48)) 0=u:=by
 induction u using Nat.strongRecOn with
 | _ u ih =>
   rw [Lib.decDigits];split
   ·simp only [List.foldl_cons,List.foldl_nil];rw [Z4r u (by omega)]; omega
   ·rw [List.foldl_append,ih _ (by omega)];simp only [List.foldl_cons,List.foldl_nil];rw [Z4r (u % 10) (by omega)]; omega
theorem Zgz:∀ (k u:Nat),u < 10 ^ (k + 1)→(Lib.decDigits u).length≤k + 1:=by
 intro k;induction k with
 | zero=>intro u h; rw [Lib.decDigits,dif_pos (by omega)]; simp
 | succ k ih =>
   intro u h;rw [Lib.decDigits];split;·simp
   ·have:=ih (u / 10) (by rw [Nat.pow_succ] at h; omega);simp; omega
theorem Za7 (u:Nat):1≤(Lib.decDigits u).length:=by
 rw [Lib.decDigits]; split <;> simp
theorem Zci (u:Nat) (h:0 < u):hB (Lib.decDigits u)≠48:=by
 induction u using Nat.strongRecOn with
 | _ u ih =>
   rw [Lib.decDigits];split
   ·unfold hB;rw [List.getD_cons_zero,Z4r u (by omega)]; omega
   ·have:=ih (u / 10) (by omega) (by omega);have hp:=Za7 (u / 10);unfold hB at this ⊢;rw [List.getD_eq_getElem?_getD,List.getElem?_append_left (by omega),← List.getD_eq_getElem?_getD];exact this
theorem Zhj (u:Nat) (h:1 < (Lib.decDigits u).length):0 < u:=by
 rcases Nat.eq_zero_or_pos u with rfl | h1;·rw [Lib.decDigits,dif_pos (by omega)] at h; simp at h
 ·exact h1
theorem Zee {T:ByteArray} {k:Nat}:∀ (l r:List UInt8) (f i:Nat) (n:Int),Sx T i (l ++ r)→k=i + l.length→l.length≤f→numF T k f i n=l.foldl (fun (n:Int) (c:UInt8)=>10 * n + ((c.toNat:Int) - 48)) n:=by
 intro l;induction l with
 | nil =>
   intro r f i n h hk hf;cases f with
   | zero=>rfl
   | succ f=>simp only [numF]; rw [Y3 (by simp at hk; omega)]; rfl
 | cons c l ih =>
   intro r f i n h hk hf;obtain ⟨g,rfl⟩:∃ g,f=g + 1:=⟨f - 1,by simp at hf; omega⟩
   simp only [numF];have hb:=h.hd;simp only [List.length_cons] at hk hf;have h':Sx T i ([c] ++ (l ++ r)):=h;rw [Y5 (by omega),ih r g (i + 1) _ h'.app (by omega) (by omega),hb];rfl
theorem Zas {n:Int} (h:0≤n):Lib.itoa n=Lib.decDigits n.toNat:=by unfold Lib.itoa; rw [Y3 (by omega)]
theorem Zh1 {n:Int} (h0:0≤n) (h1:n≤1000000000) (h:Sx T i (Lib.itoa n ++ r)) (hr:Z1g (hB r)=false):Z0k T i=.ok (⟨3,ByteArray.empty,n,i⟩,i + (Lib.itoa n).length):=by
 obtain ⟨u,hu⟩:=zX n.toNat
 have hn:n=u:=by omega
 have hi:Lib.itoa n=Lib.decDigits u:=by rw [Zas h0,hu]
 rw [hi] at h ⊢;have hp:=Za7 u;have hl:=Zgz 9 u (by omega);have hd:∀ j,j < (Lib.decDigits u).length→Z08 (((Lib.decDigits u).getD j 0).toNat:Int)=true:=fun j hj=>by
  rw [List.getD_eq_getElem?_getD,Y6 hj];exact Zds u _ (List.getElem_mem hj)
 have hr2:Z08 (hB r)=false:=by
  simp only [Z1g,Bool.or_eq_false_iff] at hr;exact hr.2
 have hs:=h.span Z08 hd hr2;have hb:Z6 T i=hB (Lib.decDigits u):=by
  rw [h.hd];unfold hB;rw [List.getD_eq_getElem?_getD,List.getElem?_append_left (by omega),← List.getD_eq_getElem?_getD]
 have hdig:Z08 (Z6 T i)=true:=by rw [hb]; exact hd 0 (by omega)
 have hlet:Z0e (Z6 T i)=false:=by
  simp only [Z08,Bool.and_eq_true,decide_eq_true_eq] at hdig;simp only [Z0e,Bool.or_eq_false_iff,Bool.and_eq_false_iff,decide_eq_false_iff_not];omega
 have hnum:numF T (i + (Lib.decDigits u).length) ((Lib.decDigits u).length) i 0=n:=by
  rw [Zee _ r _ _ _ h rfl (Y0 _),Zf0,hn]
 unfold Z0k;simp only;rw [Y3 (by rw [hlet]; simp),Y5 hdig,hs,show i + (Lib.decDigits u).length - i=(Lib.decDigits u).length by omega,hnum,Y3,Y3 (by omega)];rintro (h3 | ⟨h3,h4⟩);·omega
 ·rw [hb] at h4;exact Zci u (Zhj u h3) h4
theorem Za2 {T:ByteArray} {r:List UInt8}:∀ (l acc:List UInt8) (f j:Nat),Sx T j (l.flatMap escB ++ 39 :: r)→acc.length + l.length≤500→(l.flatMap escB).length + 1≤f →
 Z04 T f j acc=(acc ++ l,0,j + (l.flatMap escB).length + 1):=by
 intro l;induction l with
 | nil =>
   intro acc f j h h1 hf;obtain ⟨g,rfl⟩:∃ g,f=g + 1:=⟨f - 1,by simp at hf; omega⟩
   have hb:Z6 T j=39:=h.hd;have hs:=h.size;simp only [List.flatMap_nil,List.nil_append,List.length_cons] at hs;simp only [Z04];simp only [List.length_nil,Nat.add_zero] at h1;rw [Y3 (by omega),Y5 hb,Y3 (by omega)];simp
 | cons c l ih =>
   intro acc f j h h1 hf;rw [List.flatMap_cons] at h hf ⊢;rw [List.append_assoc] at h;have hs:=h.size;simp only [List.length_append,List.length_cons] at hs hf h1;have key:escB c=[92,92]∧c=92∨escB c=[92,39]∧c=39∨escB c=[92,110]∧c=10∨escB c=[c]∧c≠92∧c≠39∧c≠10:=by
    unfold escB;by_cases e1:c=92;·exact .inl ⟨Y5 e1,e1⟩
    by_cases e2:c=39;·exact .inr (.inl ⟨by rw [Y3 e1,Y5 e2],e2⟩)
    by_cases e3:c=10;·exact .inr (.inr (.inl ⟨by rw [Y3 e1,Y3 e2,Y5 e3],e3⟩))
    ·exact .inr (.inr (.inr ⟨by rw [Y3 e1,Y3 e2,Y3 e3],e1,e2,e3⟩))
   have two:∀ a:UInt8,escB c=[92,a]→Z5w (a.toNat:Int)=some c→Z04 T f j acc=(acc ++ c :: l,0,j + (escB c ++ l.flatMap escB).length + 1):=by
    intro a he ho;rw [he] at h hs hf ⊢;simp only [List.length_cons,List.length_nil] at hs hf;obtain ⟨g,rfl⟩:∃ g,f=g + 1:=⟨f - 1,by omega⟩
    have b0:Z6 T j=92:=h.hd;have b1:Z6 T (j + 1)=(a.toNat:Int):=h.byte 1;simp only [Z04];rw [Y3 (by omega),Y3 (by omega),Y5 b0,Y5 (by omega),b1,ho];simp only;have:=ih (acc ++ [c]) g (j + 2) h.app (by simp; omega) (by omega);rw [this];simp;omega
   rcases key with ⟨he,hc⟩ | ⟨he,hc⟩ | ⟨he,hc⟩ | ⟨he,c1,c2,c3⟩;·exact two 92 he (by subst hc; decide)
   ·exact two 39 he (by subst hc; decide)
   ·exact two 110 he (by subst hc; decide)
   ·rw [he] at h hs hf ⊢;simp only [List.length_cons, List.length_nil] at hs hf;obtain ⟨g, rfl⟩ : ∃ g, f = g + 1 := ⟨f - 1, by omega⟩
    have b0:Z6 T j=(c.toNat:Int):=h.hd;have ne:∀ k:UInt8,c≠k→((c.toNat:Int)≠(k.toNat:Int)):=fun k hk e=>hk (UInt8.toNat_inj.1 (by omega));have d1:Z6 T j≠10:=by rw [b0]; exact ne 10 c3
    have d2:Z6 T j≠39:=by rw [b0]; exact ne 39 c2
    have d3:Z6 T j≠92:=by rw [b0]; exact ne 92 c1
    have g0:T.data.getD j 0=c:=h.get 0;simp only [Z04];rw [Y3 (by omega),Y3 d2,Y3 d3,g0];have:=ih (acc ++ [c]) g (j + 1) h.app (by simp; omega) (by omega);rw [this];simp;omega
theorem Zgt {s:ByteArray} (hs:s.size≤500) (h:Sx T i (Z2b s ++ r)):Z0k T i=.ok (⟨4,s,0,i⟩,i + (Z2b s).length):=by
 have hb:Z6 T i=39:=h.hd;have h':Sx T i ([39] ++ (s.data.toList.flatMap escB ++ 39 :: r)):=by
  unfold Z2b at h;simpa using h
 have hz:=h'.size;simp only [List.length_append,List.length_cons,List.length_nil] at hz;have hq:=Za2 (r:=r) s.data.toList [] (T.size + 1 - (i + 1)) (i + 1) h'.app (by simp; exact hs) (by omega);have hQ:Z0t T (i + 1)=(s.data.toList,0,i + (Z2b s).length):=by
  unfold Z0t;rw [hq];unfold Z2b;simp;omega
 unfold Z0k;simp only;rw [Y3 (by rw [hb]; decide),Y3 (by rw [hb]; decide),Y5 hb,hQ];simp only;rw [Y3 (by omega),Y3 (by omega)]
theorem Zch (h:Z6 T i=61→Z6 T (i + 1)≠61) (h2:Z6 T i≠38) (h3:Z6 T i≠124):Z00 T i=1:=by
 unfold Z00;rw [Y3 (fun e=>h e.1 e.2.1),Y3 (fun e=>h2 e.1),Y3 (fun e=>h3 e.1)]
theorem Z60 {s:ByteArray} (h:Sx T i (s.data.toList ++ r)) (hl:Z0e (hB s.data.toList)=false) (hd:Z08 (hB s.data.toList)=false) (hq:hB s.data.toList≠39) (h1:1≤s.size)
 (hg:Z00 T i=s.size) (hb:s.size=1→Z3u (hB s.data.toList)=true):Z0k T i=.ok (⟨5,s,0,i⟩,i + s.size):=by
 have e1:s.data.toList.length=s.size:=by simp
 have e:Z6 T i=hB s.data.toList:=by
  rw [h.hd];unfold hB;rw [List.getD_eq_getElem?_getD,List.getElem?_append_left (by omega),← List.getD_eq_getElem?_getD]
 unfold Z0k;simp only;rw [e,Y3 (by rw [hl]; simp),Y3 (by rw [hd]; simp),Y3 hq,hg,Y3 (fun ⟨x,y⟩=>by rw [hb x] at y; cases y),h.cut]
theorem Zex {c:Int} (h:Z3u c=true):Z0e c=false∧Z08 c=false∧c≠39∧c≠38∧c≠124:=by
 simp only [Z3u,Bool.or_eq_true,beq_iff_eq] at h;simp only [Z0e,Z08,Bool.or_eq_false_iff,Bool.and_eq_false_iff,decide_eq_false_iff_not];omega
theorem Zgg {c:UInt8} (hc:Z3u (c.toNat:Int)=true) (h:Sx T i ([c] ++ r)) (hr:c=61→hB r≠61):Z0k T i=.ok (⟨5,⟨#[c]⟩,0,i⟩,i + 1):=by
 obtain ⟨c1,c2,c3,c4,c5⟩:=Zex hc;have b0:Z6 T i=(c.toNat:Int):=h.hd;have b1:Z6 T (i + 1)=hB r:=h.next;refine Z60 (s:=⟨#[c]⟩) h c1 c2 c3 (Y0 1) ?_ fun _=>hc;refine Zch (fun e=>?_) (by rw [b0]; exact c4) (by rw [b0]; exact c5);rw [b1];exact hr (UInt8.toNat_inj.1 (by rw [b0] at e; change c.toNat=61; omega))
theorem Zd6 {s:ByteArray} (hs:s=Z2c∨s=s_or∨s=Z43) (h:Sx T i (s.data.toList ++ r)):Z0k T i=.ok (⟨5,s,0,i⟩,i + s.size):=by
 rcases hs with rfl | rfl | rfl
 ·refine Z60 h (by decide) (by decide) (by decide) (by decide) ?_ (by decide);have b0:Z6 T i=61:=h.hd;have b1:Z6 T (i + 1)=61:=h.byte 1;have b2:Z6 T (i + 2)=61:=h.byte 2;unfold Z00;rw [Y5 ⟨b0,b1,b2⟩]; rfl
 ·refine Z60 h (by decide) (by decide) (by decide) (by decide) ?_ (by decide);have b0:Z6 T i=124:=h.hd;have b1:Z6 T (i + 1)=124:=h.byte 1;unfold Z00;rw [Y3 (by omega),Y3 (by omega),Y5 ⟨b0,b1⟩]; rfl
 ·refine Z60 h (by decide) (by decide) (by decide) (by decide) ?_ (by decide);have b0:Z6 T i=38:=h.hd;have b1:Z6 T (i + 1)=38:=h.byte 1;unfold Z00;rw [Y3 (by omega),Y5 ⟨b0,b1⟩]; rfl
end
def Tok.st (t:Tok):Int×ByteArray×Int:=(t.kind,t.text,t.n)
def Pc.tok:Pc→Option (Int×ByteArray×Int)
 | .sp _=>none
 | .t k s n=>some (k,s,n)
def endP:Int×ByteArray×Int:=(6,ByteArray.empty,0)
def Pv:Pc→Prop
 | .sp c=>c=32∨c=10
 | .t k s n=>(k=1∧n=0∧Z1q s)∨(k=2∧n=0∧Z3o s)∨(k=3∧s=ByteArray.empty∧0≤n∧n≤1000000000)∨(k=4∧n=0∧s.size≤500)∨(k=5∧n=0∧((∃ c:UInt8,s=⟨#[c]⟩∧Z3u (c.toNat:Int)=true)∨s=Z2c∨s=s_or∨s=Z43))
def Nx:Pc→Int→Prop
 | .sp _,_=>True
 | .t k s _,c=>(k≤3→Z1g c=false)∧(k=5→s=s_eq→c≠61)
def Spd:List Pc→Prop
 | []=>True
 | p :: l=>Pv p∧Nx p (hB (Z4 l))∧Spd l
theorem Zdh {T:ByteArray} {i:Nat} {k:Int} {s:ByteArray} {n:Int} {l:List UInt8} (hp:Pv (.t k s n)) (hn:Nx (.t k s n) (hB l)) (h:Sx T i ((Pc.t k s n).bytes ++ l)) :
 Z0k T i=.ok (⟨k,s,n,i⟩,i + (Pc.t k s n).bytes.length)∧1≤(Pc.t k s n).bytes.length:=by
 have sz:∀ s:ByteArray,s.data.toList.length=s.size:=fun s=>by simp
 rcases hp with ⟨rfl,rfl,g⟩ | ⟨rfl,rfl,g⟩ | ⟨rfl,rfl,g⟩ | ⟨rfl,rfl,g⟩ | ⟨rfl,rfl,g⟩
 ·have e:(Pc.t 1 s 0).bytes=s.data.toList:=rfl;rw [e] at h ⊢;rw [sz];exact ⟨Zf1 g h (hn.1 (by omega)),g.1⟩
 ·have e:(Pc.t 2 s 0).bytes=s.data.toList:=rfl;rw [e] at h ⊢;rw [sz];exact ⟨Zes g h (hn.1 (by omega)),g.1⟩
 ·have e:(Pc.t 3 ByteArray.empty n).bytes=Lib.itoa n:=rfl;rw [e] at h ⊢;exact ⟨Zh1 g.1 g.2 h (hn.1 (by omega)),by rw [Zas g.1]; exact Za7 _⟩
 ·have e:(Pc.t 4 s 0).bytes=Z2b s:=rfl;rw [e] at h ⊢;exact ⟨Zgt g h,by unfold Z2b; simp⟩
 ·have e : (Pc.t 5 s 0).bytes = s.data.toList := rfl;rw [e] at h ⊢;rw [sz];rcases g with ⟨c, rfl, hc⟩ | g;·exact ⟨Zgg hc h (fun ec => hn.2 rfl (by subst ec; rfl)), Y0 1⟩
  ·refine ⟨Zd6 g h,?_⟩;rcases g with rfl | rfl | rfl <;> decide
theorem Z8m {T:ByteArray}:∀ (ps:List Pc) (i:Nat),Spd ps→Sx T i (Z4 ps)→∃ r,Z5x T i r∧r.map Tok.st=ps.filterMap Pc.tok ++ [endP]:=by
 intro ps;induction ps with
 | nil =>
   intro i _ h;have hs:=h.size;simp only [Z17,List.length_nil,Nat.add_zero] at hs;subst hs;have e:Zn Z07 T (T.size - T.size) T.size=T.size:=by
    obtain ⟨s1,s2,_,_⟩:=Z0d Z07 T (T.size - T.size) T.size (Y0 _) (Y0 _);omega
   exact ⟨[⟨6,ByteArray.empty,0,Zn Z07 T (T.size - T.size) T.size⟩],⟨by rw [e]; exact Y0 _,rfl⟩,rfl⟩
 | cons p ps ih =>
   intro i h0 h;obtain ⟨h1,h2,h3⟩:=h0;rw [Z8] at h;have hs:=h.size;rw [Yi] at hs;obtain ⟨r,g1,g2⟩:=ih _ h3 h.app;cases p with
   | sp c =>
     refine ⟨r,g1.back (by omega) (by omega) (fun m m1 m2=>?_),g2⟩;have e:(Pc.sp c).bytes.length=1:=rfl;obtain rfl:m=i:=by omega
     rw [h.hd];rcases h1 with rfl | rfl <;> rfl
   | t k s n =>
     obtain ⟨t1,t2⟩:=Zdh h1 h2 h;obtain ⟨c1,c2,c3,c4,c5,_⟩:=Z1f T (by omega) t1;have e:Zn Z07 T (T.size - i) i=i:=by
      refine Z1n Z07 T _ _ _ (Y0 _) (Y0 _) (by omega) (fun m _ _=>by omega) fun _=>c5
     obtain ⟨u,q,hq⟩:∃ u q,r=u :: q:=by
      cases r with
      | nil=>exact g1.elim
      | cons u q=>exact ⟨_,_,rfl⟩
     subst hq;exact ⟨⟨k,s,n,i⟩ :: u :: q,⟨_,by rw [e]; omega,by rw [e]; exact t1,g1⟩,by rw [List.map_cons,g2]; rfl⟩
theorem Zbf {ps:List Pc} (h:Spd ps):∃ r,Z4y (toB ps)=.ok r∧r.map Tok.st=ps.filterMap Pc.tok ++ [endP]:=by
 obtain ⟨r,h1,h2⟩:=Z8m (T:=toB ps) ps 0 h ⟨Yh _,by simp [toB]⟩;refine ⟨r,?_,h2⟩;unfold Z4y;rw [Zcu (toB ps) r _ 0 [] (Yh _) (by omega) h1];rfl
end Go.Proofs.YtfgpdfcpkibkoaaGreatDoor
namespace Go.Proofs.YtfgpdfcpkibkoaaGreatDoor
open Go Go.RowKit
set_option maxRecDepth 100000
set_option linter.unusedVariables false
section
variable {k:Int} {t:ByteArray} {n:Int} {x y b:Tree} {l r:List Tree}
theorem Z5m (need:Int):vP (.mk k t n r) need=Z6a (decide (Zf k < need)) (vbP k t n r):=by rw [vP.eq_def]
theorem Z6f:vbP 17 t n r=[.t 3 ByteArray.empty n]:=by rw [vbP.eq_def]; simp
theorem Z7f:vbP 18 t n r=[.t 4 t 0]:=by rw [vbP.eq_def]; simp
theorem Z50 (h:19≤k) (h2:k≤22):vbP k t n r=[wd (Z5o k)]:=by
 rw [vbP.eq_def,Y3 (by omega),Y3 (by omega),Y5 (by omega)]
theorem Z37:vbP 23 t n r=[nm t]:=by rw [vbP.eq_def]; simp
theorem Z7b:vbP 24 t n (x :: y :: r)=vP x 8 ++ sp :: sg 61 :: sp :: vP y 0:=by rw [vbP.eq_def]; simp
theorem Z64 (h:32≤k) (h2:k≤34):vbP k t n (x :: r)=sgnP k ++ vP x 7:=by
 rw [vbP.eq_def,Y3 (by omega),Y3 (by omega),Y3 (by omega),Y3 (by omega),Y3 (by omega),Y5 (by omega)]
theorem Z71:vbP 36 t n (x :: r)=vP x 8 ++ [sg 46,nm t]:=by rw [vbP.eq_def]; simp
theorem Z4i:vbP 35 t n (x :: r)=vP x 8 ++ sg 40 :: (lP true r ++ [sg 41]):=by rw [vbP.eq_def]; simp
theorem Z7i {k' n':Int} {t':ByteArray}:vbP 37 t n (.mk k' t' n' l :: b :: r)=fnP t (lP true l) (sP b):=by rw [vbP.eq_def]; simp
theorem Z74:vbP 38 t n r=sg 123 :: (lP true r ++ [sg 125]):=by rw [vbP.eq_def]; simp
theorem Z7z:vbP 39 t n (x :: r)=nm t :: sg 58 :: sp :: vP x 0:=by rw [vbP.eq_def]; simp
theorem Z48 (h:25≤k) (h2:k≤31):vbP k t n (x :: y :: r)=vP x (Zf k) ++ (sgnP k ++ vP y (Zf k + 1)):=by
 rw [vbP.eq_def,Y3 (by omega),Y3 (by omega),Y3 (by omega),Y3 (by omega),Y3 (by omega),Y3 (by omega),Y3 (by omega),Y3 (by omega),Y3 (by omega),Y3 (by omega),Y3 (by omega)]
theorem Z2z (f:Bool):lP f []=[]:=by rw [lP.eq_def]
theorem Z1p (f:Bool):lP f (x :: r)=sepP f [sg 44,sp] ++ (vP x 0 ++ lP false r):=by rw [lP.eq_def]
theorem Z52 (f:Bool):bP f []=[]:=by rw [bP.eq_def]
theorem Z35 (f:Bool):bP f (x :: r)=sepP f [sp] ++ (sP x ++ bP false r):=by rw [bP.eq_def]
theorem Z5i (h:k=2∨k=3∨k=4):sP (.mk k t n [])=Z3j k ++ nm t :: [sg 59]:=by rw [sP.eq_def]; simp only; rw [Y5 h]
theorem Z4l (h:k=2∨k=3∨k=4):sP (.mk k t n (x :: r))=Z3j k ++ nm t :: sp :: sg 61 :: sp :: (vP x 0 ++ [sg 59]):=by rw [sP.eq_def]; simp only; rw [Y5 h]
theorem Z8s {k' n':Int} {t':ByteArray}:sP (.mk 5 t n (.mk k' t' n' l :: b :: r))=fnP t (lP true l) (sP b):=by rw [sP.eq_def]; simp
theorem Z42:sP (.mk 6 t n r)=sg 123 :: (bP true r ++ [sg 125]):=by rw [sP.eq_def]; simp
theorem Z6y (h:k=7∨k=8∨k=9):sP (.mk k t n [x,y])=Z3j k ++ sg 40 :: (vP x 0 ++ sg 41 :: sp :: sP y):=by
 rw [sP.eq_def]; simp only; rw [Y3 (by omega),Y3 (by omega),Y3 (by omega),Y5 h,List.append_nil]
theorem Zc3 {z:Tree}:sP (.mk 7 t n [x,y,z])=Z3j 7 ++ sg 40 :: (vP x 0 ++ sg 41 :: sp :: (sP y ++ sp :: wd Z1z :: sp :: sP z)):=by rw [sP.eq_def]; simp
theorem Z8g (h:k=10∨k=11):sP (.mk k t n [])=Z3j k ++ [sg 59]:=by
 rw [sP.eq_def]; simp only; rw [Y3 (by omega),Y3 (by omega),Y3 (by omega),Y3 (by omega),Y5 h]
theorem Z77 (h:k=10∨k=11):sP (.mk k t n (x :: r))=Z3j k ++ sp :: (vP x 0 ++ [sg 59]):=by
 rw [sP.eq_def]; simp only; rw [Y3 (by omega),Y3 (by omega),Y3 (by omega),Y3 (by omega),Y5 h]
theorem Z44:sP (.mk 12 t n (b :: r))=wd Z4p :: sp :: (sP b ++ cP r):=by rw [sP.eq_def]; simp
theorem Z6g:sP (.mk 16 t n r)=[sg 59]:=by rw [sP.eq_def]; simp
theorem Z70:sP (.mk 15 t n (x :: r))=Z83 (vP x 0) ++ [sg 59]:=by rw [sP.eq_def]; simp
theorem Z5k:cP []=[]:=by rw [cP.eq_def]
theorem Z4h:cP (.mk 13 t n [x] :: r)=sp :: wd Z1i :: sp :: sg 40 :: nm t :: sg 41 :: sp :: (sP x ++ cP r):=by rw [cP.eq_def]; simp
theorem Z2t:cP (.mk 14 t n [x] :: r)=sp :: wd Zt :: sp :: (sP x ++ cP r):=by rw [cP.eq_def]; simp
theorem Zaq {p:Bool} {l m:List Pc}:Z6a p l ++ m=if p=true then sg 40 :: (l ++ sg 41 :: m) else l ++ m:=by
 unfold Z6a; cases p <;> simp
end
def NWr (l:List Pc):Prop:=Z1g (hB (Z4 l))=false∧hB (Z4 l)≠61
section
variable {l:List Pc}
theorem Zir (c:UInt8):hB (Z4 (.sp c :: l))=(c.toNat:Int):=rfl
theorem NWr.sg {c:UInt8} (h:Z1g (c.toNat:Int)=false:=by decide) (h2:(c.toNat:Int)≠61:=by decide):NWr (sg c :: l):=⟨h,h2⟩
theorem NWr.sp {c:UInt8} (h:Z1g (c.toNat:Int)=false:=by decide) (h2:(c.toNat:Int)≠61:=by decide):NWr (.sp c :: l):=⟨h,h2⟩
theorem Zf9 {c:UInt8} (h:c≠61):(⟨#[c]⟩:ByteArray)≠s_eq:=by
 intro e;have e2:(#[c]:Array UInt8)=#[61]:=congrArg ByteArray.data e;simp at e2;exact h e2
theorem Spd.sg {c:UInt8} (h:Spd l) (hc:Z3u (c.toNat:Int)=true:=by decide) (h2:c≠61:=by decide):Spd (sg c :: l):=
 ⟨.inr (.inr (.inr (.inr ⟨rfl,rfl,.inl ⟨c,rfl,hc⟩⟩))),⟨fun h=>by omega,fun _ e=>absurd e (Zf9 h2)⟩,h⟩
theorem Spd.sp (h:Spd l):Spd (sp :: l):=⟨.inl rfl,trivial,h⟩
theorem Spd.nl (h:Spd l):Spd (.sp 10 :: l):=⟨.inr rfl,trivial,h⟩
theorem Spd.eq (h:Spd l):Spd (Go.Proofs.YtfgpdfcpkibkoaaGreatDoor.sg 61 :: Go.Proofs.YtfgpdfcpkibkoaaGreatDoor.sp :: l):=
 ⟨.inr (.inr (.inr (.inr ⟨rfl,rfl,.inl ⟨61,rfl,by decide⟩⟩))),⟨fun h=>by omega,fun _ _=>by rw [Zir]; decide⟩,h.sp⟩
theorem Spd.three {s:ByteArray} (hs:s=Z2c∨s=s_or∨s=Z43) (h:Spd l):Spd (.t 5 s 0 :: l):=
 ⟨.inr (.inr (.inr (.inr ⟨rfl,rfl,.inr hs⟩))),⟨fun h=>by omega,fun _ e=>by subst e; rcases hs with h | h | h <;> exact absurd h (by decide)⟩,h⟩
theorem Spd.nm {s:ByteArray} (hs:Z1q s) (h:Spd l) (hn:NWr l):Spd (nm s :: l):=⟨.inl ⟨rfl,rfl,hs⟩,⟨fun _=>hn.1,fun h=>by omega⟩,h⟩
theorem Spd.wd {s:ByteArray} (hs:Z3o s) (h:Spd l) (hn:NWr l):Spd (wd s :: l):=⟨.inr (.inl ⟨rfl,rfl,hs⟩),⟨fun _=>hn.1,fun h=>by omega⟩,h⟩
theorem Spd.num {n:Int} (h0:0≤n) (h1:n≤1000000000) (h:Spd l) (hn:NWr l):Spd (.t 3 ByteArray.empty n :: l):=⟨.inr (.inr (.inl ⟨rfl,rfl,h0,h1⟩)),⟨fun _=>hn.1,fun h=>by omega⟩,h⟩
theorem Spd.str {s:ByteArray} (h0:s.size≤500) (h:Spd l):Spd (.t 4 s 0 :: l):=⟨.inr (.inr (.inr (.inl ⟨rfl,rfl,h0⟩))),⟨fun h=>by omega,fun h=>by omega⟩,h⟩
end
theorem Zhv:Z3o Z5y:=⟨by decide,by decide,by decide,by kernel_rfl⟩
theorem Zhz:Z3o Z5u:=⟨by decide,by decide,by decide,by kernel_rfl⟩
theorem Zcr:Z3o Z2j:=⟨by decide,by decide,by decide,by kernel_rfl⟩
theorem Z7e:Z3o Z0c:=⟨by decide,by decide,by decide,by kernel_rfl⟩
theorem w_if:Z3o s_if:=⟨by decide,by decide,by decide,by kernel_rfl⟩
theorem Zi6:Z3o Z1z:=⟨by decide,by decide,by decide,by kernel_rfl⟩
theorem Zcw:Z3o Z2h:=⟨by decide,by decide,by decide,by kernel_rfl⟩
theorem Zg7:Z3o Z3s:=⟨by decide,by decide,by decide,by kernel_rfl⟩
theorem Zej:Z3o Z1s:=⟨by decide,by decide,by decide,by kernel_rfl⟩
theorem Zga:Z3o Z2g:=⟨by decide,by decide,by decide,by kernel_rfl⟩
theorem Zhm:Z3o Z4p:=⟨by decide,by decide,by decide,by kernel_rfl⟩
theorem Zdg:Z3o Z1i:=⟨by decide,by decide,by decide,by kernel_rfl⟩
theorem Z85:Z3o Zt:=⟨by decide,by decide,by decide,by kernel_rfl⟩
theorem Zei:Z3o Z14:=⟨by decide,by decide,by decide,by kernel_rfl⟩
theorem Zfo:Z3o Z18:=⟨by decide,by decide,by decide,by kernel_rfl⟩
theorem Zih {k:Int}:Z3o (Z5o k):=by
 unfold Z5o;split;·exact ⟨by decide,by decide,by decide,by kernel_rfl⟩
 ·split;·exact ⟨by decide, by decide, by decide, by kernel_rfl⟩
  ·split;·exact ⟨by decide, by decide, by decide, by kernel_rfl⟩
   ·exact ⟨by decide,by decide,by decide,by kernel_rfl⟩
theorem Zcn {k:Int} {l:List Pc} (h1:25≤k) (h2:k≤34) (h:Spd l):Spd (sgnP k ++ l):=by
 unfold sgnP;split;·exact (Spd.three (.inr (.inl rfl)) h.sp).sp
 split;·exact (Spd.three (.inr (.inr rfl)) h.sp).sp
 split;·exact (Spd.three (.inl rfl) h.sp).sp
 split;·exact h.sp.sg.sp
 split;·exact h.sp.sg.sp
 split;·exact h.sp.sg.sp
 split;·exact h.sp.sg.sp
 split;·exact h.sg
 split;·exact h.sp.wd Zei .sp
 ·exact h.sp.wd Zfo .sp
theorem Zhr {k:Int} {l:List Pc} (h1:25≤k) (h2:k≤31):NWr (sgnP k ++ l):=by
 unfold sgnP;split;·exact .sp
 split;·exact .sp
 split;·exact .sp
 split;·exact .sp
 split;·exact .sp
 split;·exact .sp
 split;·exact .sp
 ·omega
theorem Zak {k:Int} {l:List Pc} (h:Spd l) (hn:NWr l):Spd (Z3j k ++ l):=by
 unfold Z3j;split;·exact h.sp.wd Zhv .sp
 split;·exact h.sp.wd Zhz .sp
 split;·exact h.sp.wd Zcr .sp
 split;·exact h.sp.wd w_if .sp
 split;·exact h.sp.wd Zcw .sp
 split;·exact h.sp.wd Zg7 .sp
 split;·exact h.wd Zej hn
 ·exact h.wd Zga hn
theorem Z3z {k:Int} {l:List Pc} (hk:k≠10∧k≠11) (hk2:k=2∨k=3∨k=4∨k=7∨k=8∨k=9) (h:Spd l):Spd (Z3j k ++ l):=by
 unfold Z3j;split;·exact h.sp.wd Zhv .sp
 split;·exact h.sp.wd Zhz .sp
 split;·exact h.sp.wd Zcr .sp
 split;·exact h.sp.wd w_if .sp
 split;·exact h.sp.wd Zcw .sp
 split;·exact h.sp.wd Zg7 .sp
 ·omega
def Zhq:Srt→List Tree→Prop
 | .v,[x]=>∀ need rest,NWr rest→Spd rest→Spd (vP x need ++ rest)
 | .vl,l=>∀ first rest,NWr rest→Spd rest→Spd (lP first l ++ rest)
 | .ol,l=>∀ first rest,NWr rest→Spd rest→Spd (lP first l ++ rest)
 | .pl,l=>∀ first rest,NWr rest→Spd rest→Spd (lP first l ++ rest)
 | .b,[x]=>∀ rest,Spd rest→Spd (sP x ++ rest)
 | .k,[x]=>∀ rest,Spd rest→Spd (sP x ++ rest)
 | .s,[x]=>∀ rest,Spd rest→Spd (sP x ++ rest)
 | .sl,l=>∀ first rest,Spd rest→Spd (bP first l ++ rest)
 | _,_=>True
theorem Zae {l:List Tree} {rest:List Pc} (h:NWr rest):NWr (lP false l ++ rest):=by
 cases l with
 | nil=>rw [Z2z]; exact h
 | cons x l=>rw [Z1p]; exact .sg
theorem Z5b {k:Int} {t:ByteArray} {n:Int} {ks:List Tree} (h:∀ rest,NWr rest→Spd rest→Spd (vbP k t n ks ++ rest)) (need:Int) (rest:List Pc) (h1:NWr rest) (h2:Spd rest):Spd (vP (.mk k t n ks) need ++ rest):=by
 rw [Z5m,Zaq];split;·exact (h _ .sg h2.sg).sg
 ·exact h _ h1 h2
theorem Za9 {first:Bool} {l:List Pc} (h:Spd l):Spd (sepP first [sg 44,sp] ++ l):=by
 cases first
 ·exact h.sp.sg
 ·exact h
theorem Zez {first:Bool} {l:List Pc} (h:Spd l):Spd (sepP first [sp] ++ l):=by
 cases first
 ·exact h.sp
 ·exact h
theorem Zg6 {s:ByteArray} (hs:s=ByteArray.empty∨Z1q s) {l b rest:List Pc} (hl:∀ rest,NWr rest→Spd rest→Spd (l ++ rest)) (hb:Spd (b ++ rest)):Spd (fnP s l b ++ rest):=by
 have h1:Spd (sg 40 :: (l ++ (sg 41 :: sp :: (b ++ rest)))):=(hl _ .sg hb.sp.sg).sg;unfold fnP;by_cases hz:s.size=0
 ·rw [Y5 hz];have:=h1.wd Z7e .sg;simpa using this
 ·rw [Y3 hz];have hn:Z1q s:=hs.resolve_left fun e=>hz (by rw [e]; rfl);have:=((h1.nm hn .sg).sp).wd Z7e .sp;simpa using this
theorem Zic {c:Srt} {l:List Tree} (h:Wf c l):Zhq c l:=by
 induction h with
 | num h0 h1=>exact Z5b fun rest g1 g2=>by rw [Z6f]; exact g2.num h0 h1 g1
 | str h0=>exact Z5b fun rest g1 g2=>by rw [Z7f]; exact g2.str h0
 | con h0 h1=>exact Z5b fun rest g1 g2=>by rw [Z50 h0 h1]; exact g2.wd Zih g1
 | name h0=>exact Z5b fun rest g1 g2=>by rw [Z37]; exact g2.nm h0 g1
 | set hk _ _ ih1 ih2 =>
   exact Z5b fun rest g1 g2=>by
    rw [Z7b,List.append_assoc];exact ih1 8 _ .sp (Spd.eq (ih2 0 rest g1 g2)).sp
 | two h0 h1 _ _ ih1 ih2 =>
   exact Z5b fun rest g1 g2=>by
    rw [Z48 h0 h1,List.append_assoc,List.append_assoc];exact ih1 _ _ (Zhr h0 h1) (Zcn h0 (by omega) (ih2 _ rest g1 g2))
 | one h0 h1 _ ih1 =>
   exact Z5b fun rest g1 g2=>by
    rw [Z64 h0 h1,List.append_assoc];exact Zcn (by omega) (by omega) (ih1 _ rest g1 g2)
 | mem hs _ ih1 =>
   exact Z5b fun rest g1 g2=>by
    rw [Z71,List.append_assoc];exact ih1 _ _ .sg (g2.nm hs g1).sg
 | call _ _ ih1 ih2 =>
   exact Z5b fun rest g1 g2=>by
    rw [Z4i,List.append_assoc];have:=ih2 true (sg 41 :: rest) .sg g2.sg;exact ih1 _ _ .sg (by simpa using this.sg (c:=40))
 | lam hs _ _ ih1 ih2 =>
   exact Z5b fun rest g1 g2=>by
    rw [Z7i];exact Zg6 hs (ih1 true) (ih2 _ g2)
 | obj _ ih1 =>
   exact Z5b fun rest g1 g2=>by
    rw [Z74];have:=ih1 true (sg 125 :: rest) .sg g2.sg;simpa using this.sg (c:=123)
 | vnil=>intro first rest g1 g2; rw [Z2z]; exact g2
 | vcons _ _ ih1 ih2=>intro first rest g1 g2; rw [Z1p,List.append_assoc,List.append_assoc]; exact Za9 (ih1 _ _ (Zae g1) (ih2 _ _ g1 g2))
 | onil=>intro first rest g1 g2; rw [Z2z]; exact g2
 | ocons hs _ _ ih1 ih2 =>
   intro first rest g1 g2
   rw [Z1p,List.append_assoc,List.append_assoc];refine Za9 (Z5b (fun rest g1 g2=>?_) _ _ (Zae g1) (ih2 _ _ g1 g2));rw [Z7z];exact ((ih1 0 _ g1 g2).sp.sg).nm hs .sg
 | pnil=>intro first rest g1 g2; rw [Z2z]; exact g2
 | pcons hs _ ih =>
   intro first rest g1 g2
   rw [Z1p,List.append_assoc,List.append_assoc];refine Za9 (Z5b (fun rest g1 g2=>?_) _ _ (Zae g1) (ih _ _ g1 g2));rw [Z37];exact g2.nm hs g1
 | body _ ih=>intro rest g2; rw [Z42]; have:=ih true (sg 125 :: rest) g2.sg; simpa using this.sg (c:=123)
 | block _ ih=>intro rest g2; rw [Z42]; have:=ih true (sg 125 :: rest) g2.sg; simpa using this.sg (c:=123)
 | decl0 hk hs =>
   intro rest g2;rw [Z5i (by omega),List.append_assoc];exact Z3z (by omega) (by omega) ((g2.sg (c:=59)).nm hs .sg)
 | decl1 hk hs _ ih =>
   intro rest g2;rw [Z4l hk,List.append_assoc];have:=ih 0 (sg 59 :: rest) .sg g2.sg;refine Z3z (by omega) (by omega) ?_;simpa using (Spd.eq this).sp.nm hs .sp
 | func hs _ _ ih1 ih2=>intro rest g2; rw [Z8s]; exact Zg6 (.inr hs) (ih1 true) (ih2 _ g2)
 | blk _ ih=>exact ih
 | if2 _ _ ih1 ih2 =>
   intro rest g2;rw [Z6y (.inl rfl),List.append_assoc];refine Z3z (by omega) (by omega) ?_;simpa using (ih1 0 _ .sg ((ih2 _ g2).sp.sg (c:=41))).sg (c:=40)
 | if3 _ _ _ _ ih1 ih2 ih3 =>
   intro rest g2;rw [Zc3,List.append_assoc];refine Z3z (by omega) (by omega) ?_;simpa using (ih1 0 _ .sg ((ih2 _ (((ih3 _ g2).sp.wd Zi6 .sp).sp)).sp.sg (c:=41))).sg (c:=40)
 | loop hk _ _ ih1 ih2 =>
   intro rest g2;rw [Z6y (.inr hk),List.append_assoc];refine Z3z (by omega) (by omega) ?_;simpa using (ih1 0 _ .sg ((ih2 _ g2).sp.sg (c:=41))).sg (c:=40)
 | ret0=>intro rest g2; rw [Z8g (.inl rfl),List.append_assoc]; exact Zak g2.sg .sg
 | ret1 hk _ ih=>intro rest g2; rw [Z77 hk,List.append_assoc]; exact Zak (by simpa using (ih 0 (sg 59 :: rest) .sg g2.sg).sp) .sp
 | tryc _ hs _ ih1 ih2 =>
   intro rest g2;rw [Z44,Z4h,Z5k];have h1:=ih2 rest g2;have h2:=ih1 _ ((((h1.sp.sg (c:=41)).nm hs .sg).sg (c:=40)).sp.wd Zdg .sp).sp;simpa using (h2.sp.wd Zhm .sp)
 | tryf _ _ ih1 ih2 =>
   intro rest g2;rw [Z44,Z2t,Z5k];have h1:=ih2 rest g2;have h2:=ih1 _ ((h1.sp.wd Z85 .sp).sp);simpa using (h2.sp.wd Zhm .sp)
 | trycf _ hs _ _ ih1 ih2 ih3 =>
   intro rest g2;rw [Z44,Z4h,Z2t,Z5k];have h0:=ih3 rest g2;have h1:=ih2 _ ((h0.sp.wd Z85 .sp).sp);have h2:=ih1 _ ((((h1.sp.sg (c:=41)).nm hs .sg).sg (c:=40)).sp.wd Zdg .sp).sp;simpa using (h2.sp.wd Zhm .sp)
 | empty=>intro rest g2; rw [Z6g]; exact g2.sg
 | expr _ ih =>
   intro rest g2;rw [Z70,List.append_assoc];unfold Z83;rw [Zaq];split;·exact (ih 0 _ .sg (g2.sg (c:=59)).sg).sg
   ·exact ih 0 _ .sg g2.sg
 | snil=>intro first rest g2; rw [Z52]; exact g2
 | scons _ _ ih1 ih2=>intro first rest g2; rw [Z35,List.append_assoc,List.append_assoc]; exact Zez (ih1 _ (ih2 _ _ g2))
theorem Zaj:∀ {l:List Tree},Wf .sl l→Spd (pP l)
 | [],_=>trivial
 | x :: l, h => by
   cases h with
   | scons h1 h2=>exact Zic h1 _ (Zaj h2).nl
end Go.Proofs.YtfgpdfcpkibkoaaGreatDoor
namespace Go.Proofs
def Tryz.lays137_ren:Go.Shelf.Ren:=⟨fun | 137=>31 | 217=>48 | 266=>66 | n=>n,fun | 9=>9 | 5=>5 | 3=>3 | n=>n,fun | n=>n⟩
theorem Tryz.lays137:Go.Proofs.Lays.n137 Tryz.prog Tryz.lays137_ren:={
 mixed:=by kernel_rfl
 f137:=Tryz.func31.trans (congrArg some (by kernel_rfl))
 f217:=Tryz.func48.trans (congrArg some (by kernel_rfl))
 f266:=Tryz.func66.trans (congrArg some (by kernel_rfl))
 t3:=Tryz.underlying3
 a3:=Tryz.isAgg3
 z3:=Tryz.sizeOf3
 v3:=Tryz.zeroValue3
 t5:=Tryz.underlying5
 a5:=Tryz.isAgg5
 z5:=Tryz.sizeOf5
 v5:=Tryz.zeroValue5
 t9:=Tryz.underlying9
 a9:=Tryz.isAgg9
 z9:=Tryz.sizeOf9
 v9:=Tryz.zeroValue9 }
open Go.RowKit in
theorem Tryz.strings_IndexByte (s:ByteArray) (c:Int) (w:World) :
 Calls Tryz.prog 31 #[.string s,.int .u8 c] w fun e w'=>e=.returned (.int .i64 (Lib.indexByte s.data.toList c.toNat.toUInt8))∧w'=w:=Any.strings_IndexByte Tryz.lays137 s c w
end Go.Proofs
namespace Go.Proofs.YtfgpdfcpkibkoaaGreatDoor
open Go Go.RowKit
set_option maxRecDepth 100000
theorem ScanAt.bfr {w0 w w':World} {sb b B a:Nat} {text:ByteArray} {p v v':Value} {bs:List Value} (h:ScanAt w0 w sb text a) (hb:BAt B w b p v bs) (hs:sb < B) (h0:w0.heap.size≤B) (f:BFr w w' b v v'):ScanAt w0 w' sb text a:=by
 have hr:∀ k,k < B→v.ownBlock≠some k:=fun k hk e=>by have:=(hb.own.lt k e).1; omega
 have hle:=hb.le
 exact ⟨(f.block sb h.lt (by omega) (hr sb hs)).trans h.blk,f.os.trans h.os,f.tape.trans h.tape,f.output.trans h.output,Y4 h.size f.size,
  fun k hk hn=>(f.block k (Y7 hk h.size) (by omega) (hr k (by omega))).trans (h.block k hk hn)⟩
theorem BAt.set {B:Nat} {w:World} {b sb:Nat} {p v:Value} {bs:List Value} (h:BAt B w b p v bs) (hs:sb < B) (x:Value):BAt B (w.setCell ⟨sb,1,none⟩ x) b p v bs:=by
 have hle:=h.le;exact ⟨(Y8 _ _ _ _ (by simp; omega)).trans h.blk,h.ptr,Zr h.own fun g hg=>Y8 _ _ _ _ (by have:=(h.own.lt g hg).1; simp; omega),h.ne,h.le⟩
theorem BAt.drew {B:Nat} {w:World} {b:Nat} {p v:Value} {bs:List Value} (h:BAt B w b p v bs):BAt B w.drew b p v bs:=⟨h.blk,h.ptr,h.own,h.ne,h.le⟩
theorem BAt.new (w:World):BAt w.heap.size (w.alloc (.cells #[.pointer none,.slice none 0 0] 41)) w.heap.size (.pointer none) (.slice none 0 0) []:=
 ⟨heap_alloc_new w _,.inl rfl,World.ownsRow_nil _ _ _ _,by simp [Value.ownBlock],Y0 _⟩
end Go.Proofs.YtfgpdfcpkibkoaaGreatDoor
