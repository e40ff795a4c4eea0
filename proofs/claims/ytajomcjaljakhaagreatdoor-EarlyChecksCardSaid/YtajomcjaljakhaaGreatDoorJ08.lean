/- Package hoist: Vars; tree.Strict. -/
import Derived.Test.YtajomcjaljakhaaGreatDoorJ07
import Derived.Lib.OwnKind
import Derived.LaidEql
import Derived.Maps.RangeRun
namespace Go.Proofs.YtajomcjaljakhaaGreatDoor
open Go Go.RowKit
set_option maxRecDepth 100000
set_option maxHeartbeats 20000000
set_option linter.unusedVariables false
def Z3w (a:ATree):List ByteArray:=Z1v Z27 a.kids []
theorem Z04.base {w:World} {B B':Nat} {v:Value} {l:List ByteArray} (h:Z04 w B v l) (hB:B'≤B):Z04 w B' v l:=by
 refine ⟨h.1,?_⟩;rcases h.2 with hn | ⟨g,cap,cur,h1,h2,rest⟩;·exact .inl hn
 ·exact .inr ⟨g,cap,cur,h1,by omega,rest⟩
theorem Z5q (l:List ATree):(Z1r l).length=Z1q l:=by
 have key:∀ n,∀ l:List ATree,Z1q l≤n→(Z1r l).length=Z1q l:=by
  intro n;induction n with
  | zero =>
    intro l hl;cases l with
    | nil=>rfl
    | cons a l=>exfalso; obtain ⟨b,v,k,t,m,ks⟩:=a; simp only [Z1q,ATree.many] at hl; omega
  | succ n ih =>
    intro l hl;cases l with
    | nil=>rfl
    | cons a l =>
      obtain ⟨b,v,k,t,m,ks⟩:=a;simp only [Z1q,ATree.many] at hl ⊢;have h1:=ih ks (by omega);have h2:=ih l (by omega);simp only [Z1r,ATree.subs,List.length_append,List.length_cons,h1,h2]
 exact key _ l (Y5 _)
theorem Z95 (a:ATree):a.kids.length≤a.many:=by
 have key:∀ l:List ATree,l.length≤Z1q l:=by
  intro l;induction l with
  | nil=>simp [Z1q]
  | cons x l ih=>obtain ⟨b,v,k,t,m,ks⟩:=x; simp only [List.length_cons,Z1q,ATree.many]; omega
 obtain ⟨b,v,k,t,m,ks⟩:=a;have:=key ks;simp only [ATree.kids,ATree.many];omega
theorem Zgq {w:World} {B:Nat}:∀ {a x:ATree},TreeAt w B a→x∈a.subs→TreeAt w B x:=by
 have key:∀ n,∀ a x:ATree,a.many≤n→TreeAt w B a→x∈a.subs→TreeAt w B x:=by
  intro n;induction n with
  | zero=>intro a x h; exfalso; obtain ⟨b,v,k,t,m,ks⟩:=a; simp only [ATree.many] at h; omega
  | succ n ih =>
    intro a x hn hT hx;obtain ⟨b,v,k,t,m,ks⟩:=a;simp only [ATree.subs,List.mem_cons] at hx;rcases hx with rfl | hx;·exact hT
    ·have:∀ l:List ATree,(∀ y∈l,y∈ks)→x∈Z1r l→TreeAt w B x:=by
      intro l;induction l with
      | nil=>intro _ h; simp [Z1r] at h
      | cons y l ih2 =>
        intro hl h;simp only [Z1r,List.mem_append] at h;rcases h with h | h
        ·have hy:y∈(ATree.mk b v k t m ks).kids:=hl y (by simp);exact ih y x (by have:=Z2l hy; omega) (hT.kid hy) h
        ·exact ih2 (fun z hz=>hl z (List.mem_cons_of_mem _ hz)) h
     exact this ks (fun y h=>h) hx
 intro a x hT hx;exact key _ a x (Y5 _) hT hx
def Z53 (a:ATree):List ByteArray:=(Z1r a.kids).map ATree.text
theorem Zcw {a k x:ATree} (h:k∈a.kids) (hx:x∈k.subs):x.text∈Z53 a:=by
 unfold Z53;refine List.mem_map_of_mem ?_;have key:∀ l:List ATree,k∈l→x∈Z1r l:=by
  intro l;induction l with
  | nil=>intro h; cases h
  | cons y l ih =>
    intro h;simp only [Z1r,List.mem_append];rcases List.mem_cons.1 h with rfl | h;·exact .inl hx
    ·exact .inr (ih h)
 exact key _ h
theorem Zlr (w:World) (B:Nat) (a k:ATree) (hT:TreeAt w B a) (hm:a.many < 1099511627776) (hk:k∈a.kids) (l:List ByteArray) (w1:World) (hI:VInv w w.heap.size (Z53 a) l w1) :
 Calls Tryz.prog 33 #[k.ptr,.func (.func 78) #[] #[.pointer (some ⟨w.heap.size,0,none⟩)]] w1 fun e w'=>e=.returned (.tuple #[])∧VInv w w.heap.size (Z53 a) (Z5d Z27 k l) w':=
 Zl9 ⟨w.heap.size,0,none⟩ (VInv w w.heap.size (Z53 a)) Z27 B k.many k (Y5 _) (fun s w1 h=>h.tree (hT.kid hk) (Y5 _))
  l (fun x s hx w1 h=>Zhu w w.heap.size B (Z53 a) (by unfold Z53; rw [Yv,Z5q]; obtain ⟨b,v,kk,t,m,ks⟩:=a; simp only [ATree.many] at hm; simp only [ATree.kids]; omega) (Y5 _) x (Zgq (hT.kid hk) hx.sub) (Zcw hk hx.sub) s w1 h) w1 hI
theorem Zdz (w:World) (B:Nat) (a:ATree) (hT:TreeAt w B a) (hm:a.many < 1099511627776) :
 Calls Tryz.prog 38 #[a.ptr] w fun e w'=>∃ v,e=.returned v∧Z04 w' w.heap.size v (Z3w a)∧Below w.heap.size w w'∧(Z3w a).length≤a.many:=by
 have HW:=lh (Zlr w B a · hT hm);have hmf:∀ (fn:Fn) (first cap:Array Value) (w:World),(Instr.makeFunc fn first cap).run Tryz.prog w=.ok (.func fn first cap) w:=fun _ _ _ _=>rfl;have hblk:=hT.blkOf;obtain ⟨p,cp,hv,hge,hmx⟩:=hT.vOf;have c3:w.cell? ⟨a.b,3,none⟩=some (.slice p a.kids.length cp):=by rw [← hv]; exact hT.c3
 have hlen:a.kids.length≤9223372036854775807:=by unfold maxLen at hmx; omega
 have hab:=hT.lt;have c3':(w.alloc (.cells #[.slice none 0 0] 53)).cell? ⟨a.b,3,none⟩=some (.slice p a.kids.length cp):=(Z5 hab).trans c3;have HT:=lh hT;have HV:=lh hv;have HM:=lh hm;unfold ATree.ptr;obtain ⟨n,hnn⟩:=zX a.kids.length
 rw [← hnn] at c3 hlen hge c3';have HN:=lh hnn;have hstart:VInv w w.heap.size (Z53 a) [] (w.alloc (.cells #[.slice none 0 0] 53)):=
  ⟨⟨_,by rw [World.alloc]; simp,Z04.nil _ _⟩,(Y8 _ _).alloc (Y5 _) _,List.nodup_nil,fun _ h=>by cases h⟩
 have HS:=lh hstart;clear hblk hv hnn hT hstart hm;go_enter Tryz.func38,Tryz.ntmps38
 go_wp2_with fail
 go_loopw [13] (fun i wr=>∃ (k:Nat),k≤n∧i=.int .i64 k∧Hid (VInv w w.heap.size (Z53 a) (Z1v Z27 (a.kids.take k) []) wr)) (fun i _=>n - (intOf i).toNat)
 case atStart=>exact ⟨0,Yp _,rfl,lh (by simpa [Z1v] using HS.out)⟩
 case round=>
  obtain ⟨k,hk,rfl,HI⟩:=hrel;by_cases hkn:k < n
  ·obtain ⟨x, hx⟩ : ∃ x, a.kids[k]? = some x := ⟨_, Yd (by rw [← HN.out]; exact hkn)⟩
   have hT2:=HI.out.tree HT.out (Y5 _);have hrow:=hT2.rowOf;rcases Zb hrow with ⟨_,h2⟩ | ⟨g0,cap0,hv0,_⟩;·rw [← HN.out] at h2; omega
   have hp:p=some ⟨g0,0,none⟩:=by
    have:=HV.out.symm.trans hv0;simp only [Value.slice.injEq] at this;exact this.1
   subst hp;have cx:=Zi hrow (g:=g0) (by rw [hv0]; rfl) (i:=k) (x:=x.ptr) (by rw [Yo,hx]; rfl);have hcall:=HW.out x (Yl hx) _ _ HI.out;unfold ATree.ptr at cx hcall;have HCALL:=lh hcall;have HX:=lh hx;clear hT2 hrow hv0 hx hcall;go_wp2_with fail
   refine HCALL.out.mono ?_;rintro e w1 ⟨rfl,hI1⟩;have HI1:=lh hI1;clear hI1 HCALL;go_wp2;go_roundw
   case rel=>exact ⟨k + 1,by omega,by go_num,lh (by rw [Z0w HX.out,Z62]; exact HI1.out)⟩
   case measure=>simp [intOf]; omega
  ·have hk2 : k = n := by omega
   subst hk2;obtain ⟨v,hb,htx⟩:=HI.out.cell;have cc:wr.cell? ⟨w.heap.size,0,none⟩=some v:=by simp [World.cell?,hb]
   have HTX:=lh htx;clear hb htx;go_wp2;go_ret;have hall:Z1v Z27 (a.kids.take k) []=Z3w a:=by rw [Ym (by rw [← HN.out]; exact Y5 _)]; rfl
   rw [← hall];refine ⟨_,rfl,HTX.out.base (Nat.le_succ _),HI.out.bel,?_⟩;have:=Zc9 _ _ HI.out.nd HI.out.sub;refine Ya this ?_;unfold Z53;rw [Yv,Z5q];obtain ⟨b,v,kk,t,m,ks⟩:=a;simp only [ATree.many,ATree.kids];omega
def Z0r (a:ATree):Bool:=Zp a.text Z03 && (a.kind == 1 || a.kind == 6)
def Z19 (l:List ByteArray) (ks:List ATree):List ByteArray:=ks.foldl (fun l k=>addL l k.text) l
theorem Z5g (l:List ByteArray) (ks:List ATree) (k:ATree):Z19 l (ks ++ [k])=addL (Z19 l ks) k.text:=by simp [Z19,List.foldl_append]
theorem Z3h (l:List ByteArray) (ks:List ATree):(Z19 l ks).length≤l.length + ks.length:=by
 induction ks generalizing l with
 | nil=>simp [Z19]
 | cons k ks ih =>
   have h1:=ih (addL l k.text);have h2:=Z8j l k.text;simp only [Z19,List.foldl_cons,List.length_cons] at h1 ⊢;omega
def Z3y (body:Bool) (a:ATree):List ByteArray:=Z19 (Z19 (if body then Z3w a else []) (a.kids.filter Z1i)) (a.kids.filter Z2g)
theorem Z0q.far {w w':World} {B B':Nat} {v v':Value} {l:List ATree} {ks:List ByteArray} (h:Z0q w B v l) (ht:Z04 w B' v' ks) (hf:∀ k,k < w.heap.size→v'.ownBlock≠some k→w'.heap[k]?=w.heap[k]?):Z0q w' B v l:=by
 refine Zg h fun k hk=>hf k (Yh h k hk).2 fun e=>?_;obtain ⟨c1,f1,h1⟩:=Lib.ownsRow_kind h k hk;obtain ⟨c2,f2,h2⟩:=Lib.ownsRow_kind ht k e;rw [h1] at h2;simp only [Option.some.injEq,Obj.cells.injEq] at h2;exact absurd h2.2.1 (by decide)
theorem Zfe (w:World) (B0:Nat) (a:ATree) (hT:TreeAt w B0 a) (hm:a.many < 274877906944) :
 Calls Tryz.prog 84 #[a.ptr,.bool true] w fun e w'=>∃ v,e=.returned v∧Z04 w' w.heap.size v (Z3y true a)∧Below w.heap.size w w':=by
 have hkl:=Z95 a;have HT:=lh hT;have hfu:(a.kids.filter Z1i).length≤a.kids.length:=List.length_filter_le _ _;have hle:(a.kids.filter Z2g).length≤a.kids.length:=List.length_filter_le _ _;have hfk:∀ x,x∈a.kids.filter Z1i→x∈a.kids:=fun x hx=>(List.mem_filter.1 hx).1;have hlk:∀ x,x∈a.kids.filter Z2g→x∈a.kids:=fun x hx=>(List.mem_filter.1 hx).1;have HFK:=lh hfk;have HLK:=lh hlk;have hF:=fun (w':World) (h:TreeAt w' B0 a)=>Z8r w' B0 a h (by omega);have hL:=fun (w':World) (h:TreeAt w' B0 a)=>Z8f w' B0 a h (by omega)
 obtain ⟨P,hP⟩:=zX (a.kids.filter Z1i)
 obtain ⟨Q,hQ⟩:=zX (a.kids.filter Z2g)
 unfold Z3y;simp only [if_true];rw [← hP] at hfu HFK;rw [← hQ] at hle HLK;simp only [← hP] at hF;simp only [← hQ] at hL;rw [← hP,← hQ];clear hP hQ hfk hlk hT;have HF:=lh hF;have HL:=lh hL;clear hF hL;have hV:=Zdz w B0 a HT.out (by omega);obtain ⟨l0,hl0⟩:=zX (Z3w a)
 rw [← hl0] at hV ⊢;have HV:=lh hV;clear hV hl0;unfold ATree.ptr at HF HL HV ⊢;go_enter Tryz.func84,Tryz.ntmps84
 go_wp2_with fail
 refine HV.out.mono ?_;rintro e w1 ⟨v1,rfl,ht1,hb1,hl1⟩;have TX1:=lh ht1;have HB1:=lh hb1;clear HV ht1 hb1;go_wp2_with fail
 refine (HF.out w1 (HT.out.bel HB1.out)).mono ?_;rintro e w2 ⟨v2,rfl,hn2,hb2⟩;obtain ⟨p2,cp2,rfl,hge2,hmx2⟩:∃ p cp,v2=.slice p P.length cp∧P.length≤cp∧cp≤maxLen:=by
  rcases hn2.form with ⟨h1,h2⟩ | ⟨g,cap,h1,h2,h3⟩;·exact ⟨none,0,by rw [h1,h2]; rfl,by rw [h2]; exact Y5 _,by unfold maxLen; omega⟩
  ·exact ⟨_,_,h1,h2,h3⟩
 have TX2:=lh (TX1.out.bel hb2);have HB2:=lh (HB1.out.trans (hb2.mono HB1.out.size));have N2:=lh hn2;obtain ⟨m,hm1⟩:=zX P.length
 have hmq:m≤9223372036854775807:=by unfold maxLen at hmx2; omega
 rw [← hm1] at hge2 N2 hfu ⊢;have HM1:=lh hm1;clear hn2 hb2 hm1 TX1 HB1;go_wp2_with fail
 go_loopw [5,16] (fun v i wr=>∃ (k:Nat) (v':Value),v'=v∧k≤m∧i=.int .i64 k∧Hid (Z04 wr w.heap.size v' (Z19 l0 (P.take k)))∧Hid (Z0q wr w1.heap.size (.slice p2 m cp2) P)∧Hid (Below w.heap.size w wr)) (fun _ i _=>m - (intOf i).toNat)
 case atStart=>exact ⟨0,_,rfl,Yp _,rfl,TX2,N2,HB2⟩
 case round=>
  obtain ⟨k,v,rfl,hk,rfl,TX,NO,HB⟩:=hrel;clear TX2 N2 HB2;by_cases hkn:k < m
  ·obtain ⟨x, hx⟩ : ∃ x, P[k]? = some x := ⟨_, Yd (by rw [← HM1.out]; exact hkn)⟩
   obtain ⟨g0,hp⟩:∃ g,p2=some ⟨g,0,none⟩:=by
    rcases NO.out.form with ⟨h1,h2⟩ | ⟨g,cap,h1,_⟩;·rw [h2] at hx; simp at hx
    ·simp only [Value.slice.injEq] at h1; exact ⟨g,h1.1⟩
   subst hp;have cx:=NO.out.cell rfl hx;have hTx:=(HT.out.bel HB.out).kid (HFK.out x (Yl hx));have c1:=hTx.c1;have hln:(Z19 l0 (P.take k)).length < 1099511627776:=by
    have:=Z3h l0 (P.take k);have h3:(P.take k).length≤k:=by simp; omega
    have h4:=HM1.out;omega
   have HA:=lh (Z97 wr w.heap.size v _ x.text TX.out HB.out.size hln);have HX:=lh hx;clear hTx hx hln;go_wp2_with fail
   refine HA.out.mono ?_;rintro e w3 ⟨v3,rfl,ht3,hb3,hf3⟩;have hsn:Z19 l0 (P.take (k + 1))=addL (Z19 l0 (P.take k)) x.text:=by rw [Z0w HX.out,Z5g]
   have TX3:Hid (Z04 w3 w.heap.size v3 (Z19 l0 (P.take (k + 1)))):=lh (by rw [hsn]; exact ht3);have N3:=lh (NO.out.far TX.out hf3);have HB3:=lh (HB.out.trans hb3);clear HA ht3 hb3 hf3 hsn;go_wp2;go_roundw
   case rel=>exact ⟨k + 1,_,rfl,by omega,by go_num,TX3,N3,HB3⟩
   case measure=>simp [intOf]; omega
  ·have hk2 : k = m := by omega
   subst hk2;have hend:Z04 wr w.heap.size v (Z19 l0 P):=by
    have:=TX.out;rwa [Ym (by rw [← HM1.out]; exact Y5 _)] at this
   have TX3:=lh hend;have hl3:=Z3h l0 P;obtain ⟨l1,hl1⟩:=zX (Z19 l0 P)
   rw [← hl1] at TX3 hl3;have HL1:=lh hl1;clear hend TX NO hl1;go_wp2_with fail
   refine (HL.out wr (HT.out.bel HB.out)).mono ?_;rintro e w4 ⟨v4,rfl,hn4,hb4⟩;obtain ⟨p4,cp4,rfl,hge4,hmx4⟩:∃ p cp,v4=.slice p Q.length cp∧Q.length≤cp∧cp≤maxLen:=by
    rcases hn4.form with ⟨h1,h2⟩ | ⟨g,cap,h1,h2,h3⟩;·exact ⟨none,0,by rw [h1,h2]; rfl,by rw [h2]; exact Y5 _,by unfold maxLen; omega⟩
    ·exact ⟨_,_,h1,h2,h3⟩
   have TX4:=lh (TX3.out.bel hb4);have HB4:=lh (HB.out.trans (hb4.mono HB.out.size));have N4:=lh hn4;obtain ⟨q,hq1⟩:=zX Q.length
   have hqq:q≤9223372036854775807:=by unfold maxLen at hmx4; omega
   rw [← hq1] at hge4 N4 hle ⊢;have HQ1:=lh hq1;clear hn4 hb4 hq1 TX3 HB;obtain ⟨bb,hbb⟩:=zX wr.heap.size
   rw [← hbb] at N4;clear hbb;go_wp2_with fail
   go_loopw [5,30] (fun v i wr=>∃ (k:Nat) (v':Value),v'=v∧k≤q∧i=.int .i64 k∧Hid (Z04 wr w.heap.size v' (Z19 l1 (Q.take k)))∧Hid (Z0q wr bb (.slice p4 q cp4) Q)∧Hid (Below w.heap.size w wr)) (fun _ i _=>q - (intOf i).toNat)
   case atStart=>exact ⟨0,_,rfl,Yp _,rfl,TX4,N4,HB4⟩
   case round=>
    obtain ⟨k,v,rfl,hk,rfl,TX,NO,HB⟩:=hrel;clear TX4 N4 HB4;by_cases hkn:k < q
    ·obtain ⟨x, hx⟩ : ∃ x, Q[k]? = some x := ⟨_, Yd (by rw [← HQ1.out]; exact hkn)⟩
     obtain ⟨g0,hp⟩:∃ g,p4=some ⟨g,0,none⟩:=by
      rcases NO.out.form with ⟨h1,h2⟩ | ⟨g,cap,h1,_⟩;·rw [h2] at hx; simp at hx
      ·simp only [Value.slice.injEq] at h1; exact ⟨g,h1.1⟩
     subst hp;have cx:=NO.out.cell rfl hx;have hTx:=(HT.out.bel HB.out).kid (HLK.out x (Yl hx));have c1:=hTx.c1;have hln:(Z19 l1 (Q.take k)).length < 1099511627776:=by
      have:=Z3h l1 (Q.take k);have h3:(Q.take k).length≤k:=by simp; omega
      have h4:=HM1.out;omega
     have HA:=lh (Z97 wr w.heap.size v _ x.text TX.out HB.out.size hln);have HX:=lh hx;clear hTx hx hln;go_wp2_with fail
     refine HA.out.mono ?_;rintro e w3 ⟨v3,rfl,ht3,hb3,hf3⟩;have hsn:Z19 l1 (Q.take (k + 1))=addL (Z19 l1 (Q.take k)) x.text:=by rw [Z0w HX.out,Z5g]
     have TX3:Hid (Z04 w3 w.heap.size v3 (Z19 l1 (Q.take (k + 1)))):=lh (by rw [hsn]; exact ht3);have N3:=lh (NO.out.far TX.out hf3);have HB3:=lh (HB.out.trans hb3);clear HA ht3 hb3 hf3 hsn;go_wp2;go_roundw
     case rel=>exact ⟨k + 1,_,rfl,by omega,by go_num,TX3,N3,HB3⟩
     case measure=>simp [intOf]; omega
    ·have hk2 : k = q := by omega
     subst hk2;have hend:Z04 wr w.heap.size v (Z19 l1 Q):=by
      have:=TX.out;rwa [Ym (by rw [← HQ1.out]; exact Y5 _)] at this
     have TX5:=lh hend;clear hend TX;go_wp2;go_ret;rw [← HL1.out];exact ⟨_,rfl,TX5.out,HB.out⟩
theorem Zck (w:World) (B0:Nat) (a:ATree) (hT:TreeAt w B0 a) (hm:a.many < 274877906944) :
 Calls Tryz.prog 84 #[a.ptr,.bool false] w fun e w'=>∃ v,e=.returned v∧Z04 w' w.heap.size v (Z3y false a)∧Below w.heap.size w w':=by
 have hkl:=Z95 a;have HT:=lh hT;have hfu:(a.kids.filter Z1i).length≤a.kids.length:=List.length_filter_le _ _;have hle:(a.kids.filter Z2g).length≤a.kids.length:=List.length_filter_le _ _;have hfk:∀ x,x∈a.kids.filter Z1i→x∈a.kids:=fun x hx=>(List.mem_filter.1 hx).1;have hlk:∀ x,x∈a.kids.filter Z2g→x∈a.kids:=fun x hx=>(List.mem_filter.1 hx).1;have HFK:=lh hfk;have HLK:=lh hlk;have hF:=fun (w':World) (h:TreeAt w' B0 a)=>Z8r w' B0 a h (by omega);have hL:=fun (w':World) (h:TreeAt w' B0 a)=>Z8f w' B0 a h (by omega)
 obtain ⟨P,hP⟩:=zX (a.kids.filter Z1i)
 obtain ⟨Q,hQ⟩:=zX (a.kids.filter Z2g)
 unfold Z3y;simp only [Bool.false_eq_true,if_false];rw [← hP] at hfu HFK;rw [← hQ] at hle HLK;simp only [← hP] at hF;simp only [← hQ] at hL;rw [← hP,← hQ];clear hP hQ hfk hlk hT;have HF:=lh hF;have HL:=lh hL;clear hF hL;obtain ⟨l0,hl0⟩:∃ l:List ByteArray,l=[]:=⟨_,rfl⟩
 have hl1:l0.length≤a.many:=by rw [hl0]; exact Yp _
 have TX1:Hid (Z04 w w.heap.size (.slice none 0 0) l0):=lh (by rw [hl0]; exact Z04.nil _ _);rw [← hl0];have HB1:=lh (Y8 w.heap.size w);clear hl0;unfold ATree.ptr at HF HL ⊢;go_enter Tryz.func84,Tryz.ntmps84
 go_wp2_with fail
 refine (HF.out w (HT.out.bel HB1.out)).mono ?_;rintro e w2 ⟨v2,rfl,hn2,hb2⟩;obtain ⟨p2,cp2,rfl,hge2,hmx2⟩:∃ p cp,v2=.slice p P.length cp∧P.length≤cp∧cp≤maxLen:=by
  rcases hn2.form with ⟨h1,h2⟩ | ⟨g,cap,h1,h2,h3⟩;·exact ⟨none,0,by rw [h1,h2]; rfl,by rw [h2]; exact Y5 _,by unfold maxLen; omega⟩
  ·exact ⟨_,_,h1,h2,h3⟩
 have TX2:=lh (TX1.out.bel hb2);have HB2:=lh (HB1.out.trans (hb2.mono HB1.out.size));have N2:=lh hn2;obtain ⟨m,hm1⟩:=zX P.length
 have hmq:m≤9223372036854775807:=by unfold maxLen at hmx2; omega
 rw [← hm1] at hge2 N2 hfu ⊢;have HM1:=lh hm1;clear hn2 hb2 hm1 TX1 HB1;go_wp2_with fail
 go_loopw [5,16] (fun v i wr=>∃ (k:Nat) (v':Value),v'=v∧k≤m∧i=.int .i64 k∧Hid (Z04 wr w.heap.size v' (Z19 l0 (P.take k)))∧Hid (Z0q wr w.heap.size (.slice p2 m cp2) P)∧Hid (Below w.heap.size w wr)) (fun _ i _=>m - (intOf i).toNat)
 case atStart=>exact ⟨0,_,rfl,Yp _,rfl,TX2,N2,HB2⟩
 case round=>
  obtain ⟨k,v,rfl,hk,rfl,TX,NO,HB⟩:=hrel;clear TX2 N2 HB2;by_cases hkn:k < m
  ·obtain ⟨x, hx⟩ : ∃ x, P[k]? = some x := ⟨_, Yd (by rw [← HM1.out]; exact hkn)⟩
   obtain ⟨g0,hp⟩:∃ g,p2=some ⟨g,0,none⟩:=by
    rcases NO.out.form with ⟨h1,h2⟩ | ⟨g,cap,h1,_⟩;·rw [h2] at hx; simp at hx
    ·simp only [Value.slice.injEq] at h1; exact ⟨g,h1.1⟩
   subst hp;have cx:=NO.out.cell rfl hx;have hTx:=(HT.out.bel HB.out).kid (HFK.out x (Yl hx));have c1:=hTx.c1;have hln:(Z19 l0 (P.take k)).length < 1099511627776:=by
    have:=Z3h l0 (P.take k);have h3:(P.take k).length≤k:=by simp; omega
    have h4:=HM1.out;omega
   have HA:=lh (Z97 wr w.heap.size v _ x.text TX.out HB.out.size hln);have HX:=lh hx;clear hTx hx hln;go_wp2_with fail
   refine HA.out.mono ?_;rintro e w3 ⟨v3,rfl,ht3,hb3,hf3⟩;have hsn:Z19 l0 (P.take (k + 1))=addL (Z19 l0 (P.take k)) x.text:=by rw [Z0w HX.out,Z5g]
   have TX3:Hid (Z04 w3 w.heap.size v3 (Z19 l0 (P.take (k + 1)))):=lh (by rw [hsn]; exact ht3);have N3:=lh (NO.out.far TX.out hf3);have HB3:=lh (HB.out.trans hb3);clear HA ht3 hb3 hf3 hsn;go_wp2;go_roundw
   case rel=>exact ⟨k + 1,_,rfl,by omega,by go_num,TX3,N3,HB3⟩
   case measure=>simp [intOf]; omega
  ·have hk2 : k = m := by omega
   subst hk2;have hend:Z04 wr w.heap.size v (Z19 l0 P):=by
    have:=TX.out;rwa [Ym (by rw [← HM1.out]; exact Y5 _)] at this
   have TX3:=lh hend;have hl3:=Z3h l0 P;obtain ⟨l1,hl1⟩:=zX (Z19 l0 P)
   rw [← hl1] at TX3 hl3;have HL1:=lh hl1;clear hend TX NO hl1;go_wp2_with fail
   refine (HL.out wr (HT.out.bel HB.out)).mono ?_;rintro e w4 ⟨v4,rfl,hn4,hb4⟩;obtain ⟨p4,cp4,rfl,hge4,hmx4⟩:∃ p cp,v4=.slice p Q.length cp∧Q.length≤cp∧cp≤maxLen:=by
    rcases hn4.form with ⟨h1,h2⟩ | ⟨g,cap,h1,h2,h3⟩;·exact ⟨none,0,by rw [h1,h2]; rfl,by rw [h2]; exact Y5 _,by unfold maxLen; omega⟩
    ·exact ⟨_,_,h1,h2,h3⟩
   have TX4:=lh (TX3.out.bel hb4);have HB4:=lh (HB.out.trans (hb4.mono HB.out.size));have N4:=lh hn4;obtain ⟨q,hq1⟩:=zX Q.length
   have hqq:q≤9223372036854775807:=by unfold maxLen at hmx4; omega
   rw [← hq1] at hge4 N4 hle ⊢;have HQ1:=lh hq1;clear hn4 hb4 hq1 TX3 HB;obtain ⟨bb,hbb⟩:=zX wr.heap.size
   rw [← hbb] at N4;clear hbb;go_wp2_with fail
   go_loopw [5,30] (fun v i wr=>∃ (k:Nat) (v':Value),v'=v∧k≤q∧i=.int .i64 k∧Hid (Z04 wr w.heap.size v' (Z19 l1 (Q.take k)))∧Hid (Z0q wr bb (.slice p4 q cp4) Q)∧Hid (Below w.heap.size w wr)) (fun _ i _=>q - (intOf i).toNat)
   case atStart=>exact ⟨0,_,rfl,Yp _,rfl,TX4,N4,HB4⟩
   case round=>
    obtain ⟨k,v,rfl,hk,rfl,TX,NO,HB⟩:=hrel;clear TX4 N4 HB4;by_cases hkn:k < q
    ·obtain ⟨x, hx⟩ : ∃ x, Q[k]? = some x := ⟨_, Yd (by rw [← HQ1.out]; exact hkn)⟩
     obtain ⟨g0,hp⟩:∃ g,p4=some ⟨g,0,none⟩:=by
      rcases NO.out.form with ⟨h1,h2⟩ | ⟨g,cap,h1,_⟩;·rw [h2] at hx; simp at hx
      ·simp only [Value.slice.injEq] at h1; exact ⟨g,h1.1⟩
     subst hp;have cx:=NO.out.cell rfl hx;have hTx:=(HT.out.bel HB.out).kid (HLK.out x (Yl hx));have c1:=hTx.c1;have hln:(Z19 l1 (Q.take k)).length < 1099511627776:=by
      have:=Z3h l1 (Q.take k);have h3:(Q.take k).length≤k:=by simp; omega
      have h4:=HM1.out;omega
     have HA:=lh (Z97 wr w.heap.size v _ x.text TX.out HB.out.size hln);have HX:=lh hx;clear hTx hx hln;go_wp2_with fail
     refine HA.out.mono ?_;rintro e w3 ⟨v3,rfl,ht3,hb3,hf3⟩;have hsn:Z19 l1 (Q.take (k + 1))=addL (Z19 l1 (Q.take k)) x.text:=by rw [Z0w HX.out,Z5g]
     have TX3:Hid (Z04 w3 w.heap.size v3 (Z19 l1 (Q.take (k + 1)))):=lh (by rw [hsn]; exact ht3);have N3:=lh (NO.out.far TX.out hf3);have HB3:=lh (HB.out.trans hb3);clear HA ht3 hb3 hf3 hsn;go_wp2;go_roundw
     case rel=>exact ⟨k + 1,_,rfl,by omega,by go_num,TX3,N3,HB3⟩
     case measure=>simp [intOf]; omega
    ·have hk2 : k = q := by omega
     subst hk2;have hend:Z04 wr w.heap.size v (Z19 l1 Q):=by
      have:=TX.out;rwa [Ym (by rw [← HQ1.out]; exact Y5 _)] at this
     have TX5:=lh hend;clear hend TX;go_wp2;go_ret;rw [← HL1.out];exact ⟨_,rfl,TX5.out,HB.out⟩
theorem Zic (body:Bool) (w:World) (B0:Nat) (a:ATree) (hT:TreeAt w B0 a) (hm:a.many < 274877906944) :
 Calls Tryz.prog 84 #[a.ptr,.bool body] w fun e w'=>∃ v,e=.returned v∧Z04 w' w.heap.size v (Z3y body a)∧Below w.heap.size w w':=by
 cases body;·exact Zck w B0 a hT hm
 ·exact Zfe w B0 a hT hm
theorem Za6 (w:World) (B:Nat) (a:ATree) (hT:TreeAt w B a) :
 Calls Tryz.prog 13 #[a.ptr] w fun e w'=>e=.returned (.bool (Z0r a))∧w'=w:=by
 have c0:=hT.c0;have c1:=hT.c1;unfold Z0r ATree.ptr;obtain ⟨kd,hkd⟩:=zX a.kind
 obtain ⟨tx,htx⟩:=zX a.text
 rw [← hkd] at c0 ⊢;rw [← htx] at c1 ⊢;clear hkd htx hT;by_cases hs:tx=Z03
 ·subst hs;have hss : Zp Z03 Z03 = true := by simp [Zp]
  rw [hss];unfold Z03 at c1;rcases (by omega:kd=1∨kd=6∨(kd≠1∧kd≠6)) with h3 | h3 | ⟨h3,h4⟩
  ·subst h3;go_enter Tryz.func13, Tryz.ntmps13
   go_wp2;go_ret;exact ⟨rfl,rfl⟩
  ·subst h3;go_enter Tryz.func13, Tryz.ntmps13
   go_wp2;go_ret;exact ⟨rfl,rfl⟩
  ·have n3 : (kd == 1) = false := by simpa using h3
   have n4:(kd == 6)=false:=by simpa using h4
   clear h3 h4;rw [n3,n4];go_enter Tryz.func13,Tryz.ntmps13
   go_wp2;go_ret;exact ⟨rfl,rfl⟩
 ·have hne : Zp tx Z03 = false := by simp [Zp, hs]
  rw [hne];have hne2:(tx.toList == Z03.toList)=false:=by rw [Z1w]; exact hne
  have hne3:(tx.toList == [115,116,114,105,99,116])=false:=by
   have:Z03.toList=[115,116,114,105,99,116]:=by kernel_rfl
   rwa [this] at hne2
  clear hne2;clear hs hne;go_enter Tryz.func13,Tryz.ntmps13
  go_wp2;go_ret;exact ⟨rfl,rfl⟩
end Go.Proofs.YtajomcjaljakhaaGreatDoor
namespace Go.Proofs.YtajomcjaljakhaaGreatDoor
open Go Go.RowKit Go.ChangeMaps Go.MapKept
set_option maxRecDepth 100000
set_option maxHeartbeats 20000000
set_option linter.unusedVariables false
def Zmi (b:Nat):Value:=.pointer (some ⟨b,0,none⟩)
def Zim (w:World) (k:Nat):Prop:=∃ c t,w.heap[k]?=some (.cells c t (0,0))
def PMap (w:World) (b:Nat) (l:List (Nat×Nat)):Prop:=
 ∃ es clock,w.heap[b]?=some (.map es clock)∧es.toList.map (fun e=>(e.key,e.val))=l.map (fun x=>(Zmi x.1,Value.int .i64 x.2))∧Go.MapKept.Stamped es clock
theorem PMap.len {w:World} {b:Nat} {l:List (Nat×Nat)} (h:PMap w b l):∃ es clock,w.heap[b]?=some (.map es clock)∧es.size=l.length:=by
 obtain ⟨es,clock,hb,he,hst⟩:=h;refine ⟨es,clock,hb,?_⟩;have:=congrArg List.length he;simpa using this
def SMap (w:World) (b:Nat) (g:ByteArray→Option Value):Prop:=
 ∃ es clock,w.heap[b]?=some (.map es clock)∧Stamped es clock∧(∀ x∈es.toList,IsKey .string x.key)∧∀ s v,g s=some v↔∃ x∈es.toList,x.key=.string s∧x.val=v
theorem SMap.made (w:World):SMap (w.alloc (.map #[] 0)) w.heap.size fun _=>none:=
 ⟨#[],0,(heap_alloc w _).1,stamped_empty 0,by simp,fun s v=>by simp⟩
theorem SMap.lt {w:World} {b:Nat} {g:ByteArray→Option Value} (h:SMap w b g):b < w.heap.size:=by
 obtain ⟨es,clock,hb,_⟩:=h;exact (Y6.1 hb).1
theorem SMap.kept {w w':World} {b:Nat} {g:ByteArray→Option Value} (h:SMap w b g) (hk:w'.heap[b]?=w.heap[b]?):SMap w' b g:=by
 obtain ⟨es,clock,hb,r⟩:=h;exact ⟨es,clock,hk.trans hb,r⟩
theorem SMap.bel {w w':World} {b:Nat} {g:ByteArray→Option Value} (h:SMap w b g) (k:Below w.heap.size w w'):SMap w' b g:=h.kept (k.block b h.lt)
theorem SMap.lookup {w:World} {b:Nat} {g:ByteArray→Option Value} (h:SMap w b g) {t e:TypeId} (ht:Tryz.prog.underlying t=some (.map 9 e)) {z:Value} (hz:(zeroValue e).run Tryz.prog w=.ok z w) (s:ByteArray) :
 (Instr.lookup t (.map (some b)) (.string s) false).run Tryz.prog w=.ok ((g s).getD z) w:=by
 obtain ⟨es,clock,hb,hst,hks,hg⟩:=h;have hk:IsKey .string (.string s):=trivial;unfold Instr.lookup;rcases findNow_spec hk es.toList 0 hks with ⟨h1,h2⟩ | ⟨j,e0,h1,h2,h3⟩
 ·have hn:g s=none:=by
   cases hgs:g s with
   | none=>rfl
   | some v =>
     obtain ⟨x,hx,h4,_⟩:=(hg s v).1 hgs;exact absurd h4 (h2 x hx)
  simp [run_underlying ht,Go.MapKept.run_getObj_map hb,run_checkKey Tryz.underlying9 hk,run_findKey Tryz.underlying9 h1,hz,hn,Result.andThen]
 ·have hn:g s=some e0.val:=(hg s _).2 ⟨e0,Yl h2,h3,rfl⟩;simp [run_underlying ht,Go.MapKept.run_getObj_map hb,run_checkKey Tryz.underlying9 hk,run_findKey Tryz.underlying9 h1,hn,Result.andThen]
theorem SMap.update {w:World} {b:Nat} {g:ByteArray→Option Value} (h:SMap w b g) {t e:TypeId} (ht:Tryz.prog.underlying t=some (.map 9 e)) (s:ByteArray) (v:Value) :
 ∃ w',(Instr.mapUpdate t (.map (some b)) (.string s) v).run Tryz.prog w=.ok () w'∧SMap w' b (fun x=>if x=s then some v else g x)∧w.grownBy w' (some b):=by
 obtain ⟨es,clock,hb,hst,hks,hg⟩:=h;have hk:IsKey .string (.string s):=trivial;rcases findNow_spec hk es.toList 0 hks with ⟨h1,h2⟩ | ⟨j,e0,h1,h2,h3⟩
 ·refine ⟨setBlock w b (.map (es.push ⟨.string s, v, clock⟩) (clock + 1)), ?_, ⟨_, _, heap_setBlock_same hb _, stamped_push hst h2, ?_, ?_⟩, ⟨rfl, rfl, rfl, by simp [setBlock], fun i _ hi => heap_setBlock_other hb _ (fun e => hi (by rw [e]))⟩⟩
  ·unfold Instr.mapUpdate;simp [run_underlying ht,Go.MapKept.run_getObj_map hb,run_checkKey Tryz.underlying9 hk,run_findKey Tryz.underlying9 h1,Go.MapKept.run_setObj_map _ hb,Result.andThen,setBlock]
  ·intro x hx;rw [Array.toList_push, List.mem_append, List.mem_singleton] at hx;rcases hx with hx | rfl;·exact hks x hx
   ·exact hk
  ·intro t v2;simp only [Array.toList_push, List.mem_append, List.mem_singleton];by_cases hts : t = s
   ·subst hts;rw [Yb rfl];constructor
    ·intro e;exact ⟨_,.inr rfl,rfl,Yk e⟩
    ·rintro ⟨x, hx | rfl, h4, h5⟩;·exact absurd h4 (h2 x hx)
     ·exact congrArg some h5
   ·rw [Y9 hts, hg];constructor
    ·rintro ⟨x,hx,h4⟩;exact ⟨x,.inl hx,h4⟩
    ·rintro ⟨x, hx | rfl, h4, h5⟩;·exact ⟨x, hx, h4, h5⟩
     ·exact absurd (Value.string.inj h4).symm hts
 ·rw [Nat.zero_add] at h1;have h2' : es[j]? = some e0 := by simpa using h2
  obtain ⟨f,hf⟩:∃ f:MapEntry→MapEntry,f=fun x=>{ x with key:=.string s,val:=v }:=⟨_,rfl⟩
  have hat:∀ i,(es.modify j f)[i]?=if j=i then (es[i]?).map f else es[i]?:=fun i=>by rw [Array.getElem?_modify]
  have hmem:∀ x,x∈(es.modify j f).toList↔∃ i,(if j=i then (es[i]?).map f else es[i]?)=some x:=fun x=>by
   rw [Array.mem_toList_iff,Array.mem_iff_getElem?];simp only [hat]
  have hkeyj:∀ e',es[j]?=some e'→(f e').key=e'.key:=fun e' he'=>by rw [h2'] at he'; cases he'; rw [hf]; exact h3.symm
  have hone:∀ i x,es[i]?=some x→x.key=.string s→i=j:=fun i x hi hx=>by
   have hnd:=hst.2.2;have hi':(es.toList.map (·.key))[i]?=some (.string s):=by rw [Yo,Array.getElem?_toList,hi,Option.map_some,hx]
   have hj':(es.toList.map (·.key))[j]?=some (.string s):=by rw [Yo,Array.getElem?_toList,h2',Option.map_some,h3]
   exact (List.getElem?_inj (List.getElem?_eq_some_iff.1 hi').1 hnd).1 (hi'.trans hj'.symm)
  refine ⟨setBlock w b (.map (es.modify j f) clock),?_,⟨_,_,heap_setBlock_same hb _,stamped_modify hst _ _ (fun _ _=>by rw [hf]) (fun e' _ he'=>hkeyj e' he'),?_,?_⟩,⟨rfl,rfl,rfl,by simp [setBlock],fun i _ hi=>heap_setBlock_other hb _ (fun e=>hi (by rw [e]))⟩⟩
  ·unfold Instr.mapUpdate;simp [run_underlying ht,Go.MapKept.run_getObj_map hb,run_checkKey Tryz.underlying9 hk,run_findKey Tryz.underlying9 h1,h2',h3,run_keyThatStays hk,Go.MapKept.run_setObj_map _ hb,Result.andThen,setBlock,hf]
  ·intro x hx;obtain ⟨i, hi⟩ := (hmem x).1 hx;by_cases hij : j = i
   ·rw [Yb hij] at hi;obtain ⟨y,_,rfl⟩:=Option.map_eq_some_iff.1 hi;rw [hf];exact hk
   ·rw [Y9 hij] at hi;exact hks x (Array.mem_toList_iff.2 (Array.mem_of_getElem? hi))
  ·intro t v2;show (if t = s then some v else g t) = some v2 ↔ _;by_cases hts : t = s
   ·subst hts;rw [Yb rfl];constructor
    ·intro e;refine ⟨f e0,(hmem _).2 ⟨j,by rw [Yb rfl,h2']; rfl⟩,by rw [hf],by rw [hf]; exact Yk e⟩
    ·rintro ⟨x, hx, h4, h5⟩;obtain ⟨i, hi⟩ := (hmem x).1 hx;by_cases hij : j = i
     ·rw [Yb hij] at hi;obtain ⟨y,_,rfl⟩:=Option.map_eq_some_iff.1 hi;rw [hf] at h5;exact congrArg some h5
     ·rw [Y9 hij] at hi;exact absurd (hone i x hi h4).symm hij
   ·rw [Y9 hts, hg];constructor
    ·rintro ⟨x,hx,h4,h5⟩;obtain ⟨i,hi⟩:=List.getElem?_of_mem hx;rw [Array.getElem?_toList] at hi;have hij:¬ j=i:=fun e=>by
      subst e;rw [h2'] at hi;cases hi;rw [h3] at h4;exact hts (Value.string.inj h4).symm
     exact ⟨x,(hmem x).2 ⟨i,by rw [Y9 hij]; exact hi⟩,h4,h5⟩
    ·rintro ⟨x, hx, h4, h5⟩;obtain ⟨i, hi⟩ := (hmem x).1 hx;by_cases hij : j = i
     ·rw [Yb hij] at hi;obtain ⟨y,_,rfl⟩:=Option.map_eq_some_iff.1 hi;rw [hf] at h4;exact absurd (Value.string.inj h4).symm hts
     ·rw [Y9 hij] at hi;exact ⟨x,Array.mem_toList_iff.2 (Array.mem_of_getElem? hi),h4,h5⟩
theorem Z10 (w:World) {ops:Array Oper} {rest:List Oper} {o:Oper} {a:Act} {Q:Exit→Act→World→Prop}
 (hg:o.guard=none) (m x y:Operand) (t e:TypeId) (hop:o.op=Op.mapUpdate t m x y) (ht:Tryz.prog.underlying t=some (.map 9 e)) (b:Nat) (s:ByteArray) (v:Value) (g:ByteArray→Option Value)
 (hm:a.eval m=.map (some b)) (hx:a.eval x=.string s) (hv:a.eval y=v) (h:SMap w b g)
 (hK:∀ w',SMap w' b (fun x=>if x=s then some v else g x)→w.grownBy w' (some b)→wpList Tryz.prog ops Q rest (a.put o.dst undef) w') :
 wpList Tryz.prog ops Q (o :: rest) a w:=by
 refine wpList_plain hg fun K' hK'=>?_;obtain ⟨w',hrun,r1,r2⟩:=h.update ht s v;unfold Oper.wp;simp [execOp,hop,hm,hx,hv,hrun,Result.andThen];exact hK' _ _ (hK w' r1 r2)
def cntV (f:ByteArray→Nat) (s:ByteArray):Option Value:=if f s=0 then none else some (.int .i64 (f s:Int))
theorem Zb8 (f:ByteArray→Nat) (s:ByteArray):(cntV f s).getD (.int .i64 0)=.int .i64 (f s:Int):=by
 unfold cntV;split
 ·rename_i h;rw [h];rfl
 ·rfl
theorem Zhc (f:ByteArray→Nat) (s:ByteArray) (d:Nat) (hd:0 < d):(fun x=>if x=s then some (Value.int .i64 ((f s:Int) + d)) else cntV f x)=cntV fun x=>f x + if s=x then d else 0:=by
 funext x
 show (if x=s then some (Value.int .i64 ((f s:Int) + d)) else if f x=0 then none else some (.int .i64 (f x:Int)))=if f x + (if s=x then d else 0)=0 then none else some (.int .i64 ((f x + (if s=x then d else 0):Nat):Int));by_cases h:x=s
 ·subst h;rw [Yb rfl,Yb rfl,Y9 (by omega)];rfl
 ·rw [Y9 h,Y9 (fun e:s=x=>h e.symm),Nat.add_zero]
def hasV (l:List ByteArray) (s:ByteArray):Option Value:=if Lib.containsS l s then some (.bool true) else none
theorem Zjr (l:List ByteArray) (s:ByteArray):(hasV l s).getD (.bool false)=.bool (Lib.containsS l s):=by
 unfold hasV;cases Lib.containsS l s <;> rfl
theorem Zkl (l:List ByteArray) (s:ByteArray):(fun x=>if x=s then some (Value.bool true) else hasV l x)=hasV (l ++ [s]):=by
 funext x
 unfold hasV;have e:Lib.containsS (l ++ [s]) x=(Lib.containsS l x || decide (x=s)):=by
  rw [Bool.eq_iff_iff,Lib.containsS_iff,Bool.or_eq_true,Lib.containsS_iff,decide_eq_true_eq];simp
 rw [e];by_cases h:x=s;·rw [Yb h,decide_eq_true h,Bool.or_true,Yb rfl]
 ·rw [Y9 h,decide_eq_false h,Bool.or_false]
end Go.Proofs.YtajomcjaljakhaaGreatDoor
namespace Go.Proofs.YtajomcjaljakhaaGreatDoor
open Go Go.RowKit
set_option maxRecDepth 100000
set_option maxHeartbeats 20000000
set_option linter.unusedVariables false
theorem Z8u (l m:List ATree):Z1r (l ++ m)=Z1r l ++ Z1r m:=by
 induction l with
 | nil=>rfl
 | cons a l ih=>simp only [List.cons_append,Z1r,ih,List.append_assoc]
theorem Z9h (a:ATree):a.subs=a :: Z1r a.kids:=by cases a; rfl
theorem Zk2 {l:List ATree} {i:Nat} {k:ATree} (h:l[i]?=some k):Z1r l=Z1r (l.take i) ++ (k.subs ++ Z1r (l.drop (i + 1))):=by
 obtain ⟨hi,hk⟩:=List.getElem?_eq_some_iff.1 h;have:l=l.take i ++ (k :: l.drop (i + 1)):=by
  rw [← hk,List.getElem_cons_drop,List.take_append_drop]
 rw [show Z1r l=Z1r (l.take i ++ (k :: l.drop (i + 1))) from congrArg Z1r this,Z8u];rfl
theorem Zim.bel {w0 w:World} {k:Nat} (h:Zim w0 k) (g:Below w0.heap.size w0 w):Zim w k:=by
 obtain ⟨c,t,h⟩:=h;exact ⟨c,t,(g.block k (Y6.1 h).1).trans h⟩
theorem TreeAt.cellsOf {w:World} {B:Nat} {a:ATree} (h:TreeAt w B a):Zim w a.b:=⟨_,_,h.blkOf⟩
theorem Z92 (a:ATree):a.subs.length=a.many:=by
 obtain ⟨b,v,k,t,n,ks⟩:=a;simp only [ATree.subs,ATree.many,List.length_cons,Z5q]
def Z45:ByteArray:=⟨#[101,118,97,108]⟩
structure EInv (w0:World) (c:Nat) (s:Bool) (w:World):Prop where
 cell:w.heap[c]?=some (.cells #[.bool s] 4 (0,0))
 bel:Below w0.heap.size w0 w
theorem EInv.set {w0 w:World} {c:Nat} {s:Bool} (h:EInv w0 c s w) (hc:w0.heap.size≤c) (r:Bool):EInv w0 c r (w.setCell ⟨c,0,none⟩ (.bool r)):=
 ⟨Zm (o:=0) (.bool r) h.cell,h.bel.setCell (p:=⟨c,0,none⟩) hc _⟩
def Zjm (a:ATree):Prop:=∀ x∈a.subs,x.kind=35→x.kids≠[]
theorem Z7r {w2:World} {B:Nat} {v2:Value} {l:List ByteArray} {s:ByteArray} (h:w2.ownsRow B 9 1 v2 (l.length + 1) (l.map Value.string ++ [.string s])):Z04 w2 B v2 (l ++ [s]):=by
 unfold Z04;rw [Yq,Yu];exact h
structure Us where
 at':Int
 r:Int×Bool
def Us.cells (u:Us):List Value:=[.int .i64 u.at',.int .i64 u.r.1,.bool u.r.2]
def Z1f:ByteArray:=⟨#[97,114,103,117,109,101,110,116,115]⟩
def Z0x (st:Bool) (s:ByteArray):Bool:=st && (Zp s Z45 || Zp s Z1f)
def Z4x:List ByteArray→List ByteArray→Bool
 | _,[]=>false
 | seen,s :: l=>Lib.containsS seen s || Z4x (seen ++ [s]) l
def Z5u (lets vars:List ByteArray) (body:Bool):List ByteArray→List ByteArray→Bool
 | _,[]=>false
 | prev,s :: l=>Lib.containsS lets s || (!body && (prev.any (fun o=>Zp o s) || Lib.containsS vars s)) || Z5u lets vars body (prev ++ [s]) l
def Z51 (a:ATree):List ByteArray:=(a.kids.filter Z2g).map ATree.text
def Z87 (a:ATree):List ByteArray:=(a.kids.filter Z1i).map ATree.text
def Z2n (a:ATree) (body:Bool):Bool:=
 Z4x [] (Z51 a) || Z5u (Z51 a) (Z3w a) body [] (Z87 a) || (Z3w a).any (fun s=>Lib.containsS (Z51 a) s)
def Z40 (a:ATree):Bool:=!(a.kind == 3) && !(a.kind == 4) && !(a.kind == 5)
def Z2o (st:Bool):List ByteArray→List ByteArray→Int
 | _,[]=>0
 | seen,s :: l=>if Z0x st s then 5 else if st && Lib.containsS seen s then 9 else Z2o st (seen ++ [s]) l
def Z6q (st:Bool) (t:ByteArray) (ps:List ByteArray) (bd:ATree):Int:=
 if Z0x st t then 5 else if Z2o st [] ps≠0 then Z2o st [] ps else if (Z51 bd).any (fun s=>Lib.containsS ps s) then 9 else if Z2n bd true then 9 else 0
mutual
def Z0p:ATree→Bool→Bool→Int
 | .mk b v k t n ks, st, ins =>
   if k=2∨k=3∨k=4∨k=13 then
    (if Z0x st t then 5 else if k=13∧(match ks with | x :: _=>(Z3y false x).any (fun s=>Zp s t) | []=>false)=true then 9 else Z1c ks st ins)
   else if k=5∨k=37 then (match ks with
    | ps :: .mk b2 v2 k2 t2 n2 bks :: _ =>
      (if Z6q (st || Z0r (.mk b2 v2 k2 t2 n2 bks)) t (ps.kids.map ATree.text) (.mk b2 v2 k2 t2 n2 bks)≠0 then Z6q (st || Z0r (.mk b2 v2 k2 t2 n2 bks)) t (ps.kids.map ATree.text) (.mk b2 v2 k2 t2 n2 bks)
      else Z1c bks (st || Z0r (.mk b2 v2 k2 t2 n2 bks)) true)
    | _=>0)
   else if k=6 then (if Z2n (.mk b v k t n ks) false then 9 else Z1c ks st ins)
   else if k=7∨k=8∨k=9 then (if (k == 9 && st) || (ks.drop 1).any (fun x=>!Z40 x) then 1 else Z1c ks st ins)
   else if k=10 then (if ins then Z1c ks st ins else 6)
   else if k=24 then (if (match ks with | x :: _=>x.kind == 23 && Z0x st x.text | []=>false)=true then 5 else Z1c ks st ins)
   else if k=34 then (if (match ks with | x :: _=>st && x.kind == 23 | []=>false)=true then 1 else Z1c ks st ins)
   else Z1c ks st ins
def Z1c:List ATree→Bool→Bool→Int
 | [],_,_=>0
 | a :: l,st,ins=>if Z0p a st ins≠0 then Z0p a st ins else Z1c l st ins
end
def Z5r (a:ATree) (st ins:Bool):Int:=
 if Z2n a true then 9 else Z1c a.kids (st || Z0r a) ins
def cntS (l:List ByteArray) (s:ByteArray):Nat:=l.countP fun x=>Zp x s
theorem Z2w {l:List ByteArray} {s:ByteArray}:0 < cntS l s↔s∈l:=by
 unfold cntS;rw [List.countP_pos_iff];constructor
 ·rintro ⟨x,hx,h⟩;rwa [← Z0z.1 h]
 ·exact fun h=>⟨s,h,Z7q s⟩
theorem Z5b (x:ByteArray) (l:List ByteArray) (s:ByteArray):cntS (x :: l) s=cntS l s + if Zp x s then 1 else 0:=by
 unfold cntS;rw [List.countP_cons]
theorem Zec (l m:List ByteArray) (s:ByteArray):cntS (l ++ m) s=cntS l s + cntS m s:=by
 unfold cntS;rw [List.countP_append]
def Z2c (L V:List ByteArray) (s:ByteArray):Nat:=2 * cntS L s + cntS V s
def Z4j (L V:List ByteArray) (body:Bool):List ByteArray→List ByteArray→Bool
 | _,[]=>false
 | seen,s :: l=>if Lib.containsS seen s then (if body then Z4j L V body seen l else true) else if 2≤Z2c L V s∨body=false∧0 < Z2c L V s then true else Z4j L V body (seen ++ [s]) l
def Ze1 (L V F:List ByteArray) (body:Bool):Bool:=Z4j L V body [] F || (L ++ V).any fun s=>decide (2 < Z2c L V s)
theorem Z7h:∀ (l seen:List ByteArray),Z4x seen l=true↔∃ s,s∈l∧(s∈seen∨2≤cntS l s)
 | [],seen=>by simp [Z4x]
 | x :: l, seen => by
   unfold Z4x;rw [Bool.or_eq_true,Lib.containsS_iff,Z7h l];constructor
   ·rintro (h | ⟨s, hs, h⟩);·exact ⟨x, by simp, .inl h⟩
    ·rcases h with h | h
     ·rcases List.mem_append.1 h with h | h;·exact ⟨s, List.mem_cons_of_mem _ hs, .inl h⟩
      ·obtain rfl : s = x := by simpa using h
       refine ⟨s,by simp,.inr ?_⟩;rw [Z5b,Yb (Z7q s)];have:=Z2w.2 hs;omega
     ·exact ⟨s,List.mem_cons_of_mem _ hs,.inr (by rw [Z5b]; omega)⟩
   ·rintro ⟨s, hs, h⟩;by_cases hx : x = s
    ·subst hx;rcases h with h | h;·exact .inl h
     ·rw [Z5b,Yb (Z7q x)] at h;exact .inr ⟨x,Z2w.1 (by omega),.inl (by simp)⟩
    ·have hs2:s∈l:=by
      rcases List.mem_cons.1 hs with rfl | h';·exact absurd rfl hx
      ·exact h'
     rcases h with h | h;·exact .inr ⟨s,hs2,.inl (List.mem_append_left _ h)⟩
     ·rw [Z5b,Y9 (by rw [Z0z]; exact hx)] at h;exact .inr ⟨s,hs2,.inr h⟩
theorem Zkw {L V:List ByteArray} (hV:∀ s,cntS V s≤1):((L ++ V).any fun s=>decide (2 < Z2c L V s))=(Z4x [] L || V.any fun s=>Lib.containsS L s):=by
 rw [Bool.eq_iff_iff,List.any_eq_true,Bool.or_eq_true,Z7h,List.any_eq_true];simp only [decide_eq_true_eq,List.not_mem_nil,false_or,Lib.containsS_iff,List.mem_append];unfold Z2c;constructor
 ·rintro ⟨s, hs, h⟩;have h1 := hV s;by_cases h2 : 2 ≤ cntS L s;·exact .inl ⟨s, Z2w.1 (by omega), h2⟩
  ·exact .inr ⟨s,Z2w.1 (by omega),Z2w.1 (by omega)⟩
 ·rintro (⟨s, hs, h⟩ | ⟨s, hs, h⟩);·exact ⟨s, .inl hs, by omega⟩
  ·have h1:=Z2w.2 hs;have h2:=Z2w.2 h;exact ⟨s,.inr hs,by omega⟩
theorem Ze5 {L V:List ByteArray} {body:Bool} (h:∀ s,(2≤Z2c L V s↔s∈L)∧(0 < Z2c L V s↔s∈L∨s∈V)):∀ (F seen prev:List ByteArray),(∀ s,Lib.containsS seen s=prev.any fun o=>Zp o s)→(body=true→∀ s∈prev,s ∉ L)→Z4j L V body seen F=Z5u L V body prev F
 | [],seen,prev,_,_=>rfl
 | s :: l, seen, prev, hs, hb => by
   have ih:∀ (seen' prev':List ByteArray),(∀ s,Lib.containsS seen' s=prev'.any fun o=>Zp o s)→(body=true→∀ s∈prev',s ∉ L)→Z4j L V body seen' l=Z5u L V body prev' l:=fun seen' prev' h1 h2=>Ze5 h l seen' prev' h1 h2;have hcL:Lib.containsS L s=true↔s∈L:=Lib.containsS_iff _ _;have hcV:Lib.containsS V s=true↔s∈V:=Lib.containsS_iff _ _;unfold Z4j Z5u;rw [hs s];cases hp:(prev.any fun o=>Zp o s) with
   | true =>
     rw [Yb rfl];cases body with
     | false=>simp
     | true =>
       have hm:s∈prev:=by
        obtain ⟨o,ho,h2⟩:=List.any_eq_true.1 hp;rwa [← Z0z.1 h2]
       have hL:Lib.containsS L s=false:=by
        rw [Bool.eq_false_iff,Ne,hcL];exact hb rfl s hm
       rw [Yb rfl,hL];simp only [Bool.not_true,Bool.false_and,Bool.or_false,Bool.false_or];refine ih seen (prev ++ [s]) (fun x=>?_) fun _ x hx=>?_
       ·rw [hs x, List.any_append];simp only [List.any_cons, List.any_nil, Bool.or_false];cases hxs : Zp s x with
        | false=>simp
        | true =>
          have e:=Z0z.1 hxs;subst e;rw [hp]; rfl
       ·rcases List.mem_append.1 hx with hx | hx;·exact hb rfl x hx
        ·obtain rfl : x = s := by simpa using hx
         intro hxl;rw [hcL.2 hxl] at hL;cases hL
   | false =>
     rw [Y9 (by decide)];simp only [Bool.false_or];by_cases hL:s∈L;·rw [Yb (.inl ((h s).1.2 hL)),hcL.2 hL]; rfl
     ·have hL2 : Lib.containsS L s = false := by rw [Bool.eq_false_iff, Ne, hcL]; exact hL
      by_cases hV:body=false∧s∈V;·rw [Yb (.inr ⟨hV.1,(h s).2.2 (.inr hV.2)⟩),hL2,hV.1,hcV.2 hV.2]; rfl
      ·rw [Y9 (by
        rintro (h1 | ⟨h1,h2⟩);·exact hL ((h s).1.1 h1)
        ·rcases (h s).2.1 h2 with h3 | h3;·exact hL h3
         ·exact hV ⟨h1,h3⟩)]
       have hc:(Lib.containsS L s || !body && Lib.containsS V s)=false:=by
        rw [hL2];cases body with
        | true=>rfl
        | false =>
          simp only [Bool.false_or,Bool.not_false,Bool.true_and];rw [Bool.eq_false_iff,Ne,hcV];exact fun h3=>hV ⟨rfl,h3⟩
       rw [hc,Bool.false_or];refine ih (seen ++ [s]) (prev ++ [s]) (fun x=>?_) fun h0 x hx=>?_
       ·rw [Bool.eq_iff_iff,Lib.containsS_iff,List.any_append,Bool.or_eq_true,← hs x,Lib.containsS_iff,List.mem_append];simp only [List.any_cons,List.any_nil,Bool.or_false,Z0z,List.mem_singleton];exact or_congr_right eq_comm
       ·rcases List.mem_append.1 hx with hx | hx;·exact hb h0 x hx
        ·obtain rfl : x = s := by simpa using hx
         exact hL
theorem Zjs {L V F:List ByteArray} {body:Bool} (hV:∀ s,cntS V s≤1):Ze1 L V F body=(Z4x [] L || Z5u L V body [] F || V.any fun s=>Lib.containsS L s):=by
 unfold Ze1;rw [Zkw hV];cases h1:Z4x [] L with
 | true=>simp
 | false =>
   cases h2:(V.any fun s=>Lib.containsS L s) with
   | true=>simp
   | false =>
     simp only [Bool.or_false,Bool.false_or];refine Ze5 (fun s=>?_) F [] [] (fun s=>rfl) (fun _ s hs=>by cases hs);have h3:cntS L s≤1:=by
      rcases Nat.lt_or_ge 1 (cntS L s) with h | h
      ·have:Z4x [] L=true:=(Z7h L []).2 ⟨s,Z2w.1 (by omega),.inr h⟩;rw [h1] at this; cases this
      ·exact h
     have h4:s∈V→¬ s∈L:=fun hv hl=>by
      have:(V.any fun s=>Lib.containsS L s)=true:=List.any_eq_true.2 ⟨s,hv,(Lib.containsS_iff _ _).2 hl⟩;rw [h2] at this; cases this
     have h5:=hV s;have hL:=Z2w (l:=L) (s:=s);have hVV:=Z2w (l:=V) (s:=s);unfold Z2c;constructor
     ·rw [← hL];constructor
      ·intro h;omega
      ·intro h;omega
     ·rw [← hL,← hVV];omega
theorem Zh2 {l:List ByteArray} {s:ByteArray} (h:∀ x,cntS l x≤1):∀ x,cntS (addL l s) x≤1:=by
 intro x;unfold addL;split;·exact h x
 ·rename_i hc;rw [Zec];have h1 := h x;have e : cntS [s] x = if Zp s x then 1 else 0 := by rw [Z5b]; simp [cntS]
  rw [e];split
  ·rename_i hx;have e2:=Z0z.1 hx;subst e2;have:¬ 0 < cntS l s:=fun h2=>hc ((Lib.containsS_iff _ _).2 (Z2w.1 h2));omega
  ·omega
mutual
theorem Zfw:∀ (a:ATree) (l:List ByteArray),(∀ x,cntS l x≤1)→∀ x,cntS (Z5d Z27 a l) x≤1
 | .mk b v k t n ks, l, h => by
   have h2:∀ x,cntS (Z27 l (.mk b v k t n ks)).2 x≤1:=by
    unfold Z27;simp only;split;·exact Zh2 h
    ·exact h
   simp only [Z5d];split;·exact Z7y ks _ h2
   ·exact h2
theorem Z7y:∀ (ks:List ATree) (l:List ByteArray),(∀ x,cntS l x≤1)→∀ x,cntS (Z1v Z27 ks l) x≤1
 | [],l,h=>by simpa [Z1v] using h
 | a :: ks, l, h => by
   simp only [Z1v];exact Z7y ks _ (Zfw a l h)
end
theorem Zfr (a:ATree):∀ s,cntS (Z3w a) s≤1:=Z7y a.kids [] (fun x=>by simp [cntS])
theorem Zds (a:ATree) (body:Bool):Ze1 (Z51 a) (Z3w a) (Z87 a) body=Z2n a body:=Zjs (Zfr a)
end Go.Proofs.YtajomcjaljakhaaGreatDoor
