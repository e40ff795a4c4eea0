/- Package hoist: Vars; tree.Strict. -/
import Derived.Test.YtfilfhpfndaniaaGreatDoorJ07
import Derived.Lib.OwnKind
import Derived.LaidEql
namespace Go.Proofs.YtfilfhpfndaniaaGreatDoor
open Go Go.RowKit
set_option maxRecDepth 100000
set_option maxHeartbeats 20000000
set_option linter.unusedVariables false
def Z57 (a:ATree):List ByteArray:=Z16 Z2f a.kids []
theorem Zr.base {w:World} {B B':Nat} {v:Value} {l:List ByteArray} (h:Zr w B v l) (hB:B'≤B):Zr w B' v l:=by
 refine ⟨h.1,?_⟩;rcases h.2 with hn | ⟨g,cap,cur,h1,h2,rest⟩;·exact .inl hn
 ·exact .inr ⟨g,cap,cur,h1,by omega,rest⟩
theorem Z1d (l:List ATree):(Z0y l).length=Z07 l:=by
 have key:∀ n,∀ l:List ATree,Z07 l≤n→(Z0y l).length=Z07 l:=by
  intro n;induction n with
  | zero =>
    intro l hl;cases l with
    | nil=>rfl
    | cons a l=>exfalso; obtain ⟨b,v,k,t,m,ks⟩:=a; simp only [Z07,ATree.many] at hl; omega
  | succ n ih =>
    intro l hl;cases l with
    | nil=>rfl
    | cons a l =>
      obtain ⟨b,v,k,t,m,ks⟩:=a;simp only [Z07,ATree.many] at hl ⊢;have h1:=ih ks (by omega);have h2:=ih l (by omega);simp only [Z0y,ATree.subs,List.length_append,List.length_cons,h1,h2]
 exact key _ l (Y5 _)
theorem Z78 (a:ATree):a.kids.length≤a.many:=by
 have key:∀ l:List ATree,l.length≤Z07 l:=by
  intro l;induction l with
  | nil=>simp [Z07]
  | cons x l ih=>obtain ⟨b,v,k,t,m,ks⟩:=x; simp only [List.length_cons,Z07,ATree.many]; omega
 obtain ⟨b,v,k,t,m,ks⟩:=a;have:=key ks;simp only [ATree.kids,ATree.many];omega
theorem Z5v {w:World} {B:Nat}:∀ {a x:ATree},TreeAt w B a→x∈a.subs→TreeAt w B x:=by
 have key:∀ n,∀ a x:ATree,a.many≤n→TreeAt w B a→x∈a.subs→TreeAt w B x:=by
  intro n;induction n with
  | zero=>intro a x h; exfalso; obtain ⟨b,v,k,t,m,ks⟩:=a; simp only [ATree.many] at h; omega
  | succ n ih =>
    intro a x hn hT hx;obtain ⟨b,v,k,t,m,ks⟩:=a;simp only [ATree.subs,List.mem_cons] at hx;rcases hx with rfl | hx;·exact hT
    ·have:∀ l:List ATree,(∀ y∈l,y∈ks)→x∈Z0y l→TreeAt w B x:=by
      intro l;induction l with
      | nil=>intro _ h; simp [Z0y] at h
      | cons y l ih2 =>
        intro hl h;simp only [Z0y,List.mem_append] at h;rcases h with h | h
        ·have hy:y∈(ATree.mk b v k t m ks).kids:=hl y (by simp);exact ih y x (by have:=Z36 hy; omega) (hT.kid hy) h
        ·exact ih2 (fun z hz=>hl z (List.mem_cons_of_mem _ hz)) h
     exact this ks (fun y h=>h) hx
 intro a x hT hx;exact key _ a x (Y5 _) hT hx
def Z5g (a:ATree):List ByteArray:=(Z0y a.kids).map ATree.text
theorem Zd5 {a k x:ATree} (h:k∈a.kids) (hx:x∈k.subs):x.text∈Z5g a:=by
 unfold Z5g;refine List.mem_map_of_mem ?_;have key:∀ l:List ATree,k∈l→x∈Z0y l:=by
  intro l;induction l with
  | nil=>intro h; cases h
  | cons y l ih =>
    intro h;simp only [Z0y,List.mem_append];rcases List.mem_cons.1 h with rfl | h;·exact .inl hx
    ·exact .inr (ih h)
 exact key _ h
theorem Zlo (w:World) (B:Nat) (a k:ATree) (hT:TreeAt w B a) (hm:a.many < 1099511627776) (hk:k∈a.kids) (l:List ByteArray) (w1:World) (hI:VInv w w.heap.size (Z5g a) l w1) :
 Calls Tryz.prog 25 #[k.ptr,.func (.func 108) #[] #[.pointer (some ⟨w.heap.size,0,none⟩)]] w1 fun e w'=>e=.returned (.tuple #[])∧VInv w w.heap.size (Z5g a) (Z2g Z2f k l) w':=
 Zky ⟨w.heap.size,0,none⟩ (VInv w w.heap.size (Z5g a)) Z2f B k.many k (Y5 _) (fun s w1 h=>h.tree (hT.kid hk) (Y5 _))
  l (fun x s hx w1 h=>Zhl w w.heap.size B (Z5g a) (by unfold Z5g; rw [Yx,Z1d]; obtain ⟨b,v,kk,t,m,ks⟩:=a; simp only [ATree.many] at hm; simp only [ATree.kids]; omega) (Y5 _) x (Z5v (hT.kid hk) hx.sub) (Zd5 hk hx.sub) s w1 h) w1 hI
theorem Zji (w:World) (B:Nat) (a:ATree) (hT:TreeAt w B a) (hm:a.many < 1099511627776) :
 Calls Tryz.prog 94 #[a.ptr] w fun e w'=>∃ v,e=.returned v∧Zr w' w.heap.size v (Z57 a)∧Below w.heap.size w w'∧(Z57 a).length≤a.many:=by
 have HW:=lh (Zlo w B a · hT hm);have hmf:∀ (fn:Fn) (first cap:Array Value) (w:World),(Instr.makeFunc fn first cap).run Tryz.prog w=.ok (.func fn first cap) w:=fun _ _ _ _=>rfl;have hblk:=hT.blkOf;obtain ⟨p,cp,hv,hge,hmx⟩:=hT.vOf;have c3:w.cell? ⟨a.b,3,none⟩=some (.slice p a.kids.length cp):=by rw [← hv]; exact hT.c3
 have hlen:a.kids.length≤9223372036854775807:=by unfold maxLen at hmx; omega
 have hab:=hT.lt;have c3':(w.alloc (.cells #[.slice none 0 0] 51)).cell? ⟨a.b,3,none⟩=some (.slice p a.kids.length cp):=(Z4 hab).trans c3;have HT:=lh hT;have HV:=lh hv;have HM:=lh hm;unfold ATree.ptr;obtain ⟨n,hnn⟩:=zX a.kids.length
 rw [← hnn] at c3 hlen hge c3';have HN:=lh hnn;have hstart:VInv w w.heap.size (Z5g a) [] (w.alloc (.cells #[.slice none 0 0] 51)):=
  ⟨⟨_,by rw [World.alloc]; simp,Zr.nil _ _⟩,(Y8 _ _).alloc (Y5 _) _,List.nodup_nil,fun _ h=>by cases h⟩
 have HS:=lh hstart;clear hblk hv hnn hT hstart hm;go_enter Tryz.func94,Tryz.ntmps94
 go_wp2_with fail
 go_loopw [13] (fun i wr=>∃ (k:Nat),k≤n∧i=.int .i64 k∧Hid (VInv w w.heap.size (Z5g a) (Z16 Z2f (a.kids.take k) []) wr)) (fun i _=>n - (intOf i).toNat)
 case atStart=>exact ⟨0,Yp _,rfl,lh (by simpa [Z16] using HS.out)⟩
 case round=>
  obtain ⟨k,hk,rfl,HI⟩:=hrel;by_cases hkn:k < n
  ·obtain ⟨x, hx⟩ : ∃ x, a.kids[k]? = some x := ⟨_, Yd (by rw [← HN.out]; exact hkn)⟩
   have hT2:=HI.out.tree HT.out (Y5 _);have hrow:=hT2.rowOf;rcases Z7 hrow with ⟨_,h2⟩ | ⟨g0,cap0,hv0,_⟩;·rw [← HN.out] at h2; omega
   have hp:p=some ⟨g0,0,none⟩:=by
    have:=HV.out.symm.trans hv0;simp only [Value.slice.injEq] at this;exact this.1
   subst hp;have cx:=Ze hrow (g:=g0) (by rw [hv0]; rfl) (i:=k) (x:=x.ptr) (by rw [Yo,hx]; rfl);have hcall:=HW.out x (Yl hx) _ _ HI.out;unfold ATree.ptr at cx hcall;have HCALL:=lh hcall;have HX:=lh hx;clear hT2 hrow hv0 hx hcall;go_wp2_with fail
   refine HCALL.out.mono ?_;rintro e w1 ⟨rfl,hI1⟩;have HI1:=lh hI1;clear hI1 HCALL;go_wp2;go_roundw
   case rel=>exact ⟨k + 1,by omega,by go_num,lh (by rw [Zk HX.out,Z4s]; exact HI1.out)⟩
   case measure=>simp [intOf]; omega
  ·have hk2 : k = n := by omega
   subst hk2;obtain ⟨v,hb,htx⟩:=HI.out.cell;have cc:wr.cell? ⟨w.heap.size,0,none⟩=some v:=by simp [World.cell?,hb]
   have HTX:=lh htx;clear hb htx;go_wp2;go_ret;have hall:Z16 Z2f (a.kids.take k) []=Z57 a:=by rw [Ym (by rw [← HN.out]; exact Y5 _)]; rfl
   rw [← hall];refine ⟨_,rfl,HTX.out.base (Nat.le_succ _),HI.out.bel,?_⟩;have:=Zd4 _ _ HI.out.nd HI.out.sub;refine Ya this ?_;unfold Z5g;rw [Yx,Z1d];obtain ⟨b,v,kk,t,m,ks⟩:=a;simp only [ATree.many,ATree.kids];omega
def Z1w (a:ATree):Bool:=Zt a.text Zn && (a.kind == 1 || a.kind == 6)
def Z0l (l:List ByteArray) (ks:List ATree):List ByteArray:=ks.foldl (fun l k=>addL l k.text) l
theorem Z5x (l:List ByteArray) (ks:List ATree) (k:ATree):Z0l l (ks ++ [k])=addL (Z0l l ks) k.text:=by simp [Z0l,List.foldl_append]
theorem Z2a (l:List ByteArray) (ks:List ATree):(Z0l l ks).length≤l.length + ks.length:=by
 induction ks generalizing l with
 | nil=>simp [Z0l]
 | cons k ks ih =>
   have h1:=ih (addL l k.text);have h2:=Z7g l k.text;simp only [Z0l,List.foldl_cons,List.length_cons] at h1 ⊢;omega
def Z0b (body:Bool) (a:ATree):List ByteArray:=Z0l (Z0l (if body then Z57 a else []) (a.kids.filter Z20)) (a.kids.filter Z2j)
theorem Z11.far {w w':World} {B B':Nat} {v v':Value} {l:List ATree} {ks:List ByteArray} (h:Z11 w B v l) (ht:Zr w B' v' ks) (hf:∀ k,k < w.heap.size→v'.ownBlock≠some k→w'.heap[k]?=w.heap[k]?):Z11 w' B v l:=by
 refine Zb h fun k hk=>hf k (Yh h k hk).2 fun e=>?_;obtain ⟨c1,f1,h1⟩:=Lib.ownsRow_kind h k hk;obtain ⟨c2,f2,h2⟩:=Lib.ownsRow_kind ht k e;rw [h1] at h2;simp only [Option.some.injEq,Obj.cells.injEq] at h2;exact absurd h2.2.1 (by decide)
theorem Zfk (w:World) (B0:Nat) (a:ATree) (hT:TreeAt w B0 a) (hm:a.many < 274877906944) :
 Calls Tryz.prog 72 #[a.ptr,.bool true] w fun e w'=>∃ v,e=.returned v∧Zr w' w.heap.size v (Z0b true a)∧Below w.heap.size w w':=by
 have hkl:=Z78 a;have HT:=lh hT;have hfu:(a.kids.filter Z20).length≤a.kids.length:=List.length_filter_le _ _;have hle:(a.kids.filter Z2j).length≤a.kids.length:=List.length_filter_le _ _;have hfk:∀ x,x∈a.kids.filter Z20→x∈a.kids:=fun x hx=>(List.mem_filter.1 hx).1;have hlk:∀ x,x∈a.kids.filter Z2j→x∈a.kids:=fun x hx=>(List.mem_filter.1 hx).1;have HFK:=lh hfk;have HLK:=lh hlk;have hF:=fun (w':World) (h:TreeAt w' B0 a)=>Zc1 w' B0 a h (by omega);have hL:=fun (w':World) (h:TreeAt w' B0 a)=>Zb7 w' B0 a h (by omega)
 obtain ⟨P,hP⟩:=zX (a.kids.filter Z20)
 obtain ⟨Q,hQ⟩:=zX (a.kids.filter Z2j)
 unfold Z0b;simp only [if_true];rw [← hP] at hfu HFK;rw [← hQ] at hle HLK;simp only [← hP] at hF;simp only [← hQ] at hL;rw [← hP,← hQ];clear hP hQ hfk hlk hT;have HF:=lh hF;have HL:=lh hL;clear hF hL;have hV:=Zji w B0 a HT.out (by omega);obtain ⟨l0,hl0⟩:=zX (Z57 a)
 rw [← hl0] at hV ⊢;have HV:=lh hV;clear hV hl0;unfold ATree.ptr at HF HL HV ⊢;go_enter Tryz.func72,Tryz.ntmps72
 go_wp2_with fail
 refine HV.out.mono ?_;rintro e w1 ⟨v1,rfl,ht1,hb1,hl1⟩;have TX1:=lh ht1;have HB1:=lh hb1;clear HV ht1 hb1;go_wp2_with fail
 refine (HF.out w1 (HT.out.bel HB1.out)).mono ?_;rintro e w2 ⟨v2,rfl,hn2,hb2⟩;obtain ⟨p2,cp2,rfl,hge2,hmx2⟩:∃ p cp,v2=.slice p P.length cp∧P.length≤cp∧cp≤maxLen:=by
  rcases hn2.form with ⟨h1,h2⟩ | ⟨g,cap,h1,h2,h3⟩;·exact ⟨none,0,by rw [h1,h2]; rfl,by rw [h2]; exact Y5 _,by unfold maxLen; omega⟩
  ·exact ⟨_,_,h1,h2,h3⟩
 have TX2:=lh (TX1.out.bel hb2);have HB2:=lh (HB1.out.trans (hb2.mono HB1.out.size));have N2:=lh hn2;obtain ⟨m,hm1⟩:=zX P.length
 have hmq:m≤9223372036854775807:=by unfold maxLen at hmx2; omega
 rw [← hm1] at hge2 N2 hfu ⊢;have HM1:=lh hm1;clear hn2 hb2 hm1 TX1 HB1;go_wp2_with fail
 go_loopw [5,16] (fun v i wr=>∃ (k:Nat) (v':Value),v'=v∧k≤m∧i=.int .i64 k∧Hid (Zr wr w.heap.size v' (Z0l l0 (P.take k)))∧Hid (Z11 wr w1.heap.size (.slice p2 m cp2) P)∧Hid (Below w.heap.size w wr)) (fun _ i _=>m - (intOf i).toNat)
 case atStart=>exact ⟨0,_,rfl,Yp _,rfl,TX2,N2,HB2⟩
 case round=>
  obtain ⟨k,v,rfl,hk,rfl,TX,NO,HB⟩:=hrel;clear TX2 N2 HB2;by_cases hkn:k < m
  ·obtain ⟨x, hx⟩ : ∃ x, P[k]? = some x := ⟨_, Yd (by rw [← HM1.out]; exact hkn)⟩
   obtain ⟨g0,hp⟩:∃ g,p2=some ⟨g,0,none⟩:=by
    rcases NO.out.form with ⟨h1,h2⟩ | ⟨g,cap,h1,_⟩;·rw [h2] at hx; simp at hx
    ·simp only [Value.slice.injEq] at h1; exact ⟨g,h1.1⟩
   subst hp;have cx:=NO.out.cell rfl hx;have hTx:=(HT.out.bel HB.out).kid (HFK.out x (Yl hx));have c1:=hTx.c1;have hln:(Z0l l0 (P.take k)).length < 1099511627776:=by
    have:=Z2a l0 (P.take k);have h3:(P.take k).length≤k:=by simp; omega
    have h4:=HM1.out;omega
   have HA:=lh (Z9j wr w.heap.size v _ x.text TX.out HB.out.size hln);have HX:=lh hx;clear hTx hx hln;go_wp2_with fail
   refine HA.out.mono ?_;rintro e w3 ⟨v3,rfl,ht3,hb3,hf3⟩;have hsn:Z0l l0 (P.take (k + 1))=addL (Z0l l0 (P.take k)) x.text:=by rw [Zk HX.out,Z5x]
   have TX3:Hid (Zr w3 w.heap.size v3 (Z0l l0 (P.take (k + 1)))):=lh (by rw [hsn]; exact ht3);have N3:=lh (NO.out.far TX.out hf3);have HB3:=lh (HB.out.trans hb3);clear HA ht3 hb3 hf3 hsn;go_wp2;go_roundw
   case rel=>exact ⟨k + 1,_,rfl,by omega,by go_num,TX3,N3,HB3⟩
   case measure=>simp [intOf]; omega
  ·have hk2 : k = m := by omega
   subst hk2;have hend:Zr wr w.heap.size v (Z0l l0 P):=by
    have:=TX.out;rwa [Ym (by rw [← HM1.out]; exact Y5 _)] at this
   have TX3:=lh hend;have hl3:=Z2a l0 P;obtain ⟨l1,hl1⟩:=zX (Z0l l0 P)
   rw [← hl1] at TX3 hl3;have HL1:=lh hl1;clear hend TX NO hl1;go_wp2_with fail
   refine (HL.out wr (HT.out.bel HB.out)).mono ?_;rintro e w4 ⟨v4,rfl,hn4,hb4⟩;obtain ⟨p4,cp4,rfl,hge4,hmx4⟩:∃ p cp,v4=.slice p Q.length cp∧Q.length≤cp∧cp≤maxLen:=by
    rcases hn4.form with ⟨h1,h2⟩ | ⟨g,cap,h1,h2,h3⟩;·exact ⟨none,0,by rw [h1,h2]; rfl,by rw [h2]; exact Y5 _,by unfold maxLen; omega⟩
    ·exact ⟨_,_,h1,h2,h3⟩
   have TX4:=lh (TX3.out.bel hb4);have HB4:=lh (HB.out.trans (hb4.mono HB.out.size));have N4:=lh hn4;obtain ⟨q,hq1⟩:=zX Q.length
   have hqq:q≤9223372036854775807:=by unfold maxLen at hmx4; omega
   rw [← hq1] at hge4 N4 hle ⊢;have HQ1:=lh hq1;clear hn4 hb4 hq1 TX3 HB;obtain ⟨bb,hbb⟩:=zX wr.heap.size
   rw [← hbb] at N4;clear hbb;go_wp2_with fail
   go_loopw [5,30] (fun v i wr=>∃ (k:Nat) (v':Value),v'=v∧k≤q∧i=.int .i64 k∧Hid (Zr wr w.heap.size v' (Z0l l1 (Q.take k)))∧Hid (Z11 wr bb (.slice p4 q cp4) Q)∧Hid (Below w.heap.size w wr)) (fun _ i _=>q - (intOf i).toNat)
   case atStart=>exact ⟨0,_,rfl,Yp _,rfl,TX4,N4,HB4⟩
   case round=>
    obtain ⟨k,v,rfl,hk,rfl,TX,NO,HB⟩:=hrel;clear TX4 N4 HB4;by_cases hkn:k < q
    ·obtain ⟨x, hx⟩ : ∃ x, Q[k]? = some x := ⟨_, Yd (by rw [← HQ1.out]; exact hkn)⟩
     obtain ⟨g0,hp⟩:∃ g,p4=some ⟨g,0,none⟩:=by
      rcases NO.out.form with ⟨h1,h2⟩ | ⟨g,cap,h1,_⟩;·rw [h2] at hx; simp at hx
      ·simp only [Value.slice.injEq] at h1; exact ⟨g,h1.1⟩
     subst hp;have cx:=NO.out.cell rfl hx;have hTx:=(HT.out.bel HB.out).kid (HLK.out x (Yl hx));have c1:=hTx.c1;have hln:(Z0l l1 (Q.take k)).length < 1099511627776:=by
      have:=Z2a l1 (Q.take k);have h3:(Q.take k).length≤k:=by simp; omega
      have h4:=HM1.out;omega
     have HA:=lh (Z9j wr w.heap.size v _ x.text TX.out HB.out.size hln);have HX:=lh hx;clear hTx hx hln;go_wp2_with fail
     refine HA.out.mono ?_;rintro e w3 ⟨v3,rfl,ht3,hb3,hf3⟩;have hsn:Z0l l1 (Q.take (k + 1))=addL (Z0l l1 (Q.take k)) x.text:=by rw [Zk HX.out,Z5x]
     have TX3:Hid (Zr w3 w.heap.size v3 (Z0l l1 (Q.take (k + 1)))):=lh (by rw [hsn]; exact ht3);have N3:=lh (NO.out.far TX.out hf3);have HB3:=lh (HB.out.trans hb3);clear HA ht3 hb3 hf3 hsn;go_wp2;go_roundw
     case rel=>exact ⟨k + 1,_,rfl,by omega,by go_num,TX3,N3,HB3⟩
     case measure=>simp [intOf]; omega
    ·have hk2 : k = q := by omega
     subst hk2;have hend:Zr wr w.heap.size v (Z0l l1 Q):=by
      have:=TX.out;rwa [Ym (by rw [← HQ1.out]; exact Y5 _)] at this
     have TX5:=lh hend;clear hend TX;go_wp2;go_ret;rw [← HL1.out];exact ⟨_,rfl,TX5.out,HB.out⟩
theorem Zdb (w:World) (B0:Nat) (a:ATree) (hT:TreeAt w B0 a) (hm:a.many < 274877906944) :
 Calls Tryz.prog 72 #[a.ptr,.bool false] w fun e w'=>∃ v,e=.returned v∧Zr w' w.heap.size v (Z0b false a)∧Below w.heap.size w w':=by
 have hkl:=Z78 a;have HT:=lh hT;have hfu:(a.kids.filter Z20).length≤a.kids.length:=List.length_filter_le _ _;have hle:(a.kids.filter Z2j).length≤a.kids.length:=List.length_filter_le _ _;have hfk:∀ x,x∈a.kids.filter Z20→x∈a.kids:=fun x hx=>(List.mem_filter.1 hx).1;have hlk:∀ x,x∈a.kids.filter Z2j→x∈a.kids:=fun x hx=>(List.mem_filter.1 hx).1;have HFK:=lh hfk;have HLK:=lh hlk;have hF:=fun (w':World) (h:TreeAt w' B0 a)=>Zc1 w' B0 a h (by omega);have hL:=fun (w':World) (h:TreeAt w' B0 a)=>Zb7 w' B0 a h (by omega)
 obtain ⟨P,hP⟩:=zX (a.kids.filter Z20)
 obtain ⟨Q,hQ⟩:=zX (a.kids.filter Z2j)
 unfold Z0b;simp only [Bool.false_eq_true,if_false];rw [← hP] at hfu HFK;rw [← hQ] at hle HLK;simp only [← hP] at hF;simp only [← hQ] at hL;rw [← hP,← hQ];clear hP hQ hfk hlk hT;have HF:=lh hF;have HL:=lh hL;clear hF hL;obtain ⟨l0,hl0⟩:∃ l:List ByteArray,l=[]:=⟨_,rfl⟩
 have hl1:l0.length≤a.many:=by rw [hl0]; exact Yp _
 have TX1:Hid (Zr w w.heap.size (.slice none 0 0) l0):=lh (by rw [hl0]; exact Zr.nil _ _);rw [← hl0];have HB1:=lh (Y8 w.heap.size w);clear hl0;unfold ATree.ptr at HF HL ⊢;go_enter Tryz.func72,Tryz.ntmps72
 go_wp2_with fail
 refine (HF.out w (HT.out.bel HB1.out)).mono ?_;rintro e w2 ⟨v2,rfl,hn2,hb2⟩;obtain ⟨p2,cp2,rfl,hge2,hmx2⟩:∃ p cp,v2=.slice p P.length cp∧P.length≤cp∧cp≤maxLen:=by
  rcases hn2.form with ⟨h1,h2⟩ | ⟨g,cap,h1,h2,h3⟩;·exact ⟨none,0,by rw [h1,h2]; rfl,by rw [h2]; exact Y5 _,by unfold maxLen; omega⟩
  ·exact ⟨_,_,h1,h2,h3⟩
 have TX2:=lh (TX1.out.bel hb2);have HB2:=lh (HB1.out.trans (hb2.mono HB1.out.size));have N2:=lh hn2;obtain ⟨m,hm1⟩:=zX P.length
 have hmq:m≤9223372036854775807:=by unfold maxLen at hmx2; omega
 rw [← hm1] at hge2 N2 hfu ⊢;have HM1:=lh hm1;clear hn2 hb2 hm1 TX1 HB1;go_wp2_with fail
 go_loopw [5,16] (fun v i wr=>∃ (k:Nat) (v':Value),v'=v∧k≤m∧i=.int .i64 k∧Hid (Zr wr w.heap.size v' (Z0l l0 (P.take k)))∧Hid (Z11 wr w.heap.size (.slice p2 m cp2) P)∧Hid (Below w.heap.size w wr)) (fun _ i _=>m - (intOf i).toNat)
 case atStart=>exact ⟨0,_,rfl,Yp _,rfl,TX2,N2,HB2⟩
 case round=>
  obtain ⟨k,v,rfl,hk,rfl,TX,NO,HB⟩:=hrel;clear TX2 N2 HB2;by_cases hkn:k < m
  ·obtain ⟨x, hx⟩ : ∃ x, P[k]? = some x := ⟨_, Yd (by rw [← HM1.out]; exact hkn)⟩
   obtain ⟨g0,hp⟩:∃ g,p2=some ⟨g,0,none⟩:=by
    rcases NO.out.form with ⟨h1,h2⟩ | ⟨g,cap,h1,_⟩;·rw [h2] at hx; simp at hx
    ·simp only [Value.slice.injEq] at h1; exact ⟨g,h1.1⟩
   subst hp;have cx:=NO.out.cell rfl hx;have hTx:=(HT.out.bel HB.out).kid (HFK.out x (Yl hx));have c1:=hTx.c1;have hln:(Z0l l0 (P.take k)).length < 1099511627776:=by
    have:=Z2a l0 (P.take k);have h3:(P.take k).length≤k:=by simp; omega
    have h4:=HM1.out;omega
   have HA:=lh (Z9j wr w.heap.size v _ x.text TX.out HB.out.size hln);have HX:=lh hx;clear hTx hx hln;go_wp2_with fail
   refine HA.out.mono ?_;rintro e w3 ⟨v3,rfl,ht3,hb3,hf3⟩;have hsn:Z0l l0 (P.take (k + 1))=addL (Z0l l0 (P.take k)) x.text:=by rw [Zk HX.out,Z5x]
   have TX3:Hid (Zr w3 w.heap.size v3 (Z0l l0 (P.take (k + 1)))):=lh (by rw [hsn]; exact ht3);have N3:=lh (NO.out.far TX.out hf3);have HB3:=lh (HB.out.trans hb3);clear HA ht3 hb3 hf3 hsn;go_wp2;go_roundw
   case rel=>exact ⟨k + 1,_,rfl,by omega,by go_num,TX3,N3,HB3⟩
   case measure=>simp [intOf]; omega
  ·have hk2 : k = m := by omega
   subst hk2;have hend:Zr wr w.heap.size v (Z0l l0 P):=by
    have:=TX.out;rwa [Ym (by rw [← HM1.out]; exact Y5 _)] at this
   have TX3:=lh hend;have hl3:=Z2a l0 P;obtain ⟨l1,hl1⟩:=zX (Z0l l0 P)
   rw [← hl1] at TX3 hl3;have HL1:=lh hl1;clear hend TX NO hl1;go_wp2_with fail
   refine (HL.out wr (HT.out.bel HB.out)).mono ?_;rintro e w4 ⟨v4,rfl,hn4,hb4⟩;obtain ⟨p4,cp4,rfl,hge4,hmx4⟩:∃ p cp,v4=.slice p Q.length cp∧Q.length≤cp∧cp≤maxLen:=by
    rcases hn4.form with ⟨h1,h2⟩ | ⟨g,cap,h1,h2,h3⟩;·exact ⟨none,0,by rw [h1,h2]; rfl,by rw [h2]; exact Y5 _,by unfold maxLen; omega⟩
    ·exact ⟨_,_,h1,h2,h3⟩
   have TX4:=lh (TX3.out.bel hb4);have HB4:=lh (HB.out.trans (hb4.mono HB.out.size));have N4:=lh hn4;obtain ⟨q,hq1⟩:=zX Q.length
   have hqq:q≤9223372036854775807:=by unfold maxLen at hmx4; omega
   rw [← hq1] at hge4 N4 hle ⊢;have HQ1:=lh hq1;clear hn4 hb4 hq1 TX3 HB;obtain ⟨bb,hbb⟩:=zX wr.heap.size
   rw [← hbb] at N4;clear hbb;go_wp2_with fail
   go_loopw [5,30] (fun v i wr=>∃ (k:Nat) (v':Value),v'=v∧k≤q∧i=.int .i64 k∧Hid (Zr wr w.heap.size v' (Z0l l1 (Q.take k)))∧Hid (Z11 wr bb (.slice p4 q cp4) Q)∧Hid (Below w.heap.size w wr)) (fun _ i _=>q - (intOf i).toNat)
   case atStart=>exact ⟨0,_,rfl,Yp _,rfl,TX4,N4,HB4⟩
   case round=>
    obtain ⟨k,v,rfl,hk,rfl,TX,NO,HB⟩:=hrel;clear TX4 N4 HB4;by_cases hkn:k < q
    ·obtain ⟨x, hx⟩ : ∃ x, Q[k]? = some x := ⟨_, Yd (by rw [← HQ1.out]; exact hkn)⟩
     obtain ⟨g0,hp⟩:∃ g,p4=some ⟨g,0,none⟩:=by
      rcases NO.out.form with ⟨h1,h2⟩ | ⟨g,cap,h1,_⟩;·rw [h2] at hx; simp at hx
      ·simp only [Value.slice.injEq] at h1; exact ⟨g,h1.1⟩
     subst hp;have cx:=NO.out.cell rfl hx;have hTx:=(HT.out.bel HB.out).kid (HLK.out x (Yl hx));have c1:=hTx.c1;have hln:(Z0l l1 (Q.take k)).length < 1099511627776:=by
      have:=Z2a l1 (Q.take k);have h3:(Q.take k).length≤k:=by simp; omega
      have h4:=HM1.out;omega
     have HA:=lh (Z9j wr w.heap.size v _ x.text TX.out HB.out.size hln);have HX:=lh hx;clear hTx hx hln;go_wp2_with fail
     refine HA.out.mono ?_;rintro e w3 ⟨v3,rfl,ht3,hb3,hf3⟩;have hsn:Z0l l1 (Q.take (k + 1))=addL (Z0l l1 (Q.take k)) x.text:=by rw [Zk HX.out,Z5x]
     have TX3:Hid (Zr w3 w.heap.size v3 (Z0l l1 (Q.take (k + 1)))):=lh (by rw [hsn]; exact ht3);have N3:=lh (NO.out.far TX.out hf3);have HB3:=lh (HB.out.trans hb3);clear HA ht3 hb3 hf3 hsn;go_wp2;go_roundw
     case rel=>exact ⟨k + 1,_,rfl,by omega,by go_num,TX3,N3,HB3⟩
     case measure=>simp [intOf]; omega
    ·have hk2 : k = q := by omega
     subst hk2;have hend:Zr wr w.heap.size v (Z0l l1 Q):=by
      have:=TX.out;rwa [Ym (by rw [← HQ1.out]; exact Y5 _)] at this
     have TX5:=lh hend;clear hend TX;go_wp2;go_ret;rw [← HL1.out];exact ⟨_,rfl,TX5.out,HB.out⟩
theorem Zcn (body:Bool) (w:World) (B0:Nat) (a:ATree) (hT:TreeAt w B0 a) (hm:a.many < 274877906944) :
 Calls Tryz.prog 72 #[a.ptr,.bool body] w fun e w'=>∃ v,e=.returned v∧Zr w' w.heap.size v (Z0b body a)∧Below w.heap.size w w':=by
 cases body;·exact Zdb w B0 a hT hm
 ·exact Zfk w B0 a hT hm
theorem Zad (w:World) (B:Nat) (a:ATree) (hT:TreeAt w B a) :
 Calls Tryz.prog 15 #[a.ptr] w fun e w'=>e=.returned (.bool (Z1w a))∧w'=w:=by
 have c0:=hT.c0;have c1:=hT.c1;unfold Z1w ATree.ptr;obtain ⟨kd,hkd⟩:=zX a.kind
 obtain ⟨tx,htx⟩:=zX a.text
 rw [← hkd] at c0 ⊢;rw [← htx] at c1 ⊢;clear hkd htx hT;by_cases hs:tx=Zn
 ·subst hs;have hss : Zt Zn Zn = true := by simp [Zt]
  rw [hss];unfold Zn at c1;rcases (by omega:kd=1∨kd=6∨(kd≠1∧kd≠6)) with h3 | h3 | ⟨h3,h4⟩
  ·subst h3;go_enter Tryz.func15, Tryz.ntmps15
   go_wp2;go_ret;exact ⟨rfl,rfl⟩
  ·subst h3;go_enter Tryz.func15, Tryz.ntmps15
   go_wp2;go_ret;exact ⟨rfl,rfl⟩
  ·have n3 : (kd == 1) = false := by simpa using h3
   have n4:(kd == 6)=false:=by simpa using h4
   clear h3 h4;rw [n3,n4];go_enter Tryz.func15,Tryz.ntmps15
   go_wp2;go_ret;exact ⟨rfl,rfl⟩
 ·have hne : Zt tx Zn = false := by simp [Zt, hs]
  rw [hne];have hne2:(tx.toList == Zn.toList)=false:=by rw [Z26]; exact hne
  have hne3:(tx.toList == [115,116,114,105,99,116])=false:=by
   have:Zn.toList=[115,116,114,105,99,116]:=by kernel_rfl
   rwa [this] at hne2
  clear hne2;clear hs hne;go_enter Tryz.func15,Tryz.ntmps15
  go_wp2;go_ret;exact ⟨rfl,rfl⟩
end Go.Proofs.YtfilfhpfndaniaaGreatDoor
namespace Go.Proofs.YtfilfhpfndaniaaGreatDoor
open Go Go.RowKit Go.ChangeMaps Go.MapKept
set_option maxRecDepth 100000
set_option maxHeartbeats 20000000
set_option linter.unusedVariables false
def Z30 (b:Nat):Value:=.pointer (some ⟨b,0,none⟩)
def Z3s (w:World) (k:Nat):Prop:=∃ c t,w.heap[k]?=some (.cells c t (0,0))
def PMap (w:World) (b:Nat) (l:List (Nat×Nat)):Prop:=
 ∃ es clock,w.heap[b]?=some (.map es clock)∧es.toList.map (fun e=>(e.key,e.val))=l.map (fun x=>(Z30 x.1,Value.int .i64 x.2))∧Go.MapKept.Stamped es clock
theorem Zas (w:World) (a b:Nat) (ha:Z3s w a) (hb:Z3s w b):(Op.equal 22 (Z30 a) (Z30 b)).run Tryz.prog w=.ok (decide (a=b)) w:=by
 obtain ⟨c1,t1,h1⟩:=ha;obtain ⟨c2,t2,h2⟩:=hb;have hsz:(sizeOf 62).run Tryz.prog w=.ok 4 w:=by kernel_rfl
 show (Op.equalIn (9999 + 1) _ _ _).run Tryz.prog w=_;unfold Op.equalIn Z30;simp only [Sem.run_bind,run_underlying Tryz.underlying22,Result.andThen,hsz];by_cases h:a=b
 ·subst h;simp [run_sameAddr_same]
 ·have hne:(⟨a,0,none⟩:Addr)≠⟨b,0,none⟩:=fun e=>h (congrArg Addr.block e);rw [decide_eq_false h];simp;exact run_sameAddr_other w hne h1 h2
theorem Zjx (w:World) (k:Nat) (hk:Z3s w k):∀ (es:List MapEntry) (l:List (Nat×Nat)) (i:Nat),es.map (fun e=>(e.key,e.val))=l.map (fun x=>(Z30 x.1,Value.int .i64 x.2))→(∀ x∈l,Z3s w x.1∧x.1≠k) →
 (Instr.findAsking 22 (Z30 k) es i).run Tryz.prog w=.ok none w:=by
 intro es;induction es with
 | nil=>intro l i _ _; rfl
 | cons e es ih =>
   intro l i hl hx;cases l with
   | nil=>simp at hl
   | cons x l =>
     simp only [List.map_cons,List.cons.injEq,Prod.mk.injEq] at hl;obtain ⟨⟨h1,h2⟩,h3⟩:=hl;have hx0:=hx x (by simp);unfold Instr.findAsking;rw [h1];simp only [Sem.run_bind,Zas w k x.1 hk hx0.1,Result.andThen];rw [show decide (k=x.1)=false by simp; exact fun e=>hx0.2 e.symm];exact ih l (i + 1) h3 fun y hy=>hx y (List.mem_cons_of_mem _ hy)
theorem Zir (w:World) (k v:Nat) (hk:Z3s w k):∀ (es:List MapEntry) (l:List (Nat×Nat)) (i:Nat),es.map (fun e=>(e.key,e.val))=l.map (fun x=>(Z30 x.1,Value.int .i64 x.2))→(∀ x∈l,Z3s w x.1)→(l.map (·.1)).Nodup→(k,v)∈l →
 ∃ j,(Instr.findAsking 22 (Z30 k) es i).run Tryz.prog w=.ok (some (j,.int .i64 v)) w:=by
 intro es;induction es with
 | nil=>intro l i hl _ _ hm; cases l; (cases hm); (simp at hl)
 | cons e es ih =>
   intro l i hl hx hd hm;cases l with
   | nil=>cases hm
   | cons x l =>
     simp only [List.map_cons,List.cons.injEq,Prod.mk.injEq] at hl;obtain ⟨⟨h1,h2⟩,h3⟩:=hl;have hx0:=hx x (by simp);rw [List.map_cons,List.nodup_cons] at hd;unfold Instr.findAsking;rw [h1];simp only [Sem.run_bind,Zas w k x.1 hk hx0,Result.andThen];by_cases hkx:k=x.1
     ·have hv:x=(k,v):=by
       rcases List.mem_cons.1 hm with h | h;·exact h.symm
       ·exact absurd (List.mem_map.2 ⟨(k,v),h,hkx⟩) hd.1
      rw [decide_eq_true hkx];refine ⟨i,?_⟩;rw [h2,hv];rfl
     ·rw [decide_eq_false hkx];refine ih l (i + 1) h3 (fun y hy => hx y (List.mem_cons_of_mem _ hy)) hd.2 ?_;rcases List.mem_cons.1 hm with h | h;·exact absurd (by rw [← h]) hkx
      ·exact h
theorem Zeq (k:Nat) (es:List MapEntry) (l:List (Nat×Nat)) (h:es.map (fun e=>(e.key,e.val))=l.map (fun x=>(Z30 x.1,Value.int .i64 x.2))) :
 (l=[]∧Instr.findNow (.pointer 62) (Z30 k) es 0=some none)∨(l≠[]∧Instr.findNow (.pointer 62) (Z30 k) es 0=none):=by
 cases es with
 | nil =>
   cases l with
   | nil=>exact .inl ⟨rfl,rfl⟩
   | cons x l=>simp at h
 | cons e es =>
   cases l with
   | nil=>simp at h
   | cons x l =>
     simp only [List.map_cons,List.cons.injEq,Prod.mk.injEq] at h;refine .inr ⟨by simp,?_⟩;unfold Instr.findNow;rw [h.1.1];rfl
theorem Zjz {w:World} {k:Nat} (hk:Z3s w k) {es:List MapEntry} {l:List (Nat×Nat)} (h:es.map (fun e=>(e.key,e.val))=l.map (fun x=>(Z30 x.1,Value.int .i64 x.2))) (hx:∀ x∈l,Z3s w x.1∧x.1≠k) :
 (Instr.findKey 22 (Z30 k) es).run Tryz.prog w=.ok none w:=by
 unfold Instr.findKey;simp only [Sem.run_bind,run_underlying Tryz.underlying22,Result.andThen];rcases Zeq k es l h with ⟨_,h1⟩ | ⟨_,h1⟩;·rw [h1]; rfl
 ·rw [h1]; exact Zjx w k hk es l 0 h hx
theorem Zin {w:World} {k v:Nat} (hk:Z3s w k) {es:List MapEntry} {l:List (Nat×Nat)} (h:es.map (fun e=>(e.key,e.val))=l.map (fun x=>(Z30 x.1,Value.int .i64 x.2))) (hx:∀ x∈l,Z3s w x.1) (hd:(l.map (·.1)).Nodup) (hm:(k,v)∈l) :
 ∃ j,(Instr.findKey 22 (Z30 k) es).run Tryz.prog w=.ok (some (j,.int .i64 v)) w:=by
 unfold Instr.findKey;simp only [Sem.run_bind,run_underlying Tryz.underlying22,Result.andThen];rcases Zeq k es l h with ⟨h0,h1⟩ | ⟨_,h1⟩;·rw [h0] at hm; cases hm
 ·rw [h1]; exact Zir w k v hk es l 0 h hx hd hm
theorem Za9 (w:World) (e:Bool) (k:Nat):(Instr.checkKey e 10000 22 (Z30 k)).run Tryz.prog w=.ok () w:=by
 show (Instr.checkKey e (9999 + 1) _ _).run Tryz.prog w=_;unfold Instr.checkKey Z30;simp only [Sem.run_bind,run_underlying Tryz.underlying22,Result.andThen];rfl
theorem PMap.lookup {w:World} {b k v:Nat} {l:List (Nat×Nat)} (h:PMap w b l) (hx:∀ x∈l,Z3s w x.1) (hd:(l.map (·.1)).Nodup) (hm:(k,v)∈l) :
 (Instr.lookup 45 (.map (some b)) (Z30 k) false).run Tryz.prog w=.ok (.int .i64 v) w:=by
 obtain ⟨es,clock,hb,he,hst⟩:=h;obtain ⟨j,hj⟩:=Zin (hx _ hm) he hx hd hm;unfold Instr.lookup;simp [run_underlying Tryz.underlying45,Go.MapKept.run_getObj_map hb,Za9,hj,Result.andThen]
theorem PMap.update {w:World} {b k v:Nat} {l:List (Nat×Nat)} (h:PMap w b l) (hk:Z3s w k) (hx:∀ x∈l,Z3s w x.1∧x.1≠k) :
 ∃ w',(Instr.mapUpdate 45 (.map (some b)) (Z30 k) (.int .i64 v)).run Tryz.prog w=.ok () w'∧PMap w' b (l ++ [(k,v)])∧w.grownBy w' (some b):=by
 obtain ⟨es,clock,hb,he,hst⟩:=h;have hj:=Zjz hk he hx;refine ⟨setBlock w b (.map (es.push ⟨Z30 k,.int .i64 v,clock⟩) (clock + 1)),?_,⟨_,_,heap_setBlock_same hb _,?_,stamped_push hst fun x hx'=>?_⟩,⟨rfl,rfl,rfl,by simp [setBlock],fun i _ hi=>heap_setBlock_other hb _ (fun e=>hi (by rw [e]))⟩⟩
 ·unfold Instr.mapUpdate;simp [run_underlying Tryz.underlying45,Go.MapKept.run_getObj_map hb,Za9,hj,Go.MapKept.run_setObj_map _ hb,Result.andThen,setBlock]
 ·rw [Array.toList_push,Yw,Yw,he];rfl
 ·have h1:(x.key,x.val)∈es.toList.map (fun e=>(e.key,e.val)):=List.mem_map.2 ⟨x,hx',rfl⟩;rw [he] at h1;obtain ⟨y,hy,e⟩:=List.mem_map.1 h1;intro e2;have e3:x.key=Z30 y.1:=(congrArg Prod.fst e).symm;rw [e3] at e2;unfold Z30 at e2;simp only [Value.pointer.injEq,Option.some.injEq,Addr.mk.injEq,and_true] at e2;exact (hx y hy).2 e2
theorem Z4g (w:World) {ops:Array Oper} {rest:List Oper} {o:Oper} {a:Act} {Q:Exit→Act→World→Prop}
 (hg:o.guard=none) (m x y:Operand) (hop:o.op=Op.mapUpdate 45 m x y) (b k v:Nat) (l:List (Nat×Nat))
 (hm:a.eval m=.map (some b)) (hx:a.eval x=Z30 k) (hv:a.eval y=.int .i64 v) (h:PMap w b l) (hk:Z3s w k) (hl:∀ x∈l,Z3s w x.1∧x.1≠k)
 (hK:∀ w',PMap w' b (l ++ [(k,v)])→w.grownBy w' (some b)→wpList Tryz.prog ops Q rest (a.put o.dst undef) w') :
 wpList Tryz.prog ops Q (o :: rest) a w:=by
 refine wpList_plain hg fun K' hK'=>?_;obtain ⟨w',hrun,r1,r2⟩:=h.update (v:=v) hk hl;unfold Oper.wp;simp [execOp,hop,hm,hx,hv,hrun,Result.andThen];exact hK' _ _ (hK w' r1 r2)
theorem Z1f (w:World) {ops:Array Oper} {rest:List Oper} {o:Oper} {a:Act} {Q:Exit→Act→World→Prop}
 (hg:o.guard=none) (m x:Operand) (hop:o.op=Op.lookup 45 m x false) (b k v:Nat) (l:List (Nat×Nat))
 (hm:a.eval m=.map (some b)) (hx:a.eval x=Z30 k) (h:PMap w b l) (hl:∀ x∈l,Z3s w x.1) (hd:(l.map (·.1)).Nodup) (hin:(k,v)∈l)
 (hK:wpList Tryz.prog ops Q rest (a.put o.dst (.int .i64 v)) w) :
 wpList Tryz.prog ops Q (o :: rest) a w:=by
 refine wpList_plain hg fun K' hK'=>?_;have hrun:=h.lookup hl hd hin;unfold Oper.wp;simp [execOp,hop,hm,hx,hrun,Result.andThen];exact hK' _ _ hK
theorem PMap.len {w:World} {b:Nat} {l:List (Nat×Nat)} (h:PMap w b l):∃ es clock,w.heap[b]?=some (.map es clock)∧es.size=l.length:=by
 obtain ⟨es,clock,hb,he,hst⟩:=h;refine ⟨es,clock,hb,?_⟩;have:=congrArg List.length he;simpa using this
end Go.Proofs.YtfilfhpfndaniaaGreatDoor
namespace Go.Proofs.YtfilfhpfndaniaaGreatDoor
open Go Go.RowKit
set_option maxRecDepth 100000
set_option maxHeartbeats 20000000
set_option linter.unusedVariables false
theorem Zl8 (p0:Addr) {σ:Type} (Inv:σ→World→Prop) (g:σ→ATree→Bool×σ) (B:Nat):∀ (m:Nat) (a:ATree),a.many≤m→(∀ s w,Inv s w→TreeAt w B a) →
 ∀ s,(∀ x s',Reach g a s x s'→∀ w,Inv s' w→Calls Tryz.prog 37 #[x.ptr,.pointer (some p0)] w fun e w'=>e=.returned (.bool (g s' x).1)∧Inv (g s' x).2 w') →
 ∀ w,Inv s w→Calls Tryz.prog 25 #[a.ptr,.func (.func 37) #[] #[.pointer (some p0)]] w fun e w'=>e=.returned (.tuple #[])∧Inv (Z2g g a s) w':=by
 intro m;induction m with
 | zero=>intro a h; exfalso; cases a; simp [ATree.many] at h
 | succ m ih =>
   intro a hm hT s hg w hI;have IH:=lh ih;have HT:=lh hT;have HG:=lh hg;have HM:=lh hm;have HC:=hg a s (.self a s) w hI;rw [Z60];unfold ATree.ptr at HC ⊢;have hkid:∀ (i:Nat) (k x:ATree) (s':σ),(g s a).1=true→a.kids[i]?=some k→Reach g k (Z16 g (a.kids.take i) (g s a).2) x s'→Reach g a s x s':=fun i k x s' h1 h2 h3=>.kid h1 h2 h3;obtain ⟨ok,s1,hgs⟩:∃ ok s1,g s a=(ok,s1):=⟨_,_,rfl⟩
   rw [hgs] at HC hkid ⊢;have HKID:=lh hkid;clear hkid;have HC:=lh HC;clear ih hT hg hm hI hgs;cases ok
   ·go_enter Tryz.func25, Tryz.ntmps25
    go_wp2_with fail
    refine HC.out.mono ?_;rintro e w1 ⟨rfl,hI1⟩;have HI1:=lh hI1;clear hI1 HC;go_wp2;refine bodyPost_ret (results_none rfl _ _ _) rfl ?_;exact ⟨rfl,HI1.out⟩
   ·simp only [if_true];go_enter Tryz.func25, Tryz.ntmps25
    go_wp2_with fail
    refine HC.out.mono ?_;rintro e w1 ⟨rfl,hI1⟩;have hT1:=HT.out _ _ hI1;have hblk:=hT1.blkOf;have hrow:=hT1.rowOf;obtain ⟨p,cp,hv⟩:∃ p cp,a.v=.slice p a.kids.length cp:=by
     rcases Z7 hrow with ⟨h1,h2⟩ | ⟨g0,cap0,h1,_⟩;·exact ⟨none,0,by rw [h1,h2]⟩
     ·exact ⟨_,_,h1⟩
    rw [hv] at hblk;have c3:w1.cell? ⟨a.b,3,none⟩=some (.slice p a.kids.length cp):=by simp [World.cell?,hblk]
    have hlen:a.kids.length≤9223372036854775807:=by
     rcases Z7 hrow with ⟨h1,h2⟩ | ⟨g0,cap0,h1,k1,k2,k3⟩;·omega
     ·unfold maxLen at k2; omega
    have HI1:=lh hI1;have HV:=lh hv;obtain ⟨n,hn⟩:=zX a.kids.length
    rw [← hn] at c3 hlen;have HN:=lh hn;clear hI1 hT1 hblk hrow hv hn HC;go_wp2_with fail
    go_loopw [19] (fun i wr=>∃ k:Nat,k≤n∧i=.int .i64 k∧Hid (Inv (Z16 g (a.kids.take k) s1) wr)) (fun i _=>n - (intOf i).toNat)
    case atStart=>exact ⟨0,Yp _,rfl,lh (by simpa [Z16] using HI1.out)⟩
    case round=>
     obtain ⟨k,hk,rfl,HI⟩:=hrel;by_cases hkn:k < n
     ·obtain ⟨x, hx⟩ : ∃ x, a.kids[k]? = some x := ⟨_, Yd (by rw [← HN.out]; exact hkn)⟩
      have hT2:=HT.out _ _ HI.out;have hrow:=hT2.rowOf;rcases Z7 hrow with ⟨_,h2⟩ | ⟨g0,cap0,hv0,k1,k2,k3⟩;·rw [← HN.out] at h2; omega
      have hp:p=some ⟨g0,0,none⟩:=by
       have:=HV.out.symm.trans hv0;simp only [Value.slice.injEq] at this;exact this.1
      subst hp;have cx:=Ze hrow (g:=g0) (by rw [hv0]; rfl) (i:=k) (x:=x.ptr) (by rw [Yo,hx]; rfl);unfold ATree.ptr at cx;have hmem:x∈a.kids:=Yl hx;have hcall:=IH.out x (by have:=Z36 hmem; have:=HM.out; omega) (fun s w h=>(HT.out s w h).kid hmem) _ (fun y s' hy=>HG.out y s' (HKID.out k x y s' (by first | rfl | trivial) hx hy)) _ HI.out;unfold ATree.ptr at hcall;have HCALL:=lh hcall;have HX:=lh hx;have hge:n≤cp:=by
       have:=HV.out.symm.trans hv0;simp only [Value.slice.injEq] at this;rw [HN.out,this.2.2]; exact k1
      clear hx hT2 hrow hv0 k1 k2 k3 hmem hcall;go_wp2_with fail
      refine HCALL.out.mono ?_;rintro e w2 ⟨rfl,hI2⟩;have HI2:=lh hI2;clear hI2 HCALL;go_wp2;go_roundw
      case rel=>exact ⟨k + 1,by omega,by go_num,lh (by rw [Zk HX.out,Z4s]; exact HI2.out)⟩
      case measure=>simp [intOf]; omega
     ·have hk2 : k = n := by omega
      subst hk2;go_wp2;go_end0
      refine ⟨rfl,?_⟩;have:=HI.out;rwa [Ym (by rw [← HN.out]; exact Y5 _)] at this
def numG (l:List (Nat×Nat)) (a:ATree):Bool×List (Nat×Nat):=(true,l ++ [(a.b,l.length)])
mutual
theorem Z8t:∀ (a:ATree) (l:List (Nat×Nat)),(Z2g numG a l).map (·.1)=l.map (·.1) ++ a.subs.map (·.b)
 | .mk b v k t n ks, l => by
   simp only [Z2g,numG,if_true,ATree.subs,List.map_cons];rw [Z8w ks];simp [ATree.b]
theorem Z8w:∀ (ks:List ATree) (l:List (Nat×Nat)),(Z16 numG ks l).map (·.1)=l.map (·.1) ++ (Z0y ks).map (·.b)
 | [],l=>by simp [Z16,Z0y]
 | a :: ks, l => by
   simp only [Z16,Z0y,List.map_append];rw [Z8w ks,Z8t a,List.append_assoc]
end
theorem Z3p (l m:List ATree):Z0y (l ++ m)=Z0y l ++ Z0y m:=by
 induction l with
 | nil=>rfl
 | cons a l ih=>simp only [List.cons_append,Z0y,ih,List.append_assoc]
theorem Z6i (a:ATree):a.subs=a :: Z0y a.kids:=by cases a; rfl
theorem Zbp {l:List ATree} {i:Nat} {k:ATree} (h:l[i]?=some k):Z0y l=Z0y (l.take i) ++ (k.subs ++ Z0y (l.drop (i + 1))):=by
 obtain ⟨hi,hk⟩:=List.getElem?_eq_some_iff.1 h;have:l=l.take i ++ (k :: l.drop (i + 1)):=by
  rw [← hk,List.getElem_cons_drop,List.take_append_drop]
 rw [show Z0y l=Z0y (l.take i ++ (k :: l.drop (i + 1))) from congrArg Z0y this,Z3p];rfl
theorem Zeb {a x:ATree} {s s':List (Nat×Nat)} (h:Reach numG a s x s'):(s.map (·.1) ++ a.subs.map (·.b)).Nodup→x.b ∉ s'.map (·.1):=by
 induction h with
 | self a s =>
   intro hd hin;exact (List.nodup_append.1 hd).2.2 _ hin _ (List.mem_map.2 ⟨a,Z1m a,rfl⟩) rfl
 | @kid a k x s s' i ok hk h ih =>
   intro hd;refine ih ?_;rw [Z8w];simp only [numG,List.map_append,List.map_cons,List.map_nil];refine List.Nodup.sublist ?_ hd;rw [Z6i a,Zbp hk];simp only [List.map_cons,List.map_append,List.append_assoc,List.cons_append,List.nil_append];refine List.Sublist.append (List.Sublist.refl _) (List.Sublist.cons_cons _ (List.Sublist.append (List.Sublist.refl _) (List.sublist_append_left _ _)))
structure NInv (w0:World) (c mb:Nat) (l:List (Nat×Nat)) (w:World):Prop where
 cell:w.heap[c]?=some (.cells #[.map (some mb)] 45 (0,0))
 map:PMap w mb l
 bel:Below w0.heap.size w0 w
 le:w0.heap.size≤mb
 has:∀ x∈l,Z3s w0 x.1
theorem Z3s.bel {w0 w:World} {k:Nat} (h:Z3s w0 k) (g:Below w0.heap.size w0 w):Z3s w k:=by
 obtain ⟨c,t,h⟩:=h;exact ⟨c,t,(g.block k (Y6.1 h).1).trans h⟩
theorem TreeAt.cellsOf {w:World} {B:Nat} {a:ATree} (h:TreeAt w B a):Z3s w a.b:=⟨_,_,h.blkOf⟩
theorem Ziy (w0:World) (c mb B:Nat) (hcm:c≠mb) (x:ATree) (hx:TreeAt w0 B x) (l:List (Nat×Nat)) (w:World) (hI:NInv w0 c mb l w) (hf:x.b ∉ l.map (·.1)) :
 Calls Tryz.prog 37 #[x.ptr,.pointer (some ⟨c,0,none⟩)] w fun e w'=>e=.returned (.bool (numG l x).1)∧NInv w0 c mb (numG l x).2 w':=by
 have HI:=lh hI;obtain ⟨es,clock,hb,hes⟩:=hI.map.len;have hln:∀ ty,(Builtin.len_ #[45] ty #[.map (some mb)]).run Tryz.prog w=.ok (.int .i64 es.size) w:=fun ty=>by
  simp [Builtin.len_,run_underlying Tryz.underlying45,Go.MapKept.run_getObj_map hb,Result.andThen,goInt]
 have cc:w.cell? ⟨c,0,none⟩=some (.map (some mb)):=by simp [World.cell?,hI.cell]
 have HK:=lh (hx.cellsOf.bel hI.bel);have HL:=lh (show ∀ y∈l,Z3s w y.1∧y.1≠x.b from fun y hy=>⟨(hI.has y hy).bel hI.bel,fun e=>hf (List.mem_map.2 ⟨y,hy,e⟩)⟩);have HX:=lh hx;have HE:=lh hes;have HB:=lh (Y6.1 hI.cell).1;clear hI hx hf hes;unfold ATree.ptr;simp only [numG];go_enter Tryz.func37,Tryz.ntmps37
 go_wp2_with (at_mapUpdate; go_must (refine Z4g _ rfl _ _ _ rfl mb x.b es.size l rfl rfl rfl HI.out.map HK.out HL.out ?_); intro w1 hp1 hg1; have HP:=lh hp1; have HG:=lh hg1; clear hp1 hg1)
 go_ret;refine ⟨rfl,?_,?_,?_,HI.out.le,?_⟩;·exact (HG.out.block c HB.out (fun e=>hcm (Yk e))).trans HI.out.cell
 ·rw [← HE.out]; exact HP.out
 ·exact HI.out.bel.grown HG.out HI.out.bel.size fun k hk=>by cases hk; exact HI.out.le
 ·intro y hy;rcases List.mem_append.1 hy with h | h;·exact HI.out.has y h
  ·simp only [List.mem_singleton] at h;rw [h];exact HX.out.cellsOf
theorem Z2p (a:ATree):a.subs.length=a.many:=by
 obtain ⟨b,v,k,t,n,ks⟩:=a;simp only [ATree.subs,ATree.many,List.length_cons,Z1d]
theorem Zeu (w:World) (B:Nat) (a:ATree) (hT:TreeAt w B a) (hd:(a.subs.map (·.b)).Nodup) :
 Calls Tryz.prog 12 #[a.ptr] w fun e w'=>∃ mb,e=.returned (.map (some mb))∧PMap w' mb (Z2g numG a [])∧Below w.heap.size w w'∧w.heap.size≤mb:=by
 have hmf:∀ (fn:Fn) (first cap:Array Value) (w:World),(Instr.makeFunc fn first cap).run Tryz.prog w=.ok (.func fn first cap) w:=fun _ _ _ _=>rfl;have hmm:∀ w:World,(Instr.makeMap 45 none).run Tryz.prog w=.ok (.map (some w.heap.size)) (w.alloc (.map #[] 0)):=fun w=>run_makeMap _ w
 have HW:=lh (fun (w1:World) (h:NInv w (w.heap.size + 1) w.heap.size [] w1)=>Zl8 ⟨w.heap.size + 1,0,none⟩ (NInv w (w.heap.size + 1) w.heap.size) numG B a.many a (Y5 _) (fun s w1 h=>hT.keep fun k _ hk=>h.bel.block k hk) []
  (fun x s hx w1 h=>Ziy w (w.heap.size + 1) w.heap.size B (by omega) x (Z5v hT hx.sub) s w1 h (Zeb hx (by simpa using hd))) w1 h)
 have hstart:NInv w (w.heap.size + 1) w.heap.size [] ((w.alloc (.map #[] 0)).alloc (.cells #[.map (some w.heap.size)] 45)):=by
  refine ⟨?_,⟨#[],0,?_,rfl,Go.MapKept.stamped_empty 0⟩,((Y8 _ _).alloc (Y5 _) _).alloc (by simp) _,Y5 _,fun _ h=>by cases h⟩
  ·have:=(Go.MapKept.heap_alloc (w.alloc (.map #[] 0)) (.cells #[.map (some w.heap.size)] 45)).1;simpa using this
  ·exact ((Go.MapKept.heap_alloc (w.alloc (.map #[] 0)) (.cells #[.map (some w.heap.size)] 45)).2 _ (by simp)).trans (Go.MapKept.heap_alloc w (.map #[] 0)).1
 have HS:=lh hstart;clear hstart hT hd;unfold ATree.ptr at HW ⊢;go_enter Tryz.func12,Tryz.ntmps12
 go_wp2_with fail
 refine (HW.out _ HS.out).mono ?_;rintro e w1 ⟨rfl,hI⟩;have cc:w1.cell? ⟨w.heap.size + 1,0,none⟩=some (.map (some w.heap.size)):=by simp [World.cell?,hI.cell]
 have HI:=lh hI;clear hI HS HW;go_wp2;go_ret;exact ⟨_,rfl,HI.out.map,HI.out.bel,HI.out.le⟩
theorem Zl5 (p0:Addr) {σ:Type} (Inv:σ→World→Prop) (g:σ→ATree→Bool×σ) (B:Nat):∀ (m:Nat) (a:ATree),a.many≤m→(∀ s w,Inv s w→TreeAt w B a) →
 ∀ s,(∀ x s',Reach g a s x s'→∀ w,Inv s' w→Calls Tryz.prog 26 #[x.ptr,.pointer (some p0)] w fun e w'=>e=.returned (.bool (g s' x).1)∧Inv (g s' x).2 w') →
 ∀ w,Inv s w→Calls Tryz.prog 25 #[a.ptr,.func (.func 26) #[] #[.pointer (some p0)]] w fun e w'=>e=.returned (.tuple #[])∧Inv (Z2g g a s) w':=by
 intro m;induction m with
 | zero=>intro a h; exfalso; cases a; simp [ATree.many] at h
 | succ m ih =>
   intro a hm hT s hg w hI;have IH:=lh ih;have HT:=lh hT;have HG:=lh hg;have HM:=lh hm;have HC:=hg a s (.self a s) w hI;rw [Z60];unfold ATree.ptr at HC ⊢;have hkid:∀ (i:Nat) (k x:ATree) (s':σ),(g s a).1=true→a.kids[i]?=some k→Reach g k (Z16 g (a.kids.take i) (g s a).2) x s'→Reach g a s x s':=fun i k x s' h1 h2 h3=>.kid h1 h2 h3;obtain ⟨ok,s1,hgs⟩:∃ ok s1,g s a=(ok,s1):=⟨_,_,rfl⟩
   rw [hgs] at HC hkid ⊢;have HKID:=lh hkid;clear hkid;have HC:=lh HC;clear ih hT hg hm hI hgs;cases ok
   ·go_enter Tryz.func25, Tryz.ntmps25
    go_wp2_with fail
    refine HC.out.mono ?_;rintro e w1 ⟨rfl,hI1⟩;have HI1:=lh hI1;clear hI1 HC;go_wp2;refine bodyPost_ret (results_none rfl _ _ _) rfl ?_;exact ⟨rfl,HI1.out⟩
   ·simp only [if_true];go_enter Tryz.func25, Tryz.ntmps25
    go_wp2_with fail
    refine HC.out.mono ?_;rintro e w1 ⟨rfl,hI1⟩;have hT1:=HT.out _ _ hI1;have hblk:=hT1.blkOf;have hrow:=hT1.rowOf;obtain ⟨p,cp,hv⟩:∃ p cp,a.v=.slice p a.kids.length cp:=by
     rcases Z7 hrow with ⟨h1,h2⟩ | ⟨g0,cap0,h1,_⟩;·exact ⟨none,0,by rw [h1,h2]⟩
     ·exact ⟨_,_,h1⟩
    rw [hv] at hblk;have c3:w1.cell? ⟨a.b,3,none⟩=some (.slice p a.kids.length cp):=by simp [World.cell?,hblk]
    have hlen:a.kids.length≤9223372036854775807:=by
     rcases Z7 hrow with ⟨h1,h2⟩ | ⟨g0,cap0,h1,k1,k2,k3⟩;·omega
     ·unfold maxLen at k2; omega
    have HI1:=lh hI1;have HV:=lh hv;obtain ⟨n,hn⟩:=zX a.kids.length
    rw [← hn] at c3 hlen;have HN:=lh hn;clear hI1 hT1 hblk hrow hv hn HC;go_wp2_with fail
    go_loopw [19] (fun i wr=>∃ k:Nat,k≤n∧i=.int .i64 k∧Hid (Inv (Z16 g (a.kids.take k) s1) wr)) (fun i _=>n - (intOf i).toNat)
    case atStart=>exact ⟨0,Yp _,rfl,lh (by simpa [Z16] using HI1.out)⟩
    case round=>
     obtain ⟨k,hk,rfl,HI⟩:=hrel;by_cases hkn:k < n
     ·obtain ⟨x, hx⟩ : ∃ x, a.kids[k]? = some x := ⟨_, Yd (by rw [← HN.out]; exact hkn)⟩
      have hT2:=HT.out _ _ HI.out;have hrow:=hT2.rowOf;rcases Z7 hrow with ⟨_,h2⟩ | ⟨g0,cap0,hv0,k1,k2,k3⟩;·rw [← HN.out] at h2; omega
      have hp:p=some ⟨g0,0,none⟩:=by
       have:=HV.out.symm.trans hv0;simp only [Value.slice.injEq] at this;exact this.1
      subst hp;have cx:=Ze hrow (g:=g0) (by rw [hv0]; rfl) (i:=k) (x:=x.ptr) (by rw [Yo,hx]; rfl);unfold ATree.ptr at cx;have hmem:x∈a.kids:=Yl hx;have hcall:=IH.out x (by have:=Z36 hmem; have:=HM.out; omega) (fun s w h=>(HT.out s w h).kid hmem) _ (fun y s' hy=>HG.out y s' (HKID.out k x y s' (by first | rfl | trivial) hx hy)) _ HI.out;unfold ATree.ptr at hcall;have HCALL:=lh hcall;have HX:=lh hx;have hge:n≤cp:=by
       have:=HV.out.symm.trans hv0;simp only [Value.slice.injEq] at this;rw [HN.out,this.2.2]; exact k1
      clear hx hT2 hrow hv0 k1 k2 k3 hmem hcall;go_wp2_with fail
      refine HCALL.out.mono ?_;rintro e w2 ⟨rfl,hI2⟩;have HI2:=lh hI2;clear hI2 HCALL;go_wp2;go_roundw
      case rel=>exact ⟨k + 1,by omega,by go_num,lh (by rw [Zk HX.out,Z4s]; exact HI2.out)⟩
      case measure=>simp [intOf]; omega
     ·have hk2 : k = n := by omega
      subst hk2;go_wp2;go_end0
      refine ⟨rfl,?_⟩;have:=HI.out;rwa [Ym (by rw [← HN.out]; exact Y5 _)] at this
end Go.Proofs.YtfilfhpfndaniaaGreatDoor
