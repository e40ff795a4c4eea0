/- Package hoist: Vars; tree.Strict. -/
import Derived.Test.YtedopiahfejdfaaGreatDoorJ07
import Derived.Lib.OwnKind
import Derived.LaidEql
namespace Go.Proofs.YtedopiahfejdfaaGreatDoor
open Go Go.RowKit
set_option maxRecDepth 100000
set_option maxHeartbeats 20000000
set_option linter.unusedVariables false
def Z45 (a:ATree):List ByteArray:=Z17 Z1f a.kids []
theorem Zv.base {w:World} {B B':Nat} {v:Value} {l:List ByteArray} (h:Zv w B v l) (hB:B'≤B):Zv w B' v l:=by
 refine ⟨h.1,?_⟩;rcases h.2 with hn | ⟨g,cap,cur,h1,h2,rest⟩;·exact .inl hn
 ·exact .inr ⟨g,cap,cur,h1,by omega,rest⟩
theorem Z8j (l:List ATree):(Z3c l).length=Z0h l:=by
 have key:∀ n,∀ l:List ATree,Z0h l≤n→(Z3c l).length=Z0h l:=by
  intro n;induction n with
  | zero =>
    intro l hl;cases l with
    | nil=>rfl
    | cons a l=>exfalso; obtain ⟨b,v,k,t,m,ks⟩:=a; simp only [Z0h,ATree.many] at hl; omega
  | succ n ih =>
    intro l hl;cases l with
    | nil=>rfl
    | cons a l =>
      obtain ⟨b,v,k,t,m,ks⟩:=a;simp only [Z0h,ATree.many] at hl ⊢;have h1:=ih ks (by omega);have h2:=ih l (by omega);simp only [Z3c,ATree.subs,List.length_append,List.length_cons,h1,h2]
 exact key _ l (Y0 _)
theorem Zdg (a:ATree):a.kids.length≤a.many:=by
 have key:∀ l:List ATree,l.length≤Z0h l:=by
  intro l;induction l with
  | nil=>simp [Z0h]
  | cons x l ih=>obtain ⟨b,v,k,t,m,ks⟩:=x; simp only [List.length_cons,Z0h,ATree.many]; omega
 obtain ⟨b,v,k,t,m,ks⟩:=a;have:=key ks;simp only [ATree.kids,ATree.many];omega
theorem Zcc {w:World} {B:Nat}:∀ {a x:ATree},TreeAt w B a→x∈a.subs→TreeAt w B x:=by
 have key:∀ n,∀ a x:ATree,a.many≤n→TreeAt w B a→x∈a.subs→TreeAt w B x:=by
  intro n;induction n with
  | zero=>intro a x h; exfalso; obtain ⟨b,v,k,t,m,ks⟩:=a; simp only [ATree.many] at h; omega
  | succ n ih =>
    intro a x hn hT hx;obtain ⟨b,v,k,t,m,ks⟩:=a;simp only [ATree.subs,List.mem_cons] at hx;rcases hx with rfl | hx;·exact hT
    ·have:∀ l:List ATree,(∀ y∈l,y∈ks)→x∈Z3c l→TreeAt w B x:=by
      intro l;induction l with
      | nil=>intro _ h; simp [Z3c] at h
      | cons y l ih2 =>
        intro hl h;simp only [Z3c,List.mem_append] at h;rcases h with h | h
        ·have hy:y∈(ATree.mk b v k t m ks).kids:=hl y (by simp);exact ih y x (by have:=Z2r hy; omega) (hT.kid hy) h
        ·exact ih2 (fun z hz=>hl z (List.mem_cons_of_mem _ hz)) h
     exact this ks (fun y h=>h) hx
 intro a x hT hx;exact key _ a x (Y0 _) hT hx
def Z2w (a:ATree):List ByteArray:=(Z3c a.kids).map ATree.text
theorem Za0 {a k x:ATree} (h:k∈a.kids) (hx:x∈k.subs):x.text∈Z2w a:=by
 unfold Z2w;refine List.mem_map_of_mem ?_;have key:∀ l:List ATree,k∈l→x∈Z3c l:=by
  intro l;induction l with
  | nil=>intro h; cases h
  | cons y l ih =>
    intro h;simp only [Z3c,List.mem_append];rcases List.mem_cons.1 h with rfl | h;·exact .inl hx
    ·exact .inr (ih h)
 exact key _ h
theorem Zfq (w:World) (B:Nat) (a k:ATree) (hT:TreeAt w B a) (hm:a.many < 1099511627776) (hk:k∈a.kids) (l:List ByteArray) (w1:World) (hI:VInv w w.heap.size (Z2w a) l w1) :
 Calls Tryz.prog 20 #[k.ptr,.func (.func 53) #[] #[.pointer (some ⟨w.heap.size,0,none⟩)]] w1 fun e w'=>e=.returned (.tuple #[])∧VInv w w.heap.size (Z2w a) (Z3j Z1f k l) w':=
 Zfa ⟨w.heap.size,0,none⟩ (VInv w w.heap.size (Z2w a)) Z1f B k.many k (Y0 _) (fun s w1 h=>h.tree (hT.kid hk) (Y0 _))
  l (fun x s hx w1 h=>Zbz w w.heap.size B (Z2w a) (by unfold Z2w; rw [Ym,Z8j]; obtain ⟨b,v,kk,t,m,ks⟩:=a; simp only [ATree.many] at hm; simp only [ATree.kids]; omega) (Y0 _) x (Zcc (hT.kid hk) hx.sub) (Za0 hk hx.sub) s w1 h) w1 hI
theorem Ze9 (w:World) (B:Nat) (a:ATree) (hT:TreeAt w B a) (hm:a.many < 1099511627776) :
 Calls Tryz.prog 23 #[a.ptr] w fun e w'=>∃ v,e=.returned v∧Zv w' w.heap.size v (Z45 a)∧Below w.heap.size w w'∧(Z45 a).length≤a.many:=by
 have HW:=lh (Zfq w B a · hT hm);have hmf:∀ (fn:Fn) (first cap:Array Value) (w:World),(Instr.makeFunc fn first cap).run Tryz.prog w=.ok (.func fn first cap) w:=fun _ _ _ _=>rfl;have hblk:=hT.blkOf;obtain ⟨p,cp,hv,hge,hmx⟩:=hT.vOf;have c3:w.cell? ⟨a.b,3,none⟩=some (.slice p a.kids.length cp):=by rw [← hv]; exact hT.c3
 have hlen:a.kids.length≤9223372036854775807:=by unfold maxLen at hmx; omega
 have hab:=hT.lt;have c3':(w.alloc (.cells #[.slice none 0 0] 26)).cell? ⟨a.b,3,none⟩=some (.slice p a.kids.length cp):=(Zd hab).trans c3;have HT:=lh hT;have HV:=lh hv;have HM:=lh hm;unfold ATree.ptr;obtain ⟨n,hnn⟩:=zX a.kids.length
 rw [← hnn] at c3 hlen hge c3';have HN:=lh hnn;have hstart:VInv w w.heap.size (Z2w a) [] (w.alloc (.cells #[.slice none 0 0] 26)):=
  ⟨⟨_,by rw [World.alloc]; simp,Zv.nil _ _⟩,(Y2 _ _).alloc (Y0 _) _,List.nodup_nil,fun _ h=>by cases h⟩
 have HS:=lh hstart;clear hblk hv hnn hT hstart hm;go_enter Tryz.func23,Tryz.ntmps23
 go_wp2_with fail
 go_loopw [13] (fun i wr=>∃ (k:Nat),k≤n∧i=.int .i64 k∧Hid (VInv w w.heap.size (Z2w a) (Z17 Z1f (a.kids.take k) []) wr)) (fun i _=>n - (intOf i).toNat)
 case atStart=>exact ⟨0,Yh _,rfl,lh (by simpa [Z17] using HS.out)⟩
 case round=>
  obtain ⟨k,hk,rfl,HI⟩:=hrel;by_cases hkn:k < n
  ·obtain ⟨x, hx⟩ : ∃ x, a.kids[k]? = some x := ⟨_, Y6 (by rw [← HN.out]; exact hkn)⟩
   have hT2:=HI.out.tree HT.out (Y0 _);have hrow:=hT2.rowOf;rcases Z8 hrow with ⟨_,h2⟩ | ⟨g0,cap0,hv0,_⟩;·rw [← HN.out] at h2; omega
   have hp:p=some ⟨g0,0,none⟩:=by
    have:=HV.out.symm.trans hv0;simp only [Value.slice.injEq] at this;exact this.1
   subst hp;have cx:=Zu hrow (g:=g0) (by rw [hv0]; rfl) (i:=k) (x:=x.ptr) (by rw [Yg,hx]; rfl);have hcall:=HW.out x (Yd hx) _ _ HI.out;unfold ATree.ptr at cx hcall;have HCALL:=lh hcall;have HX:=lh hx;clear hT2 hrow hv0 hx hcall;go_wp2_with fail
   refine HCALL.out.mono ?_;rintro e w1 ⟨rfl,hI1⟩;have HI1:=lh hI1;clear hI1 HCALL;go_wp2;go_roundw
   case rel=>exact ⟨k + 1,by omega,by go_num,lh (by rw [Z0v HX.out,Z5d]; exact HI1.out)⟩
   case measure=>simp [intOf]; omega
  ·have hk2 : k = n := by omega
   subst hk2;obtain ⟨v,hb,htx⟩:=HI.out.cell;have cc:wr.cell? ⟨w.heap.size,0,none⟩=some v:=by simp [World.cell?,hb]
   have HTX:=lh htx;clear hb htx;go_wp2;go_ret;have hall:Z17 Z1f (a.kids.take k) []=Z45 a:=by rw [Ye (by rw [← HN.out]; exact Y0 _)]; rfl
   rw [← hall];refine ⟨_,rfl,HTX.out.base (Nat.le_succ _),HI.out.bel,?_⟩;have:=Z9c _ _ HI.out.nd HI.out.sub;refine Y4 this ?_;unfold Z2w;rw [Ym,Z8j];obtain ⟨b,v,kk,t,m,ks⟩:=a;simp only [ATree.many,ATree.kids];omega
def Z0z (l:List ByteArray) (ks:List ATree):List ByteArray:=ks.foldl (fun l k=>addL l k.text) l
theorem Z41 (l:List ByteArray) (ks:List ATree) (k:ATree):Z0z l (ks ++ [k])=addL (Z0z l ks) k.text:=by simp [Z0z,List.foldl_append]
theorem Z22 (l:List ByteArray) (ks:List ATree):(Z0z l ks).length≤l.length + ks.length:=by
 induction ks generalizing l with
 | nil=>simp [Z0z]
 | cons k ks ih =>
   have h1:=ih (addL l k.text);have h2:=Z8e l k.text;simp only [Z0z,List.foldl_cons,List.length_cons] at h1 ⊢;omega
def Z0y (body:Bool) (a:ATree):List ByteArray:=Z0z (Z0z (if body then Z45 a else []) (a.kids.filter Z19)) (a.kids.filter Z26)
theorem Z1k.far {w w':World} {B B':Nat} {v v':Value} {l:List ATree} {ks:List ByteArray} (h:Z1k w B v l) (ht:Zv w B' v' ks) (hf:∀ k,k < w.heap.size→v'.ownBlock≠some k→w'.heap[k]?=w.heap[k]?):Z1k w' B v l:=by
 refine Ze h fun k hk=>hf k (Y9 h k hk).2 fun e=>?_;obtain ⟨c1,f1,h1⟩:=Lib.ownsRow_kind h k hk;obtain ⟨c2,f2,h2⟩:=Lib.ownsRow_kind ht k e;rw [h1] at h2;simp only [Option.some.injEq,Obj.cells.injEq] at h2;exact absurd h2.2.1 (by decide)
theorem Zbt (w:World) (B0:Nat) (a:ATree) (hT:TreeAt w B0 a) (hm:a.many < 274877906944) :
 Calls Tryz.prog 11 #[a.ptr,.bool true] w fun e w'=>∃ v,e=.returned v∧Zv w' w.heap.size v (Z0y true a)∧Below w.heap.size w w':=by
 have hkl:=Zdg a;have HT:=lh hT;have hfu:(a.kids.filter Z19).length≤a.kids.length:=List.length_filter_le _ _;have hle:(a.kids.filter Z26).length≤a.kids.length:=List.length_filter_le _ _;have hfk:∀ x,x∈a.kids.filter Z19→x∈a.kids:=fun x hx=>(List.mem_filter.1 hx).1;have hlk:∀ x,x∈a.kids.filter Z26→x∈a.kids:=fun x hx=>(List.mem_filter.1 hx).1;have HFK:=lh hfk;have HLK:=lh hlk;have hF:=fun (w':World) (h:TreeAt w' B0 a)=>Z8w w' B0 a h (by omega);have hL:=fun (w':World) (h:TreeAt w' B0 a)=>Zak w' B0 a h (by omega)
 obtain ⟨P,hP⟩:=zX (a.kids.filter Z19)
 obtain ⟨Q,hQ⟩:=zX (a.kids.filter Z26)
 unfold Z0y;simp only [if_true];rw [← hP] at hfu HFK;rw [← hQ] at hle HLK;simp only [← hP] at hF;simp only [← hQ] at hL;rw [← hP,← hQ];clear hP hQ hfk hlk hT;have HF:=lh hF;have HL:=lh hL;clear hF hL;have hV:=Ze9 w B0 a HT.out (by omega);obtain ⟨l0,hl0⟩:=zX (Z45 a)
 rw [← hl0] at hV ⊢;have HV:=lh hV;clear hV hl0;unfold ATree.ptr at HF HL HV ⊢;go_enter Tryz.func11,Tryz.ntmps11
 go_wp2_with fail
 refine HV.out.mono ?_;rintro e w1 ⟨v1,rfl,ht1,hb1,hl1⟩;have TX1:=lh ht1;have HB1:=lh hb1;clear HV ht1 hb1;go_wp2_with fail
 refine (HF.out w1 (HT.out.bel HB1.out)).mono ?_;rintro e w2 ⟨v2,rfl,hn2,hb2⟩;obtain ⟨p2,cp2,rfl,hge2,hmx2⟩:∃ p cp,v2=.slice p P.length cp∧P.length≤cp∧cp≤maxLen:=by
  rcases hn2.form with ⟨h1,h2⟩ | ⟨g,cap,h1,h2,h3⟩;·exact ⟨none,0,by rw [h1,h2]; rfl,by rw [h2]; exact Y0 _,by unfold maxLen; omega⟩
  ·exact ⟨_,_,h1,h2,h3⟩
 have TX2:=lh (TX1.out.bel hb2);have HB2:=lh (HB1.out.trans (hb2.mono HB1.out.size));have N2:=lh hn2;obtain ⟨m,hm1⟩:=zX P.length
 have hmq:m≤9223372036854775807:=by unfold maxLen at hmx2; omega
 rw [← hm1] at hge2 N2 hfu ⊢;have HM1:=lh hm1;clear hn2 hb2 hm1 TX1 HB1;go_wp2_with fail
 go_loopw [5,16] (fun v i wr=>∃ (k:Nat) (v':Value),v'=v∧k≤m∧i=.int .i64 k∧Hid (Zv wr w.heap.size v' (Z0z l0 (P.take k)))∧Hid (Z1k wr w1.heap.size (.slice p2 m cp2) P)∧Hid (Below w.heap.size w wr)) (fun _ i _=>m - (intOf i).toNat)
 case atStart=>exact ⟨0,_,rfl,Yh _,rfl,TX2,N2,HB2⟩
 case round=>
  obtain ⟨k,v,rfl,hk,rfl,TX,NO,HB⟩:=hrel;clear TX2 N2 HB2;by_cases hkn:k < m
  ·obtain ⟨x, hx⟩ : ∃ x, P[k]? = some x := ⟨_, Y6 (by rw [← HM1.out]; exact hkn)⟩
   obtain ⟨g0,hp⟩:∃ g,p2=some ⟨g,0,none⟩:=by
    rcases NO.out.form with ⟨h1,h2⟩ | ⟨g,cap,h1,_⟩;·rw [h2] at hx; simp at hx
    ·simp only [Value.slice.injEq] at h1; exact ⟨g,h1.1⟩
   subst hp;have cx:=NO.out.cell rfl hx;have hTx:=(HT.out.bel HB.out).kid (HFK.out x (Yd hx));have c1:=hTx.c1;have hln:(Z0z l0 (P.take k)).length < 1099511627776:=by
    have:=Z22 l0 (P.take k);have h3:(P.take k).length≤k:=by simp; omega
    have h4:=HM1.out;omega
   have HA:=lh (Z6q wr w.heap.size v _ x.text TX.out HB.out.size hln);have HX:=lh hx;clear hTx hx hln;go_wp2_with fail
   refine HA.out.mono ?_;rintro e w3 ⟨v3,rfl,ht3,hb3,hf3⟩;have hsn:Z0z l0 (P.take (k + 1))=addL (Z0z l0 (P.take k)) x.text:=by rw [Z0v HX.out,Z41]
   have TX3:Hid (Zv w3 w.heap.size v3 (Z0z l0 (P.take (k + 1)))):=lh (by rw [hsn]; exact ht3);have N3:=lh (NO.out.far TX.out hf3);have HB3:=lh (HB.out.trans hb3);clear HA ht3 hb3 hf3 hsn;go_wp2;go_roundw
   case rel=>exact ⟨k + 1,_,rfl,by omega,by go_num,TX3,N3,HB3⟩
   case measure=>simp [intOf]; omega
  ·have hk2 : k = m := by omega
   subst hk2;have hend:Zv wr w.heap.size v (Z0z l0 P):=by
    have:=TX.out;rwa [Ye (by rw [← HM1.out]; exact Y0 _)] at this
   have TX3:=lh hend;have hl3:=Z22 l0 P;obtain ⟨l1,hl1⟩:=zX (Z0z l0 P)
   rw [← hl1] at TX3 hl3;have HL1:=lh hl1;clear hend TX NO hl1;go_wp2_with fail
   refine (HL.out wr (HT.out.bel HB.out)).mono ?_;rintro e w4 ⟨v4,rfl,hn4,hb4⟩;obtain ⟨p4,cp4,rfl,hge4,hmx4⟩:∃ p cp,v4=.slice p Q.length cp∧Q.length≤cp∧cp≤maxLen:=by
    rcases hn4.form with ⟨h1,h2⟩ | ⟨g,cap,h1,h2,h3⟩;·exact ⟨none,0,by rw [h1,h2]; rfl,by rw [h2]; exact Y0 _,by unfold maxLen; omega⟩
    ·exact ⟨_,_,h1,h2,h3⟩
   have TX4:=lh (TX3.out.bel hb4);have HB4:=lh (HB.out.trans (hb4.mono HB.out.size));have N4:=lh hn4;obtain ⟨q,hq1⟩:=zX Q.length
   have hqq:q≤9223372036854775807:=by unfold maxLen at hmx4; omega
   rw [← hq1] at hge4 N4 hle ⊢;have HQ1:=lh hq1;clear hn4 hb4 hq1 TX3 HB;obtain ⟨bb,hbb⟩:=zX wr.heap.size
   rw [← hbb] at N4;clear hbb;go_wp2_with fail
   go_loopw [5,30] (fun v i wr=>∃ (k:Nat) (v':Value),v'=v∧k≤q∧i=.int .i64 k∧Hid (Zv wr w.heap.size v' (Z0z l1 (Q.take k)))∧Hid (Z1k wr bb (.slice p4 q cp4) Q)∧Hid (Below w.heap.size w wr)) (fun _ i _=>q - (intOf i).toNat)
   case atStart=>exact ⟨0,_,rfl,Yh _,rfl,TX4,N4,HB4⟩
   case round=>
    obtain ⟨k,v,rfl,hk,rfl,TX,NO,HB⟩:=hrel;clear TX4 N4 HB4;by_cases hkn:k < q
    ·obtain ⟨x, hx⟩ : ∃ x, Q[k]? = some x := ⟨_, Y6 (by rw [← HQ1.out]; exact hkn)⟩
     obtain ⟨g0,hp⟩:∃ g,p4=some ⟨g,0,none⟩:=by
      rcases NO.out.form with ⟨h1,h2⟩ | ⟨g,cap,h1,_⟩;·rw [h2] at hx; simp at hx
      ·simp only [Value.slice.injEq] at h1; exact ⟨g,h1.1⟩
     subst hp;have cx:=NO.out.cell rfl hx;have hTx:=(HT.out.bel HB.out).kid (HLK.out x (Yd hx));have c1:=hTx.c1;have hln:(Z0z l1 (Q.take k)).length < 1099511627776:=by
      have:=Z22 l1 (Q.take k);have h3:(Q.take k).length≤k:=by simp; omega
      have h4:=HM1.out;omega
     have HA:=lh (Z6q wr w.heap.size v _ x.text TX.out HB.out.size hln);have HX:=lh hx;clear hTx hx hln;go_wp2_with fail
     refine HA.out.mono ?_;rintro e w3 ⟨v3,rfl,ht3,hb3,hf3⟩;have hsn:Z0z l1 (Q.take (k + 1))=addL (Z0z l1 (Q.take k)) x.text:=by rw [Z0v HX.out,Z41]
     have TX3:Hid (Zv w3 w.heap.size v3 (Z0z l1 (Q.take (k + 1)))):=lh (by rw [hsn]; exact ht3);have N3:=lh (NO.out.far TX.out hf3);have HB3:=lh (HB.out.trans hb3);clear HA ht3 hb3 hf3 hsn;go_wp2;go_roundw
     case rel=>exact ⟨k + 1,_,rfl,by omega,by go_num,TX3,N3,HB3⟩
     case measure=>simp [intOf]; omega
    ·have hk2 : k = q := by omega
     subst hk2;have hend:Zv wr w.heap.size v (Z0z l1 Q):=by
      have:=TX.out;rwa [Ye (by rw [← HQ1.out]; exact Y0 _)] at this
     have TX5:=lh hend;clear hend TX;go_wp2;go_ret;rw [← HL1.out];exact ⟨_,rfl,TX5.out,HB.out⟩
theorem Za4 (w:World) (B0:Nat) (a:ATree) (hT:TreeAt w B0 a) (hm:a.many < 274877906944) :
 Calls Tryz.prog 11 #[a.ptr,.bool false] w fun e w'=>∃ v,e=.returned v∧Zv w' w.heap.size v (Z0y false a)∧Below w.heap.size w w':=by
 have hkl:=Zdg a;have HT:=lh hT;have hfu:(a.kids.filter Z19).length≤a.kids.length:=List.length_filter_le _ _;have hle:(a.kids.filter Z26).length≤a.kids.length:=List.length_filter_le _ _;have hfk:∀ x,x∈a.kids.filter Z19→x∈a.kids:=fun x hx=>(List.mem_filter.1 hx).1;have hlk:∀ x,x∈a.kids.filter Z26→x∈a.kids:=fun x hx=>(List.mem_filter.1 hx).1;have HFK:=lh hfk;have HLK:=lh hlk;have hF:=fun (w':World) (h:TreeAt w' B0 a)=>Z8w w' B0 a h (by omega);have hL:=fun (w':World) (h:TreeAt w' B0 a)=>Zak w' B0 a h (by omega)
 obtain ⟨P,hP⟩:=zX (a.kids.filter Z19)
 obtain ⟨Q,hQ⟩:=zX (a.kids.filter Z26)
 unfold Z0y;simp only [Bool.false_eq_true,if_false];rw [← hP] at hfu HFK;rw [← hQ] at hle HLK;simp only [← hP] at hF;simp only [← hQ] at hL;rw [← hP,← hQ];clear hP hQ hfk hlk hT;have HF:=lh hF;have HL:=lh hL;clear hF hL;obtain ⟨l0,hl0⟩:∃ l:List ByteArray,l=[]:=⟨_,rfl⟩
 have hl1:l0.length≤a.many:=by rw [hl0]; exact Yh _
 have TX1:Hid (Zv w w.heap.size (.slice none 0 0) l0):=lh (by rw [hl0]; exact Zv.nil _ _);rw [← hl0];have HB1:=lh (Y2 w.heap.size w);clear hl0;unfold ATree.ptr at HF HL ⊢;go_enter Tryz.func11,Tryz.ntmps11
 go_wp2_with fail
 refine (HF.out w (HT.out.bel HB1.out)).mono ?_;rintro e w2 ⟨v2,rfl,hn2,hb2⟩;obtain ⟨p2,cp2,rfl,hge2,hmx2⟩:∃ p cp,v2=.slice p P.length cp∧P.length≤cp∧cp≤maxLen:=by
  rcases hn2.form with ⟨h1,h2⟩ | ⟨g,cap,h1,h2,h3⟩;·exact ⟨none,0,by rw [h1,h2]; rfl,by rw [h2]; exact Y0 _,by unfold maxLen; omega⟩
  ·exact ⟨_,_,h1,h2,h3⟩
 have TX2:=lh (TX1.out.bel hb2);have HB2:=lh (HB1.out.trans (hb2.mono HB1.out.size));have N2:=lh hn2;obtain ⟨m,hm1⟩:=zX P.length
 have hmq:m≤9223372036854775807:=by unfold maxLen at hmx2; omega
 rw [← hm1] at hge2 N2 hfu ⊢;have HM1:=lh hm1;clear hn2 hb2 hm1 TX1 HB1;go_wp2_with fail
 go_loopw [5,16] (fun v i wr=>∃ (k:Nat) (v':Value),v'=v∧k≤m∧i=.int .i64 k∧Hid (Zv wr w.heap.size v' (Z0z l0 (P.take k)))∧Hid (Z1k wr w.heap.size (.slice p2 m cp2) P)∧Hid (Below w.heap.size w wr)) (fun _ i _=>m - (intOf i).toNat)
 case atStart=>exact ⟨0,_,rfl,Yh _,rfl,TX2,N2,HB2⟩
 case round=>
  obtain ⟨k,v,rfl,hk,rfl,TX,NO,HB⟩:=hrel;clear TX2 N2 HB2;by_cases hkn:k < m
  ·obtain ⟨x, hx⟩ : ∃ x, P[k]? = some x := ⟨_, Y6 (by rw [← HM1.out]; exact hkn)⟩
   obtain ⟨g0,hp⟩:∃ g,p2=some ⟨g,0,none⟩:=by
    rcases NO.out.form with ⟨h1,h2⟩ | ⟨g,cap,h1,_⟩;·rw [h2] at hx; simp at hx
    ·simp only [Value.slice.injEq] at h1; exact ⟨g,h1.1⟩
   subst hp;have cx:=NO.out.cell rfl hx;have hTx:=(HT.out.bel HB.out).kid (HFK.out x (Yd hx));have c1:=hTx.c1;have hln:(Z0z l0 (P.take k)).length < 1099511627776:=by
    have:=Z22 l0 (P.take k);have h3:(P.take k).length≤k:=by simp; omega
    have h4:=HM1.out;omega
   have HA:=lh (Z6q wr w.heap.size v _ x.text TX.out HB.out.size hln);have HX:=lh hx;clear hTx hx hln;go_wp2_with fail
   refine HA.out.mono ?_;rintro e w3 ⟨v3,rfl,ht3,hb3,hf3⟩;have hsn:Z0z l0 (P.take (k + 1))=addL (Z0z l0 (P.take k)) x.text:=by rw [Z0v HX.out,Z41]
   have TX3:Hid (Zv w3 w.heap.size v3 (Z0z l0 (P.take (k + 1)))):=lh (by rw [hsn]; exact ht3);have N3:=lh (NO.out.far TX.out hf3);have HB3:=lh (HB.out.trans hb3);clear HA ht3 hb3 hf3 hsn;go_wp2;go_roundw
   case rel=>exact ⟨k + 1,_,rfl,by omega,by go_num,TX3,N3,HB3⟩
   case measure=>simp [intOf]; omega
  ·have hk2 : k = m := by omega
   subst hk2;have hend:Zv wr w.heap.size v (Z0z l0 P):=by
    have:=TX.out;rwa [Ye (by rw [← HM1.out]; exact Y0 _)] at this
   have TX3:=lh hend;have hl3:=Z22 l0 P;obtain ⟨l1,hl1⟩:=zX (Z0z l0 P)
   rw [← hl1] at TX3 hl3;have HL1:=lh hl1;clear hend TX NO hl1;go_wp2_with fail
   refine (HL.out wr (HT.out.bel HB.out)).mono ?_;rintro e w4 ⟨v4,rfl,hn4,hb4⟩;obtain ⟨p4,cp4,rfl,hge4,hmx4⟩:∃ p cp,v4=.slice p Q.length cp∧Q.length≤cp∧cp≤maxLen:=by
    rcases hn4.form with ⟨h1,h2⟩ | ⟨g,cap,h1,h2,h3⟩;·exact ⟨none,0,by rw [h1,h2]; rfl,by rw [h2]; exact Y0 _,by unfold maxLen; omega⟩
    ·exact ⟨_,_,h1,h2,h3⟩
   have TX4:=lh (TX3.out.bel hb4);have HB4:=lh (HB.out.trans (hb4.mono HB.out.size));have N4:=lh hn4;obtain ⟨q,hq1⟩:=zX Q.length
   have hqq:q≤9223372036854775807:=by unfold maxLen at hmx4; omega
   rw [← hq1] at hge4 N4 hle ⊢;have HQ1:=lh hq1;clear hn4 hb4 hq1 TX3 HB;obtain ⟨bb,hbb⟩:=zX wr.heap.size
   rw [← hbb] at N4;clear hbb;go_wp2_with fail
   go_loopw [5,30] (fun v i wr=>∃ (k:Nat) (v':Value),v'=v∧k≤q∧i=.int .i64 k∧Hid (Zv wr w.heap.size v' (Z0z l1 (Q.take k)))∧Hid (Z1k wr bb (.slice p4 q cp4) Q)∧Hid (Below w.heap.size w wr)) (fun _ i _=>q - (intOf i).toNat)
   case atStart=>exact ⟨0,_,rfl,Yh _,rfl,TX4,N4,HB4⟩
   case round=>
    obtain ⟨k,v,rfl,hk,rfl,TX,NO,HB⟩:=hrel;clear TX4 N4 HB4;by_cases hkn:k < q
    ·obtain ⟨x, hx⟩ : ∃ x, Q[k]? = some x := ⟨_, Y6 (by rw [← HQ1.out]; exact hkn)⟩
     obtain ⟨g0,hp⟩:∃ g,p4=some ⟨g,0,none⟩:=by
      rcases NO.out.form with ⟨h1,h2⟩ | ⟨g,cap,h1,_⟩;·rw [h2] at hx; simp at hx
      ·simp only [Value.slice.injEq] at h1; exact ⟨g,h1.1⟩
     subst hp;have cx:=NO.out.cell rfl hx;have hTx:=(HT.out.bel HB.out).kid (HLK.out x (Yd hx));have c1:=hTx.c1;have hln:(Z0z l1 (Q.take k)).length < 1099511627776:=by
      have:=Z22 l1 (Q.take k);have h3:(Q.take k).length≤k:=by simp; omega
      have h4:=HM1.out;omega
     have HA:=lh (Z6q wr w.heap.size v _ x.text TX.out HB.out.size hln);have HX:=lh hx;clear hTx hx hln;go_wp2_with fail
     refine HA.out.mono ?_;rintro e w3 ⟨v3,rfl,ht3,hb3,hf3⟩;have hsn:Z0z l1 (Q.take (k + 1))=addL (Z0z l1 (Q.take k)) x.text:=by rw [Z0v HX.out,Z41]
     have TX3:Hid (Zv w3 w.heap.size v3 (Z0z l1 (Q.take (k + 1)))):=lh (by rw [hsn]; exact ht3);have N3:=lh (NO.out.far TX.out hf3);have HB3:=lh (HB.out.trans hb3);clear HA ht3 hb3 hf3 hsn;go_wp2;go_roundw
     case rel=>exact ⟨k + 1,_,rfl,by omega,by go_num,TX3,N3,HB3⟩
     case measure=>simp [intOf]; omega
    ·have hk2 : k = q := by omega
     subst hk2;have hend:Zv wr w.heap.size v (Z0z l1 Q):=by
      have:=TX.out;rwa [Ye (by rw [← HQ1.out]; exact Y0 _)] at this
     have TX5:=lh hend;clear hend TX;go_wp2;go_ret;rw [← HL1.out];exact ⟨_,rfl,TX5.out,HB.out⟩
theorem Z99 (body:Bool) (w:World) (B0:Nat) (a:ATree) (hT:TreeAt w B0 a) (hm:a.many < 274877906944) :
 Calls Tryz.prog 11 #[a.ptr,.bool body] w fun e w'=>∃ v,e=.returned v∧Zv w' w.heap.size v (Z0y body a)∧Below w.heap.size w w':=by
 cases body;·exact Za4 w B0 a hT hm
 ·exact Zbt w B0 a hT hm
end Go.Proofs.YtedopiahfejdfaaGreatDoor
namespace Go.Proofs.YtedopiahfejdfaaGreatDoor
open Go Go.RowKit Go.ChangeMaps Go.MapKept
set_option maxRecDepth 100000
set_option maxHeartbeats 20000000
set_option linter.unusedVariables false
def Zg2 (b:Nat):Value:=.pointer (some ⟨b,0,none⟩)
def Zeh (w:World) (k:Nat):Prop:=∃ c t,w.heap[k]?=some (.cells c t (0,0))
def PMap (w:World) (b:Nat) (l:List (Nat×Nat)):Prop:=
 ∃ es clock,w.heap[b]?=some (.map es clock)∧es.toList.map (fun e=>(e.key,e.val))=l.map (fun x=>(Zg2 x.1,Value.int .i64 x.2))∧Go.MapKept.Stamped es clock
theorem PMap.len {w:World} {b:Nat} {l:List (Nat×Nat)} (h:PMap w b l):∃ es clock,w.heap[b]?=some (.map es clock)∧es.size=l.length:=by
 obtain ⟨es,clock,hb,he,hst⟩:=h;refine ⟨es,clock,hb,?_⟩;have:=congrArg List.length he;simpa using this
end Go.Proofs.YtedopiahfejdfaaGreatDoor
namespace Go.Proofs.YtedopiahfejdfaaGreatDoor
open Go Go.RowKit
set_option maxRecDepth 100000
set_option maxHeartbeats 20000000
set_option linter.unusedVariables false
theorem Zeh.bel {w0 w:World} {k:Nat} (h:Zeh w0 k) (g:Below w0.heap.size w0 w):Zeh w k:=by
 obtain ⟨c,t,h⟩:=h;exact ⟨c,t,(g.block k (Y1.1 h).1).trans h⟩
theorem TreeAt.cellsOf {w:World} {B:Nat} {a:ATree} (h:TreeAt w B a):Zeh w a.b:=⟨_,_,h.blkOf⟩
end Go.Proofs.YtedopiahfejdfaaGreatDoor
namespace Go.Proofs.YtedopiahfejdfaaGreatDoor
open Go Go.RowKit
set_option maxRecDepth 100000
set_option maxHeartbeats 20000000
structure RS where
 ts:List Tok
 f:Option (Int×Nat)
def Zdx (e:Int) (σ:RS):RS:=if σ.f.isNone then ⟨σ.ts,some (e,(hdT σ.ts).at')⟩ else σ
def advR (σ:RS):RS:=⟨σ.ts.tail,σ.f⟩
def Zft (s:ByteArray) (σ:RS):RS:=if σ.f.isNone then (if isT s σ.ts then advR σ else Zdx 3 σ) else σ
def Zct (σ:RS):ByteArray×RS:=if σ.f.isNone then (if (hdT σ.ts).kind=1 then ((hdT σ.ts).text,advR σ) else (ByteArray.empty,Zdx 3 σ)) else (ByteArray.empty,σ)
abbrev RR:=Option (Tree×RS)
def Zg4 (p:RR) (k:Tree→RS→RR):RR:=match p with | none=>none | some (t,σ)=>k t σ
def Z8a (s:ByteArray):Int:=if Z0r s s_or then 25 else if Z0r s Z77 then 26 else if Z0r s Z4c then 27 else if Z0r s Z4d then 28 else if Z0r s Z6e then 29 else if Z0r s Z7c then 30 else if Z0r s Z7i then 31 else 0
def Zdu (s:ByteArray):Int:=if Z0r s Z2i then 19 else if Z0r s Z1o then 20 else if Z0r s Z37 then 21 else if Z0r s Z0k then 22 else 0
def Zeg (r:RR) (e:Int×Nat):Prop:=∃ t ts,r=some (t,⟨ts,some e⟩)
def Zf3 (t:Tok):Prop:=(t.kind=2→Z8a t.text=0)∧(t.kind=5→Zdu t.text=0)
def Z5h (ts:List Tok):Prop:=∀ t∈ts,Zf3 t
theorem Z5h.tail {ts:List Tok} (h:Z5h ts):Z5h ts.tail:=fun t ht=>h t (List.mem_of_mem_tail ht)
theorem Z5h.hd {ts:List Tok} (h:Z5h ts):Zf3 (hdT ts):=by
 cases ts with
 | nil=>exact ⟨fun h=>by simp [hdT] at h,fun h=>by simp [hdT] at h⟩
 | cons t l=>exact h t (by simp)
def Agree (p:PR) (q:RR):Prop:=
 match p with
 | none=>True
 | some (.ok (t,ts))=>q=some (t,⟨ts,none⟩)∧Z5h ts
 | some (.error e)=>Zeg q e
theorem Agree.ok {t:Tree} {ts:List Tok} (h:Z5h ts):Agree (okT t ts) (some (t,⟨ts,none⟩)):=⟨rfl,h⟩
theorem Agree.fail {k:Int} {t:Tree} {ts:List Tok}:Agree (Z11 k ts) (some (t,Zdx k ⟨ts,none⟩)):=⟨_,_,rfl⟩
theorem Agree.bind {p:PR} {q:RR} {k:Tree→List Tok→PR} {m:Tree→RS→RR} (h:Agree p q) (hk:∀ t ts,Z5h ts→Agree (k t ts) (m t ⟨ts,none⟩)) (he:∀ t ts e,Zeg (m t ⟨ts,some e⟩) e) :
 Agree (Zh p k) (Zg4 q m):=by
 cases p with
 | none=>trivial
 | some r =>
   cases r with
   | error e=>obtain ⟨t,ts,rfl⟩:=h; exact he t ts e
   | ok x=>obtain ⟨t,ts⟩:=x; obtain ⟨rfl,hg⟩:=h; exact hk t ts hg
theorem Agree.want {s:ByteArray} {ts:List Tok} {k:List Tok→PR} {m:RS→RR} (hg:Z5h ts) (hk:Z5h ts.tail→Agree (k ts.tail) (m ⟨ts.tail,none⟩)) (he:∀ ts e,Zeg (m ⟨ts,some e⟩) e) :
 Agree (Z00 s ts k) (m (Zft s ⟨ts,none⟩)):=by
 unfold Z00 Zft;by_cases h:isT s ts=true;·simp only [h,Option.isNone_none,if_true]; exact hk hg.tail
 ·simp only [h,Option.isNone_none,if_true]; exact he _ _
theorem Agree.name {ts:List Tok} {k:ByteArray→List Tok→PR} {m:ByteArray→RS→RR} (hg:Z5h ts) (hk:∀ s,Z5h ts.tail→Agree (k s ts.tail) (m s ⟨ts.tail,none⟩)) (he:∀ s ts e,Zeg (m s ⟨ts,some e⟩) e) :
 Agree (Z13 ts k) (m (Zct ⟨ts,none⟩).1 (Zct ⟨ts,none⟩).2):=by
 unfold Z13 Zct;by_cases h:(hdT ts).kind=1;·simp only [h,Option.isNone_none,if_true]; exact hk _ hg.tail
 ·simp only [h,Option.isNone_none,if_true,if_false]; exact he _ _ _
theorem Agree.ite {c:Prop} [Decidable c] {c':Bool} {p1 p2:PR} {q1 q2:RR} (h:c↔c'=true) (h1:c→Agree p1 q1) (h2:¬ c→Agree p2 q2):Agree (if c then p1 else p2) (if c'=true then q1 else q2):=by
 by_cases hc:c;·rw [Y5 hc,Y5 (h.1 hc)]; exact h1 hc
 ·rw [Y3 hc,Y3 (fun e=>hc (h.2 e))]; exact h2 hc
theorem Agree.within {d:Nat} {ts:List Tok} {p:PR} {q:RR} {t:Tree} (h:d + 1≤30→Agree p q):Agree (Zj d ts p) (if 30 < d + 1 then some (t,Zdx 4 ⟨ts,none⟩) else q):=by
 unfold Zj;by_cases hd:30 < d + 1;·rw [Y5 hd,Y5 hd]; exact Agree.fail
 ·rw [Y3 hd,Y3 hd]; exact h (by omega)
end Go.Proofs.YtedopiahfejdfaaGreatDoor
namespace Go.Proofs.YtedopiahfejdfaaGreatDoor
open Go Go.RowKit
set_option maxRecDepth 100000
set_option maxHeartbeats 20000000
set_option linter.unusedVariables false
structure QC where
 rb:Nat
 tb:Nat
 off:Nat
 cap:Nat
 L:List Tok
section
variable {w w':World} {C:QC} {i:Nat} {f:Option (Int×Nat)} {σ:RS}
end
structure KidsAt (w0:World) (B:Nat) (w:World) (kids:List ATree) (ts:List Tree):Prop where
 tree:Zp kids=ts
 at':∀ a∈kids,TreeAt w B a
 nodup:(Zs kids).Nodup
 new:∀ x∈Zs kids,w0.heap.size≤x∧x < w.heap.size
structure ListAt (w0:World) (B:Nat) (w:World) (v:Value) (kids:List ATree) (ts:List Tree):Prop where
 ks:KidsAt w0 B w kids ts
 row:w.ownsRow B 22 1 v kids.length (kids.map ATree.ptr)
 own:∀ g,v.ownBlock=some g→w0.heap.size≤g∧g < w.heap.size∧g ∉ Zs kids
section
variable {w0 w w' w1 w2 wA:World} {B rb:Nat} {v:Value} {kids:List ATree} {ts:List Tree} {a:ATree} {t:Tree} {k n:Int} {tx:ByteArray} {b:Nat}
theorem KidsAt.nil:KidsAt w0 B w [] []:=⟨rfl,fun a ha=>(by cases ha),by simp [Zs],fun x hx=>by simp [Zs] at hx⟩
theorem KidsAt.rfr (h:KidsAt w0 B w kids ts) (hr:rb < B) (f:RFr w w' rb):KidsAt w0 B w' kids ts:=
 ⟨h.tree,fun a ha=>(h.at' a ha).rfr hr f,h.nodup,fun x hx=>⟨(h.new x hx).1,Y7 (h.new x hx).2 f.size⟩⟩
theorem KidsAt.pre (h:KidsAt w1 B w kids ts) (f:w0.heap.size≤w1.heap.size):KidsAt w0 B w kids ts:=
 ⟨h.tree,h.at',h.nodup,fun x hx=>⟨Y4 f (h.new x hx).1,(h.new x hx).2⟩⟩
theorem KidsAt.add (h:KidsAt w0 B w kids ts) (hA:∀ x∈Zs kids,x < wA.heap.size) (A:Got wA B w a t) (h0:w0.heap.size≤wA.heap.size):KidsAt w0 B w (kids ++ [a]) (ts ++ [t]):=by
 refine ⟨by rw [Z6m,h.tree]; simp [Zp,A.tree],fun x hx=>?_,?_,fun x hx=>?_⟩
 ·rcases List.mem_append.1 hx with hx | hx;·exact h.at' x hx
  ·simp only [List.mem_singleton] at hx; subst hx; exact A.at'
 ·rw [Z1h];simp only [Zs,List.append_nil,List.nodup_append];exact ⟨h.nodup,A.nodup,fun x hx y hy e=>by have h1:=hA x hx; have h2:=A.new y hy; omega⟩
 ·rw [Z1h] at hx;simp only [Zs, List.append_nil, List.mem_append] at hx;rcases hx with hx | hx;·exact h.new x hx
  ·have:=A.new x hx; omega
theorem KidsAt.one (A:Got w0 B w a t):KidsAt w0 B w [a] [t]:=KidsAt.nil.add (kids:=[]) (ts:=[]) (wA:=w0) (fun x hx=>by simp [Zs] at hx) A (Y0 _)
theorem KidsAt.two {a2:ATree} {t2:Tree} (A:Got w0 B w a t) (hA:∀ x∈a.blocks,x < wA.heap.size) (h0:w0.heap.size≤wA.heap.size) (A2:Got wA B w a2 t2):KidsAt w0 B w [a,a2] [t,t2]:=
 (KidsAt.one A).add (wA:=wA) (fun x hx=>hA x (by simpa [Zs] using hx)) A2 h0
theorem ListAt.nil:ListAt w0 B w (.slice none 0 0) [] []:=⟨KidsAt.nil,World.ownsRow_nil _ _ _ _,fun g hg=>by simp [Value.ownBlock] at hg⟩
theorem ListAt.rfr (h:ListAt w0 B w v kids ts) (hr:rb < B) (f:RFr w w' rb):ListAt w0 B w' v kids ts:=
 ⟨h.ks.rfr hr f,Ze h.row fun g hg=>f.block g (h.own g hg).2.1 (by have:=(h.row.lt g hg).1; omega),fun g hg=>⟨(h.own g hg).1,Y7 (h.own g hg).2.1 f.size,(h.own g hg).2.2⟩⟩
theorem ListAt.pre (h:ListAt w1 B w v kids ts) (f:w0.heap.size≤w1.heap.size):ListAt w0 B w v kids ts:=
 ⟨h.ks.pre f,h.row,fun g hg=>⟨Y4 f (h.own g hg).1,(h.own g hg).2⟩⟩
theorem KidsAt.lit (h:KidsAt w0 B w kids ts) (hBw:B≤w.heap.size) (h0:w0.heap.size≤w.heap.size) (hl:kids.length≤1000) :
 ListAt w0 B (w.alloc (.cells (kids.map ATree.ptr).toArray 22)) (.slice (some ⟨w.heap.size,0,none⟩) kids.length kids.length) kids ts:=by
 have hal:Below w.heap.size w (w.alloc (.cells (kids.map ATree.ptr).toArray 22)):=(Y2 _ _).alloc (Y0 _) _;refine ⟨⟨h.tree,fun a ha=>(h.at' a ha).bel hal,h.nodup,fun x hx=>⟨(h.new x hx).1,Y7 (h.new x hx).2 hal.size⟩⟩,Zc0 hBw hl,fun g hg=>?_⟩;simp only [Value.ownBlock,Option.some.injEq] at hg;subst hg;exact ⟨h0,by simp,fun hm=>by have:=(h.new _ hm).2; omega⟩
theorem ListAt.push {g cap:Nat} (L:ListAt w0 B w v kids ts) (hLA:∀ x∈Zs kids,x < wA.heap.size) (hvA:∀ x,v.ownBlock=some x→x < wA.heap.size) (A:Got wA B w a t) (h0:w0.heap.size≤wA.heap.size) (hAw:wA.heap.size≤w.heap.size)
 (hB1:Below w.heap.size w w1) (hg:w1.grownBy w2 v.ownBlock) (hown:w2.ownsRow B 22 1 (.slice (some ⟨g,0,none⟩) (kids.length + 1) cap) (kids.length + 1) (kids.map ATree.ptr ++ [a.ptr]))
 (hat:v.ownBlock=some g∨w.heap.size≤g) (hgl:g < w2.heap.size) (hF:RFr w0 w rb) :
 ListAt w0 B w2 (.slice (some ⟨g,0,none⟩) (kids.length + 1) cap) (kids ++ [a]) (ts ++ [t])∧(∀ x,x < w.heap.size→v.ownBlock≠some x→w2.heap[x]?=w.heap[x]?)∧w.heap.size≤w2.heap.size ∧
  RFr w0 w2 rb:=by
 have hs1:w.heap.size≤w2.heap.size:=Y4 hB1.size hg.size;have far:∀ x,x < w.heap.size→v.ownBlock≠some x→w2.heap[x]?=w.heap[x]?:=fun x hx hn=>(hg.block x (Y7 hx hB1.size) (fun e=>hn e.symm)).trans (hB1.block x hx);have hv:∀ x,v.ownBlock=some x→w0.heap.size≤x∧x < wA.heap.size:=fun x hx=>⟨(L.own x hx).1,hvA x hx⟩;have hgk:g ∉ Zs kids:=fun hm=>by
  rcases hat with h | h;·exact (L.own g h).2.2 hm
  ·have:=(L.ks.new g hm).2; omega
 have hga:g ∉ a.blocks:=fun hm=>by
  have h1:=A.new g hm;rcases hat with h | h;·have:=hv g h; omega
  ·omega
 have hg0:w0.heap.size≤g:=by
  rcases hat with h | h;·exact (hv g h).1
  ·have:=hF.size; omega
 have hkeep:∀ x∈Zs kids,w2.heap[x]?=w.heap[x]?:=fun x hx=>far x (L.ks.new x hx).2 fun e=>(L.own x e).2.2 hx;have hkeepA:∀ x∈a.blocks,w2.heap[x]?=w.heap[x]?:=fun x hx=>far x (A.new x hx).2 fun e=>by have h1:=hv x e; have h2:=A.new x hx; omega
 refine ⟨⟨⟨?_,fun x hx=>?_,?_,fun x hx=>?_⟩,?_,fun g' hg'=>?_⟩,far,hs1,⟨?_,?_,?_,?_,?_⟩⟩;·rw [Z6m,L.ks.tree]; simp [Zp,A.tree]
 ·rcases List.mem_append.1 hx with hx | hx
  ·refine (L.ks.at' x hx).keepB fun y hy=>hkeep y ?_;rw [Z1j]; exact List.mem_flatMap.2 ⟨x,hx,hy⟩
  ·simp only [List.mem_singleton] at hx; subst hx; exact A.at'.keepB hkeepA
 ·rw [Z1h];simp only [Zs,List.append_nil,List.nodup_append];exact ⟨L.ks.nodup,A.nodup,fun x hx y hy e=>by have h1:=hLA x hx; have h2:=A.new y hy; omega⟩
 ·rw [Z1h] at hx;simp only [Zs, List.append_nil, List.mem_append] at hx;rcases hx with hx | hx;·have := L.ks.new x hx; omega
  ·have:=A.new x hx; omega
 ·rw [Yi,Yl]; exact hown
 ·simp only [Value.ownBlock,Option.some.injEq] at hg';subst hg';refine ⟨hg0,hgl,fun hm=>?_⟩;rw [Z1h] at hm;simp only [Zs,List.append_nil,List.mem_append] at hm;exact hm.elim hgk hga
 ·exact (hg.os.trans hB1.os).trans hF.os
 ·exact (hg.tape.trans hB1.tape).trans hF.tape
 ·exact (hg.output.trans hB1.output).trans hF.output
 ·have:=hF.size; omega
 ·intro x hx hn;have:=hF.size;exact (far x (by omega) (fun e=>by have:=hv x e; omega)).trans (hF.block x hx hn)
theorem ListAt.node (L:ListAt w0 B w v kids ts) (hBw:B≤w.heap.size) (h0:w0.heap.size≤w.heap.size) :
 Got w0 B (w.alloc (.cells #[.int .i64 k,.string tx,.int .i64 n,v] 37)) (.mk w.heap.size v k tx n kids) (.mk k tx n ts):=by
 refine ⟨by simp [ATree.tree,L.ks.tree],TreeAt.new hBw L.row L.ks.at',?_,fun x hx=>?_⟩
 ·simp only [ATree.blocks, List.nodup_cons, List.mem_append, List.nodup_append, Option.mem_toList, not_or];refine ⟨⟨fun e => by have := (L.own _ e).2.1; omega, fun hm => by have := (L.ks.new _ hm).2; omega⟩, ?_, L.ks.nodup, fun x hx y hy e => ?_⟩;·cases v.ownBlock <;> simp
  ·subst e; exact (L.own x hx).2.2 hy
 ·simp only [ATree.blocks, List.mem_cons, List.mem_append, Option.mem_toList] at hx;rw [World.size_alloc];rcases hx with rfl | hx | hx;·omega
  ·have:=L.own x hx; omega
  ·have:=L.ks.new x hx; omega
theorem ListAt.apart (L:ListAt w1 B w v kids ts) (hb:b < w1.heap.size):v.ownBlock≠some b∧b ∉ Zs kids:=
 ⟨fun e=>by have:=(L.own b e).1; omega,fun hm=>by have:=(L.ks.new b hm).1; omega⟩
theorem Got.list (N:Got w0 B w (.mk b v k tx n kids) t):ListAt w0 B w v kids (Zp kids)∧v.ownBlock≠some b∧b ∉ Zs kids:=by
 have hnd:=N.nodup;simp only [ATree.blocks,List.nodup_cons,List.mem_append,List.nodup_append,Option.mem_toList,not_or] at hnd;obtain ⟨⟨hb1,hb2⟩,_,hk1,hk2⟩:=hnd;exact ⟨⟨⟨rfl,fun a ha=>N.at'.kid (k:=a) ha,hk1,fun x hx=>N.new x (by simp [ATree.blocks,hx])⟩,N.at'.rowOf,fun g hg=>⟨(N.new g (by simp [ATree.blocks,hg])).1,(N.new g (by simp [ATree.blocks,hg])).2,fun hm=>hk2 g hg g hm rfl⟩⟩,hb1,hb2⟩
end
theorem Z91 {P:Nat→Prop} (h:∃ g,P g):∃ m,P m∧∀ k,P k→m≤k:=by
 obtain ⟨g,hg⟩:=h;induction g using Nat.strongRecOn with
 | ind g ih =>
   by_cases h:∃ k,k < g∧P k
   ·obtain ⟨k,hk,hp⟩:=h;exact ih k hk hp
   ·exact ⟨g,hg,fun k hk=>Nat.le_of_not_lt fun hl=>h ⟨k,hl,hk⟩⟩
open Classical in
noncomputable def least (P:Nat→Prop):Nat:=if h:∃ g,P g then Classical.choose (Z91 h) else 0
theorem ListAt.len {w0 w:World} {B:Nat} {v:Value} {kids:List ATree} {ts:List Tree} (L:ListAt w0 B w v kids ts):kids.length=ts.length:=by rw [← L.ks.tree,Z20,Ym]
theorem ListAt.slice {w0 w:World} {B:Nat} {v:Value} {kids:List ATree} {ts:List Tree} (L:ListAt w0 B w v kids ts):∃ p cp,v=.slice p ts.length cp:=by
 rw [← L.len];rcases Z8 L.row with ⟨h1,h2⟩ | ⟨g0,cap0,h1,_⟩;·exact ⟨none,0,by rw [h1,h2]⟩
 ·exact ⟨_,_,h1⟩
theorem Zas:∀ {f d:Nat} {k:Int} {acc:List Tree} {us ts:List Tok} {t:Tree},Z0 f (.stmts k acc) d us=some (.ok (t,ts))→∃ tx l,t=.mk k tx 0 l:=by
 intro f;induction f with
 | zero=>intro d k acc us ts t h; cases h
 | succ f ih =>
   intro d k acc us ts t h;rw [Z0] at h;generalize (if k=1 then decide ((hdT us).kind=6) else isT Zq us)=c at h;cases c
   ·obtain ⟨x,vs,_,h⟩:=Z0f h;exact ih h
   ·obtain ⟨rfl,_⟩:=Z1p h; exact ⟨_,_,rfl⟩
theorem Zbg (f:Nat) (body:Bool) (hS:Says 19 (fun rb=>#[.pointer (some ⟨rb,0,none⟩),.int .i64 6,.string Zq]) (.stmts 6 []) f) :
 Says 77 (fun rb=>#[.pointer (some ⟨rb,0,none⟩),.bool body]) (.block body) (f + 1):=by
 intro w rb B d ts r hP hp;have hw:Z00 Z0d ts (fun ts=>Zh (Z0 f (.stmts 6 []) d ts) fun x ts=>Z00 Zq ts fun ts=>okT (if body then x else .mk 6 ByteArray.empty 0 x.kids) ts)=some r:=hp;have HP:=lh hP;simp only;rcases Z0s hw with ⟨hs,h1⟩ | ⟨hs,rfl⟩
 ·have HC := lh (Z0w w rb ts d Z0d hP.rd hs);have H1 := lh h1;clear hP hp hw hs h1;go_enter Tryz.func77, Tryz.ntmps77
  go_wp2_with fail
  refine HC.out.mono ?_;rintro e w1 ⟨rfl,hR1,hF1⟩;have P1:=lh (HP.out.tail hR1 hF1);have F1:=lh hF1;clear hR1 hF1 HC;rcases Zb H1.out with ⟨⟨c,p⟩,hv,rfl⟩ | ⟨t,ts2,hv,h2⟩
  ·have HV := hS w1 rb B d _ _ P1.out hv;simp only at HV;unfold Zq at HV;have HV := lh HV;clear hv;go_wp2_with fail
   refine HV.out.mono ?_;rintro e w2 ⟨⟨b,rfl,h1,h2⟩,hF⟩;exact ⟨rfl,Zo.pre F1.out (r:=.error (c,p)) ⟨⟨b,rfl,h1,h2⟩,hF⟩⟩
  ·have HV := hS w1 rb B d _ _ P1.out hv;simp only at HV;unfold Zq at HV;have HV := lh HV;have hl := Z08 hv;obtain ⟨tx, l, rfl⟩ := Zas hv;have H2 := lh h2;clear hv h2;go_wp2_with fail
   refine HV.out.mono ?_;rintro e w2 ⟨a,rfl,hG,hR2,hF2⟩;obtain ⟨b,v,k,tx',n,kids⟩:=a;have htr:=hG.tree;simp only [ATree.tree,Tree.mk.injEq] at htr;obtain ⟨rfl,rfl,rfl,rfl⟩:=htr;have G2:=hG.pre F1.out;have F2:=F1.out.trans hF2;have hblk:=G2.at'.blkOf;simp only [ATree.b,ATree.v,ATree.kind,ATree.text,ATree.n] at hblk ⊢;have c1:w2.cell? ⟨b,1,none⟩=some (.string tx'):=by simp [World.cell?,hblk]
   have z1:w2.frozen? ⟨b,1,none⟩=false:=by simp [World.frozen?,hblk]
   have P2:=P1.out.next hR2 hF2 hl;have H3:=lh (Got.text (t':=ByteArray.empty) HP.out.lt HP.out.le G2 F2 hR2);have P2':Pre (w2.setCell ⟨b,1,none⟩ (.string ByteArray.empty)) rb B d ts2:=⟨H3.out.2.2,P2.deep,P2.lt,by rw [Yf]; exact P2.le,P2.few⟩
   have P2:=lh P2;have P2':=lh P2';have F2:=lh F2;have G2:=lh G2;clear hG hR2 hF2 HV hl hblk;rcases Z0s H2.out with ⟨hs,h3⟩ | ⟨hs,rfl⟩
   ·have h3 := Yc h3;have HR := lh h3.symm;cases body
    ·have HC := Z0w _ rb ts2 d Zq P2'.out.rd hs;unfold Zq at HC;have HC := lh HC;clear hs h3;go_wp2_with fail
     refine HC.out.mono ?_;rintro e w3 ⟨rfl,hR3,hF3⟩;have R3:=lh hR3;have F3:=lh hF3;clear hR3 hF3;go_wp2;go_ret;rw [HR.out];exact ⟨_,rfl,H3.out.1.rfr HP.out.lt F3.out,R3.out,H3.out.2.1.trans F3.out⟩
    ·have HC := Z0w _ rb ts2 d Zq P2.out.rd hs;unfold Zq at HC;have HC := lh HC;clear hs h3;go_wp2_with fail
     refine HC.out.mono ?_;rintro e w3 ⟨rfl,hR3,hF3⟩;have R3:=lh hR3;have F3:=lh hF3;clear hR3 hF3;go_wp2;go_ret;rw [HR.out];exact ⟨_,rfl,G2.out.rfr HP.out.lt F3.out,R3.out,F2.out.trans F3.out⟩
   ·cases body
    ·have HC := Z1n _ rb ts2 d Zq P2'.out.rd hs;unfold Zq at HC;have HC := lh HC;clear hs;go_wp2_with fail
     refine HC.out.mono ?_;rintro e w3 ⟨⟨b,rfl,h1,h2⟩,hB⟩;exact ⟨rfl,Zo.err H3.out.2.1 ⟨b,rfl,h1,h2⟩ hB⟩
    ·have HC := Z1n _ rb ts2 d Zq P2.out.rd hs;unfold Zq at HC;have HC := lh HC;clear hs;go_wp2_with fail
     refine HC.out.mono ?_;rintro e w3 ⟨⟨b,rfl,h1,h2⟩,hB⟩;exact ⟨rfl,Zo.err F2.out ⟨b,rfl,h1,h2⟩ hB⟩
 ·have HC := lh (Z1n w rb ts d Z0d hP.rd hs);clear hP hp hw hs;go_enter Tryz.func77, Tryz.ntmps77
  go_wp2_with fail
  refine HC.out.mono ?_;rintro e w3 ⟨⟨b,rfl,h1,h2⟩,hB⟩;exact ⟨rfl,Zo.err (RFr.refl _ _) ⟨b,rfl,h1,h2⟩ hB⟩
end Go.Proofs.YtedopiahfejdfaaGreatDoor
