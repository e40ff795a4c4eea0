/- Package hoist: Vars; tree.Strict. -/
import Derived.Test.YtmjfllklcpjddaaGreatDoorJ07
import Derived.Lib.OwnKind
import Derived.LaidEql
namespace Go.Proofs.YtmjfllklcpjddaaGreatDoor
open Go Go.RowKit
set_option maxRecDepth 100000
set_option maxHeartbeats 20000000
set_option linter.unusedVariables false
def Z4g (a:ATree):List ByteArray:=Z20 Z2k a.kids []
theorem Zp.base {w:World} {B B':Nat} {v:Value} {l:List ByteArray} (h:Zp w B v l) (hB:B'≤B):Zp w B' v l:=by
 refine ⟨h.1,?_⟩;rcases h.2 with hn | ⟨g,cap,cur,h1,h2,rest⟩;·exact .inl hn
 ·exact .inr ⟨g,cap,cur,h1,by omega,rest⟩
theorem Z5t (l:List ATree):(Z2e l).length=Z0w l:=by
 have key:∀ n,∀ l:List ATree,Z0w l≤n→(Z2e l).length=Z0w l:=by
  intro n;induction n with
  | zero =>
    intro l hl;cases l with
    | nil=>rfl
    | cons a l=>exfalso; obtain ⟨b,v,k,t,m,ks⟩:=a; simp only [Z0w,ATree.many] at hl; omega
  | succ n ih =>
    intro l hl;cases l with
    | nil=>rfl
    | cons a l =>
      obtain ⟨b,v,k,t,m,ks⟩:=a;simp only [Z0w,ATree.many] at hl ⊢;have h1:=ih ks (by omega);have h2:=ih l (by omega);simp only [Z2e,ATree.subs,List.length_append,List.length_cons,h1,h2]
 exact key _ l (Y5 _)
theorem Zh2 (a:ATree):a.kids.length≤a.many:=by
 have key:∀ l:List ATree,l.length≤Z0w l:=by
  intro l;induction l with
  | nil=>simp [Z0w]
  | cons x l ih=>obtain ⟨b,v,k,t,m,ks⟩:=x; simp only [List.length_cons,Z0w,ATree.many]; omega
 obtain ⟨b,v,k,t,m,ks⟩:=a;have:=key ks;simp only [ATree.kids,ATree.many];omega
theorem Zga {w:World} {B:Nat}:∀ {a x:ATree},TreeAt w B a→x∈a.subs→TreeAt w B x:=by
 have key:∀ n,∀ a x:ATree,a.many≤n→TreeAt w B a→x∈a.subs→TreeAt w B x:=by
  intro n;induction n with
  | zero=>intro a x h; exfalso; obtain ⟨b,v,k,t,m,ks⟩:=a; simp only [ATree.many] at h; omega
  | succ n ih =>
    intro a x hn hT hx;obtain ⟨b,v,k,t,m,ks⟩:=a;simp only [ATree.subs,List.mem_cons] at hx;rcases hx with rfl | hx;·exact hT
    ·have:∀ l:List ATree,(∀ y∈l,y∈ks)→x∈Z2e l→TreeAt w B x:=by
      intro l;induction l with
      | nil=>intro _ h; simp [Z2e] at h
      | cons y l ih2 =>
        intro hl h;simp only [Z2e,List.mem_append] at h;rcases h with h | h
        ·have hy:y∈(ATree.mk b v k t m ks).kids:=hl y (by simp);exact ih y x (by have:=Z1t hy; omega) (hT.kid hy) h
        ·exact ih2 (fun z hz=>hl z (List.mem_cons_of_mem _ hz)) h
     exact this ks (fun y h=>h) hx
 intro a x hT hx;exact key _ a x (Y5 _) hT hx
def Z4q (a:ATree):List ByteArray:=(Z2e a.kids).map ATree.text
theorem Zct {a k x:ATree} (h:k∈a.kids) (hx:x∈k.subs):x.text∈Z4q a:=by
 unfold Z4q;refine List.mem_map_of_mem ?_;have key:∀ l:List ATree,k∈l→x∈Z2e l:=by
  intro l;induction l with
  | nil=>intro h; cases h
  | cons y l ih =>
    intro h;simp only [Z2e,List.mem_append];rcases List.mem_cons.1 h with rfl | h;·exact .inl hx
    ·exact .inr (ih h)
 exact key _ h
theorem Zkp (w:World) (B:Nat) (a k:ATree) (hT:TreeAt w B a) (hm:a.many < 1099511627776) (hk:k∈a.kids) (l:List ByteArray) (w1:World) (hI:VInv w w.heap.size (Z4q a) l w1) :
 Calls Tryz.prog 28 #[k.ptr,.func (.func 103) #[] #[.pointer (some ⟨w.heap.size,0,none⟩)]] w1 fun e w'=>e=.returned (.tuple #[])∧VInv w w.heap.size (Z4q a) (Z5f Z2k k l) w':=
 Zjj ⟨w.heap.size,0,none⟩ (VInv w w.heap.size (Z4q a)) Z2k B k.many k (Y5 _) (fun s w1 h=>h.tree (hT.kid hk) (Y5 _))
  l (fun x s hx w1 h=>Zhj w w.heap.size B (Z4q a) (by unfold Z4q; rw [Yv,Z5t]; obtain ⟨b,v,kk,t,m,ks⟩:=a; simp only [ATree.many] at hm; simp only [ATree.kids]; omega) (Y5 _) x (Zga (hT.kid hk) hx.sub) (Zct hk hx.sub) s w1 h) w1 hI
theorem Zic (w:World) (B:Nat) (a:ATree) (hT:TreeAt w B a) (hm:a.many < 1099511627776) :
 Calls Tryz.prog 68 #[a.ptr] w fun e w'=>∃ v,e=.returned v∧Zp w' w.heap.size v (Z4g a)∧Below w.heap.size w w'∧(Z4g a).length≤a.many:=by
 have HW:=lh (Zkp w B a · hT hm);have hmf:∀ (fn:Fn) (first cap:Array Value) (w:World),(Instr.makeFunc fn first cap).run Tryz.prog w=.ok (.func fn first cap) w:=fun _ _ _ _=>rfl;have hblk:=hT.blkOf;obtain ⟨p,cp,hv,hge,hmx⟩:=hT.vOf;have c3:w.cell? ⟨a.b,3,none⟩=some (.slice p a.kids.length cp):=by rw [← hv]; exact hT.c3
 have hlen:a.kids.length≤9223372036854775807:=by unfold maxLen at hmx; omega
 have hab:=hT.lt;have c3':(w.alloc (.cells #[.slice none 0 0] 26)).cell? ⟨a.b,3,none⟩=some (.slice p a.kids.length cp):=(Z4 hab).trans c3;have HT:=lh hT;have HV:=lh hv;have HM:=lh hm;unfold ATree.ptr;obtain ⟨n,hnn⟩:=zX a.kids.length
 rw [← hnn] at c3 hlen hge c3';have HN:=lh hnn;have hstart:VInv w w.heap.size (Z4q a) [] (w.alloc (.cells #[.slice none 0 0] 26)):=
  ⟨⟨_,by rw [World.alloc]; simp,Zp.nil _ _⟩,(Y8 _ _).alloc (Y5 _) _,List.nodup_nil,fun _ h=>by cases h⟩
 have HS:=lh hstart;clear hblk hv hnn hT hstart hm;go_enter Tryz.func68,Tryz.ntmps68
 go_wp2_with fail
 go_loopw [13] (fun i wr=>∃ (k:Nat),k≤n∧i=.int .i64 k∧Hid (VInv w w.heap.size (Z4q a) (Z20 Z2k (a.kids.take k) []) wr)) (fun i _=>n - (intOf i).toNat)
 case atStart=>exact ⟨0,Yp _,rfl,lh (by simpa [Z20] using HS.out)⟩
 case round=>
  obtain ⟨k,hk,rfl,HI⟩:=hrel;by_cases hkn:k < n
  ·obtain ⟨x, hx⟩ : ∃ x, a.kids[k]? = some x := ⟨_, Yd (by rw [← HN.out]; exact hkn)⟩
   have hT2:=HI.out.tree HT.out (Y5 _);have hrow:=hT2.rowOf;rcases Za hrow with ⟨_,h2⟩ | ⟨g0,cap0,hv0,_⟩;·rw [← HN.out] at h2; omega
   have hp:p=some ⟨g0,0,none⟩:=by
    have:=HV.out.symm.trans hv0;simp only [Value.slice.injEq] at this;exact this.1
   subst hp;have cx:=Zl hrow (g:=g0) (by rw [hv0]; rfl) (i:=k) (x:=x.ptr) (by rw [Yo,hx]; rfl);have hcall:=HW.out x (Yl hx) _ _ HI.out;unfold ATree.ptr at cx hcall;have HCALL:=lh hcall;have HX:=lh hx;clear hT2 hrow hv0 hx hcall;go_wp2_with fail
   refine HCALL.out.mono ?_;rintro e w1 ⟨rfl,hI1⟩;have HI1:=lh hI1;clear hI1 HCALL;go_wp2;go_roundw
   case rel=>exact ⟨k + 1,by omega,by go_num,lh (by rw [Z0v HX.out,Z62]; exact HI1.out)⟩
   case measure=>simp [intOf]; omega
  ·have hk2 : k = n := by omega
   subst hk2;obtain ⟨v,hb,htx⟩:=HI.out.cell;have cc:wr.cell? ⟨w.heap.size,0,none⟩=some v:=by simp [World.cell?,hb]
   have HTX:=lh htx;clear hb htx;go_wp2;go_ret;have hall:Z20 Z2k (a.kids.take k) []=Z4g a:=by rw [Ym (by rw [← HN.out]; exact Y5 _)]; rfl
   rw [← hall];refine ⟨_,rfl,HTX.out.base (Nat.le_succ _),HI.out.bel,?_⟩;have:=Z90 _ _ HI.out.nd HI.out.sub;refine Ya this ?_;unfold Z4q;rw [Yv,Z5t];obtain ⟨b,v,kk,t,m,ks⟩:=a;simp only [ATree.many,ATree.kids];omega
def Z0o (l:List ByteArray) (ks:List ATree):List ByteArray:=ks.foldl (fun l k=>addL l k.text) l
theorem Z56 (l:List ByteArray) (ks:List ATree) (k:ATree):Z0o l (ks ++ [k])=addL (Z0o l ks) k.text:=by simp [Z0o,List.foldl_append]
theorem Z1m (l:List ByteArray) (ks:List ATree):(Z0o l ks).length≤l.length + ks.length:=by
 induction ks generalizing l with
 | nil=>simp [Z0o]
 | cons k ks ih =>
   have h1:=ih (addL l k.text);have h2:=Z6y l k.text;simp only [Z0o,List.foldl_cons,List.length_cons] at h1 ⊢;omega
def Z1k (body:Bool) (a:ATree):List ByteArray:=Z0o (Z0o (if body then Z4g a else []) (a.kids.filter Z1n)) (a.kids.filter Z31)
theorem Z0x.far {w w':World} {B B':Nat} {v v':Value} {l:List ATree} {ks:List ByteArray} (h:Z0x w B v l) (ht:Zp w B' v' ks) (hf:∀ k,k < w.heap.size→v'.ownBlock≠some k→w'.heap[k]?=w.heap[k]?):Z0x w' B v l:=by
 refine Zh h fun k hk=>hf k (Yh h k hk).2 fun e=>?_;obtain ⟨c1,f1,h1⟩:=Lib.ownsRow_kind h k hk;obtain ⟨c2,f2,h2⟩:=Lib.ownsRow_kind ht k e;rw [h1] at h2;simp only [Option.some.injEq,Obj.cells.injEq] at h2;exact absurd h2.2.1 (by decide)
theorem Zee (w:World) (B0:Nat) (a:ATree) (hT:TreeAt w B0 a) (hm:a.many < 274877906944) :
 Calls Tryz.prog 33 #[a.ptr,.bool true] w fun e w'=>∃ v,e=.returned v∧Zp w' w.heap.size v (Z1k true a)∧Below w.heap.size w w':=by
 have hkl:=Zh2 a;have HT:=lh hT;have hfu:(a.kids.filter Z1n).length≤a.kids.length:=List.length_filter_le _ _;have hle:(a.kids.filter Z31).length≤a.kids.length:=List.length_filter_le _ _;have hfk:∀ x,x∈a.kids.filter Z1n→x∈a.kids:=fun x hx=>(List.mem_filter.1 hx).1;have hlk:∀ x,x∈a.kids.filter Z31→x∈a.kids:=fun x hx=>(List.mem_filter.1 hx).1;have HFK:=lh hfk;have HLK:=lh hlk;have hF:=fun (w':World) (h:TreeAt w' B0 a)=>Zbe w' B0 a h (by omega);have hL:=fun (w':World) (h:TreeAt w' B0 a)=>Zdp w' B0 a h (by omega)
 obtain ⟨P,hP⟩:=zX (a.kids.filter Z1n)
 obtain ⟨Q,hQ⟩:=zX (a.kids.filter Z31)
 unfold Z1k;simp only [if_true];rw [← hP] at hfu HFK;rw [← hQ] at hle HLK;simp only [← hP] at hF;simp only [← hQ] at hL;rw [← hP,← hQ];clear hP hQ hfk hlk hT;have HF:=lh hF;have HL:=lh hL;clear hF hL;have hV:=Zic w B0 a HT.out (by omega);obtain ⟨l0,hl0⟩:=zX (Z4g a)
 rw [← hl0] at hV ⊢;have HV:=lh hV;clear hV hl0;unfold ATree.ptr at HF HL HV ⊢;go_enter Tryz.func33,Tryz.ntmps33
 go_wp2_with fail
 refine HV.out.mono ?_;rintro e w1 ⟨v1,rfl,ht1,hb1,hl1⟩;have TX1:=lh ht1;have HB1:=lh hb1;clear HV ht1 hb1;go_wp2_with fail
 refine (HF.out w1 (HT.out.bel HB1.out)).mono ?_;rintro e w2 ⟨v2,rfl,hn2,hb2⟩;obtain ⟨p2,cp2,rfl,hge2,hmx2⟩:∃ p cp,v2=.slice p P.length cp∧P.length≤cp∧cp≤maxLen:=by
  rcases hn2.form with ⟨h1,h2⟩ | ⟨g,cap,h1,h2,h3⟩;·exact ⟨none,0,by rw [h1,h2]; rfl,by rw [h2]; exact Y5 _,by unfold maxLen; omega⟩
  ·exact ⟨_,_,h1,h2,h3⟩
 have TX2:=lh (TX1.out.bel hb2);have HB2:=lh (HB1.out.trans (hb2.mono HB1.out.size));have N2:=lh hn2;obtain ⟨m,hm1⟩:=zX P.length
 have hmq:m≤9223372036854775807:=by unfold maxLen at hmx2; omega
 rw [← hm1] at hge2 N2 hfu ⊢;have HM1:=lh hm1;clear hn2 hb2 hm1 TX1 HB1;go_wp2_with fail
 go_loopw [5,16] (fun v i wr=>∃ (k:Nat) (v':Value),v'=v∧k≤m∧i=.int .i64 k∧Hid (Zp wr w.heap.size v' (Z0o l0 (P.take k)))∧Hid (Z0x wr w1.heap.size (.slice p2 m cp2) P)∧Hid (Below w.heap.size w wr)) (fun _ i _=>m - (intOf i).toNat)
 case atStart=>exact ⟨0,_,rfl,Yp _,rfl,TX2,N2,HB2⟩
 case round=>
  obtain ⟨k,v,rfl,hk,rfl,TX,NO,HB⟩:=hrel;clear TX2 N2 HB2;by_cases hkn:k < m
  ·obtain ⟨x, hx⟩ : ∃ x, P[k]? = some x := ⟨_, Yd (by rw [← HM1.out]; exact hkn)⟩
   obtain ⟨g0,hp⟩:∃ g,p2=some ⟨g,0,none⟩:=by
    rcases NO.out.form with ⟨h1,h2⟩ | ⟨g,cap,h1,_⟩;·rw [h2] at hx; simp at hx
    ·simp only [Value.slice.injEq] at h1; exact ⟨g,h1.1⟩
   subst hp;have cx:=NO.out.cell rfl hx;have hTx:=(HT.out.bel HB.out).kid (HFK.out x (Yl hx));have c1:=hTx.c1;have hln:(Z0o l0 (P.take k)).length < 1099511627776:=by
    have:=Z1m l0 (P.take k);have h3:(P.take k).length≤k:=by simp; omega
    have h4:=HM1.out;omega
   have HA:=lh (Z94 wr w.heap.size v _ x.text TX.out HB.out.size hln);have HX:=lh hx;clear hTx hx hln;go_wp2_with fail
   refine HA.out.mono ?_;rintro e w3 ⟨v3,rfl,ht3,hb3,hf3⟩;have hsn:Z0o l0 (P.take (k + 1))=addL (Z0o l0 (P.take k)) x.text:=by rw [Z0v HX.out,Z56]
   have TX3:Hid (Zp w3 w.heap.size v3 (Z0o l0 (P.take (k + 1)))):=lh (by rw [hsn]; exact ht3);have N3:=lh (NO.out.far TX.out hf3);have HB3:=lh (HB.out.trans hb3);clear HA ht3 hb3 hf3 hsn;go_wp2;go_roundw
   case rel=>exact ⟨k + 1,_,rfl,by omega,by go_num,TX3,N3,HB3⟩
   case measure=>simp [intOf]; omega
  ·have hk2 : k = m := by omega
   subst hk2;have hend:Zp wr w.heap.size v (Z0o l0 P):=by
    have:=TX.out;rwa [Ym (by rw [← HM1.out]; exact Y5 _)] at this
   have TX3:=lh hend;have hl3:=Z1m l0 P;obtain ⟨l1,hl1⟩:=zX (Z0o l0 P)
   rw [← hl1] at TX3 hl3;have HL1:=lh hl1;clear hend TX NO hl1;go_wp2_with fail
   refine (HL.out wr (HT.out.bel HB.out)).mono ?_;rintro e w4 ⟨v4,rfl,hn4,hb4⟩;obtain ⟨p4,cp4,rfl,hge4,hmx4⟩:∃ p cp,v4=.slice p Q.length cp∧Q.length≤cp∧cp≤maxLen:=by
    rcases hn4.form with ⟨h1,h2⟩ | ⟨g,cap,h1,h2,h3⟩;·exact ⟨none,0,by rw [h1,h2]; rfl,by rw [h2]; exact Y5 _,by unfold maxLen; omega⟩
    ·exact ⟨_,_,h1,h2,h3⟩
   have TX4:=lh (TX3.out.bel hb4);have HB4:=lh (HB.out.trans (hb4.mono HB.out.size));have N4:=lh hn4;obtain ⟨q,hq1⟩:=zX Q.length
   have hqq:q≤9223372036854775807:=by unfold maxLen at hmx4; omega
   rw [← hq1] at hge4 N4 hle ⊢;have HQ1:=lh hq1;clear hn4 hb4 hq1 TX3 HB;obtain ⟨bb,hbb⟩:=zX wr.heap.size
   rw [← hbb] at N4;clear hbb;go_wp2_with fail
   go_loopw [5,30] (fun v i wr=>∃ (k:Nat) (v':Value),v'=v∧k≤q∧i=.int .i64 k∧Hid (Zp wr w.heap.size v' (Z0o l1 (Q.take k)))∧Hid (Z0x wr bb (.slice p4 q cp4) Q)∧Hid (Below w.heap.size w wr)) (fun _ i _=>q - (intOf i).toNat)
   case atStart=>exact ⟨0,_,rfl,Yp _,rfl,TX4,N4,HB4⟩
   case round=>
    obtain ⟨k,v,rfl,hk,rfl,TX,NO,HB⟩:=hrel;clear TX4 N4 HB4;by_cases hkn:k < q
    ·obtain ⟨x, hx⟩ : ∃ x, Q[k]? = some x := ⟨_, Yd (by rw [← HQ1.out]; exact hkn)⟩
     obtain ⟨g0,hp⟩:∃ g,p4=some ⟨g,0,none⟩:=by
      rcases NO.out.form with ⟨h1,h2⟩ | ⟨g,cap,h1,_⟩;·rw [h2] at hx; simp at hx
      ·simp only [Value.slice.injEq] at h1; exact ⟨g,h1.1⟩
     subst hp;have cx:=NO.out.cell rfl hx;have hTx:=(HT.out.bel HB.out).kid (HLK.out x (Yl hx));have c1:=hTx.c1;have hln:(Z0o l1 (Q.take k)).length < 1099511627776:=by
      have:=Z1m l1 (Q.take k);have h3:(Q.take k).length≤k:=by simp; omega
      have h4:=HM1.out;omega
     have HA:=lh (Z94 wr w.heap.size v _ x.text TX.out HB.out.size hln);have HX:=lh hx;clear hTx hx hln;go_wp2_with fail
     refine HA.out.mono ?_;rintro e w3 ⟨v3,rfl,ht3,hb3,hf3⟩;have hsn:Z0o l1 (Q.take (k + 1))=addL (Z0o l1 (Q.take k)) x.text:=by rw [Z0v HX.out,Z56]
     have TX3:Hid (Zp w3 w.heap.size v3 (Z0o l1 (Q.take (k + 1)))):=lh (by rw [hsn]; exact ht3);have N3:=lh (NO.out.far TX.out hf3);have HB3:=lh (HB.out.trans hb3);clear HA ht3 hb3 hf3 hsn;go_wp2;go_roundw
     case rel=>exact ⟨k + 1,_,rfl,by omega,by go_num,TX3,N3,HB3⟩
     case measure=>simp [intOf]; omega
    ·have hk2 : k = q := by omega
     subst hk2;have hend:Zp wr w.heap.size v (Z0o l1 Q):=by
      have:=TX.out;rwa [Ym (by rw [← HQ1.out]; exact Y5 _)] at this
     have TX5:=lh hend;clear hend TX;go_wp2;go_ret;rw [← HL1.out];exact ⟨_,rfl,TX5.out,HB.out⟩
theorem Zci (w:World) (B0:Nat) (a:ATree) (hT:TreeAt w B0 a) (hm:a.many < 274877906944) :
 Calls Tryz.prog 33 #[a.ptr,.bool false] w fun e w'=>∃ v,e=.returned v∧Zp w' w.heap.size v (Z1k false a)∧Below w.heap.size w w':=by
 have hkl:=Zh2 a;have HT:=lh hT;have hfu:(a.kids.filter Z1n).length≤a.kids.length:=List.length_filter_le _ _;have hle:(a.kids.filter Z31).length≤a.kids.length:=List.length_filter_le _ _;have hfk:∀ x,x∈a.kids.filter Z1n→x∈a.kids:=fun x hx=>(List.mem_filter.1 hx).1;have hlk:∀ x,x∈a.kids.filter Z31→x∈a.kids:=fun x hx=>(List.mem_filter.1 hx).1;have HFK:=lh hfk;have HLK:=lh hlk;have hF:=fun (w':World) (h:TreeAt w' B0 a)=>Zbe w' B0 a h (by omega);have hL:=fun (w':World) (h:TreeAt w' B0 a)=>Zdp w' B0 a h (by omega)
 obtain ⟨P,hP⟩:=zX (a.kids.filter Z1n)
 obtain ⟨Q,hQ⟩:=zX (a.kids.filter Z31)
 unfold Z1k;simp only [Bool.false_eq_true,if_false];rw [← hP] at hfu HFK;rw [← hQ] at hle HLK;simp only [← hP] at hF;simp only [← hQ] at hL;rw [← hP,← hQ];clear hP hQ hfk hlk hT;have HF:=lh hF;have HL:=lh hL;clear hF hL;obtain ⟨l0,hl0⟩:∃ l:List ByteArray,l=[]:=⟨_,rfl⟩
 have hl1:l0.length≤a.many:=by rw [hl0]; exact Yp _
 have TX1:Hid (Zp w w.heap.size (.slice none 0 0) l0):=lh (by rw [hl0]; exact Zp.nil _ _);rw [← hl0];have HB1:=lh (Y8 w.heap.size w);clear hl0;unfold ATree.ptr at HF HL ⊢;go_enter Tryz.func33,Tryz.ntmps33
 go_wp2_with fail
 refine (HF.out w (HT.out.bel HB1.out)).mono ?_;rintro e w2 ⟨v2,rfl,hn2,hb2⟩;obtain ⟨p2,cp2,rfl,hge2,hmx2⟩:∃ p cp,v2=.slice p P.length cp∧P.length≤cp∧cp≤maxLen:=by
  rcases hn2.form with ⟨h1,h2⟩ | ⟨g,cap,h1,h2,h3⟩;·exact ⟨none,0,by rw [h1,h2]; rfl,by rw [h2]; exact Y5 _,by unfold maxLen; omega⟩
  ·exact ⟨_,_,h1,h2,h3⟩
 have TX2:=lh (TX1.out.bel hb2);have HB2:=lh (HB1.out.trans (hb2.mono HB1.out.size));have N2:=lh hn2;obtain ⟨m,hm1⟩:=zX P.length
 have hmq:m≤9223372036854775807:=by unfold maxLen at hmx2; omega
 rw [← hm1] at hge2 N2 hfu ⊢;have HM1:=lh hm1;clear hn2 hb2 hm1 TX1 HB1;go_wp2_with fail
 go_loopw [5,16] (fun v i wr=>∃ (k:Nat) (v':Value),v'=v∧k≤m∧i=.int .i64 k∧Hid (Zp wr w.heap.size v' (Z0o l0 (P.take k)))∧Hid (Z0x wr w.heap.size (.slice p2 m cp2) P)∧Hid (Below w.heap.size w wr)) (fun _ i _=>m - (intOf i).toNat)
 case atStart=>exact ⟨0,_,rfl,Yp _,rfl,TX2,N2,HB2⟩
 case round=>
  obtain ⟨k,v,rfl,hk,rfl,TX,NO,HB⟩:=hrel;clear TX2 N2 HB2;by_cases hkn:k < m
  ·obtain ⟨x, hx⟩ : ∃ x, P[k]? = some x := ⟨_, Yd (by rw [← HM1.out]; exact hkn)⟩
   obtain ⟨g0,hp⟩:∃ g,p2=some ⟨g,0,none⟩:=by
    rcases NO.out.form with ⟨h1,h2⟩ | ⟨g,cap,h1,_⟩;·rw [h2] at hx; simp at hx
    ·simp only [Value.slice.injEq] at h1; exact ⟨g,h1.1⟩
   subst hp;have cx:=NO.out.cell rfl hx;have hTx:=(HT.out.bel HB.out).kid (HFK.out x (Yl hx));have c1:=hTx.c1;have hln:(Z0o l0 (P.take k)).length < 1099511627776:=by
    have:=Z1m l0 (P.take k);have h3:(P.take k).length≤k:=by simp; omega
    have h4:=HM1.out;omega
   have HA:=lh (Z94 wr w.heap.size v _ x.text TX.out HB.out.size hln);have HX:=lh hx;clear hTx hx hln;go_wp2_with fail
   refine HA.out.mono ?_;rintro e w3 ⟨v3,rfl,ht3,hb3,hf3⟩;have hsn:Z0o l0 (P.take (k + 1))=addL (Z0o l0 (P.take k)) x.text:=by rw [Z0v HX.out,Z56]
   have TX3:Hid (Zp w3 w.heap.size v3 (Z0o l0 (P.take (k + 1)))):=lh (by rw [hsn]; exact ht3);have N3:=lh (NO.out.far TX.out hf3);have HB3:=lh (HB.out.trans hb3);clear HA ht3 hb3 hf3 hsn;go_wp2;go_roundw
   case rel=>exact ⟨k + 1,_,rfl,by omega,by go_num,TX3,N3,HB3⟩
   case measure=>simp [intOf]; omega
  ·have hk2 : k = m := by omega
   subst hk2;have hend:Zp wr w.heap.size v (Z0o l0 P):=by
    have:=TX.out;rwa [Ym (by rw [← HM1.out]; exact Y5 _)] at this
   have TX3:=lh hend;have hl3:=Z1m l0 P;obtain ⟨l1,hl1⟩:=zX (Z0o l0 P)
   rw [← hl1] at TX3 hl3;have HL1:=lh hl1;clear hend TX NO hl1;go_wp2_with fail
   refine (HL.out wr (HT.out.bel HB.out)).mono ?_;rintro e w4 ⟨v4,rfl,hn4,hb4⟩;obtain ⟨p4,cp4,rfl,hge4,hmx4⟩:∃ p cp,v4=.slice p Q.length cp∧Q.length≤cp∧cp≤maxLen:=by
    rcases hn4.form with ⟨h1,h2⟩ | ⟨g,cap,h1,h2,h3⟩;·exact ⟨none,0,by rw [h1,h2]; rfl,by rw [h2]; exact Y5 _,by unfold maxLen; omega⟩
    ·exact ⟨_,_,h1,h2,h3⟩
   have TX4:=lh (TX3.out.bel hb4);have HB4:=lh (HB.out.trans (hb4.mono HB.out.size));have N4:=lh hn4;obtain ⟨q,hq1⟩:=zX Q.length
   have hqq:q≤9223372036854775807:=by unfold maxLen at hmx4; omega
   rw [← hq1] at hge4 N4 hle ⊢;have HQ1:=lh hq1;clear hn4 hb4 hq1 TX3 HB;obtain ⟨bb,hbb⟩:=zX wr.heap.size
   rw [← hbb] at N4;clear hbb;go_wp2_with fail
   go_loopw [5,30] (fun v i wr=>∃ (k:Nat) (v':Value),v'=v∧k≤q∧i=.int .i64 k∧Hid (Zp wr w.heap.size v' (Z0o l1 (Q.take k)))∧Hid (Z0x wr bb (.slice p4 q cp4) Q)∧Hid (Below w.heap.size w wr)) (fun _ i _=>q - (intOf i).toNat)
   case atStart=>exact ⟨0,_,rfl,Yp _,rfl,TX4,N4,HB4⟩
   case round=>
    obtain ⟨k,v,rfl,hk,rfl,TX,NO,HB⟩:=hrel;clear TX4 N4 HB4;by_cases hkn:k < q
    ·obtain ⟨x, hx⟩ : ∃ x, Q[k]? = some x := ⟨_, Yd (by rw [← HQ1.out]; exact hkn)⟩
     obtain ⟨g0,hp⟩:∃ g,p4=some ⟨g,0,none⟩:=by
      rcases NO.out.form with ⟨h1,h2⟩ | ⟨g,cap,h1,_⟩;·rw [h2] at hx; simp at hx
      ·simp only [Value.slice.injEq] at h1; exact ⟨g,h1.1⟩
     subst hp;have cx:=NO.out.cell rfl hx;have hTx:=(HT.out.bel HB.out).kid (HLK.out x (Yl hx));have c1:=hTx.c1;have hln:(Z0o l1 (Q.take k)).length < 1099511627776:=by
      have:=Z1m l1 (Q.take k);have h3:(Q.take k).length≤k:=by simp; omega
      have h4:=HM1.out;omega
     have HA:=lh (Z94 wr w.heap.size v _ x.text TX.out HB.out.size hln);have HX:=lh hx;clear hTx hx hln;go_wp2_with fail
     refine HA.out.mono ?_;rintro e w3 ⟨v3,rfl,ht3,hb3,hf3⟩;have hsn:Z0o l1 (Q.take (k + 1))=addL (Z0o l1 (Q.take k)) x.text:=by rw [Z0v HX.out,Z56]
     have TX3:Hid (Zp w3 w.heap.size v3 (Z0o l1 (Q.take (k + 1)))):=lh (by rw [hsn]; exact ht3);have N3:=lh (NO.out.far TX.out hf3);have HB3:=lh (HB.out.trans hb3);clear HA ht3 hb3 hf3 hsn;go_wp2;go_roundw
     case rel=>exact ⟨k + 1,_,rfl,by omega,by go_num,TX3,N3,HB3⟩
     case measure=>simp [intOf]; omega
    ·have hk2 : k = q := by omega
     subst hk2;have hend:Zp wr w.heap.size v (Z0o l1 Q):=by
      have:=TX.out;rwa [Ym (by rw [← HQ1.out]; exact Y5 _)] at this
     have TX5:=lh hend;clear hend TX;go_wp2;go_ret;rw [← HL1.out];exact ⟨_,rfl,TX5.out,HB.out⟩
theorem Zfk (body:Bool) (w:World) (B0:Nat) (a:ATree) (hT:TreeAt w B0 a) (hm:a.many < 274877906944) :
 Calls Tryz.prog 33 #[a.ptr,.bool body] w fun e w'=>∃ v,e=.returned v∧Zp w' w.heap.size v (Z1k body a)∧Below w.heap.size w w':=by
 cases body;·exact Zci w B0 a hT hm
 ·exact Zee w B0 a hT hm
end Go.Proofs.YtmjfllklcpjddaaGreatDoor
namespace Go.Proofs.YtmjfllklcpjddaaGreatDoor
open Go Go.RowKit Go.ChangeMaps Go.MapKept
set_option maxRecDepth 100000
set_option maxHeartbeats 20000000
set_option linter.unusedVariables false
def Zl4 (b:Nat):Value:=.pointer (some ⟨b,0,none⟩)
def Zio (w:World) (k:Nat):Prop:=∃ c t,w.heap[k]?=some (.cells c t (0,0))
def PMap (w:World) (b:Nat) (l:List (Nat×Nat)):Prop:=
 ∃ es clock,w.heap[b]?=some (.map es clock)∧es.toList.map (fun e=>(e.key,e.val))=l.map (fun x=>(Zl4 x.1,Value.int .i64 x.2))∧Go.MapKept.Stamped es clock
theorem PMap.len {w:World} {b:Nat} {l:List (Nat×Nat)} (h:PMap w b l):∃ es clock,w.heap[b]?=some (.map es clock)∧es.size=l.length:=by
 obtain ⟨es,clock,hb,he,hst⟩:=h;refine ⟨es,clock,hb,?_⟩;have:=congrArg List.length he;simpa using this
end Go.Proofs.YtmjfllklcpjddaaGreatDoor
namespace Go.Proofs.YtmjfllklcpjddaaGreatDoor
open Go Go.RowKit
set_option maxRecDepth 100000
set_option maxHeartbeats 20000000
set_option linter.unusedVariables false
theorem Zb3 (l m:List ATree):Z2e (l ++ m)=Z2e l ++ Z2e m:=by
 induction l with
 | nil=>rfl
 | cons a l ih=>simp only [List.cons_append,Z2e,ih,List.append_assoc]
theorem Zcu (a:ATree):a.subs=a :: Z2e a.kids:=by cases a; rfl
theorem Zio.bel {w0 w:World} {k:Nat} (h:Zio w0 k) (g:Below w0.heap.size w0 w):Zio w k:=by
 obtain ⟨c,t,h⟩:=h;exact ⟨c,t,(g.block k (Y6.1 h).1).trans h⟩
theorem TreeAt.cellsOf {w:World} {B:Nat} {a:ATree} (h:TreeAt w B a):Zio w a.b:=⟨_,_,h.blkOf⟩
theorem Z8y (a:ATree):a.subs.length=a.many:=by
 obtain ⟨b,v,k,t,n,ks⟩:=a;simp only [ATree.subs,ATree.many,List.length_cons,Z5t]
end Go.Proofs.YtmjfllklcpjddaaGreatDoor
namespace Go.Proofs.YtmjfllklcpjddaaGreatDoor
open Go Go.RowKit
set_option maxRecDepth 100000
set_option maxHeartbeats 20000000
structure RS where
 ts:List Tok
 f:Option (Int×Nat)
def gT:Tree:=.mk 0 ByteArray.empty 0 []
def Z30 (e:Int) (σ:RS):RS:=if σ.f.isNone then ⟨σ.ts,some (e,(hdT σ.ts).at')⟩ else σ
def Zd (s:ByteArray) (σ:RS):Bool:=σ.f.isNone && isT s σ.ts
def advR (σ:RS):RS:=⟨σ.ts.tail,σ.f⟩
def Z09 (s:ByteArray) (σ:RS):RS:=if σ.f.isNone then (if isT s σ.ts then advR σ else Z30 3 σ) else σ
def Zj (σ:RS):ByteArray×RS:=if σ.f.isNone then (if (hdT σ.ts).kind=1 then ((hdT σ.ts).text,advR σ) else (ByteArray.empty,Z30 3 σ)) else (ByteArray.empty,σ)
abbrev RR:=Option (Tree×RS)
def Z03 (p:RR) (k:Tree→RS→RR):RR:=match p with | none=>none | some (t,σ)=>k t σ
def Z2v (s:ByteArray):Int:=if Z0n s s_or then 25 else if Z0n s Z67 then 26 else if Z0n s Z3w then 27 else if Z0n s Z41 then 28 else if Z0n s Z4f then 29 else if Z0n s Z54 then 30 else if Z0n s Z66 then 31 else 0
def Z4s (level:Nat) (s:ByteArray):Bool:=
 match level with
 | 0=>Z0n s s_or
 | 1=>Z0n s Z67
 | 2=>Z0n s Z3w
 | 3=>Z0n s Z41
 | 4=>Z0n s Z4f || Z0n s Z54
 | 5=>Z0n s Z66
 | _=>false
def Z5m (σ:RS):Int:=if Zd Z4o σ then 32 else if Zd Z1g σ then 33 else if Zd Z1w σ then 34 else 0
def Z2o (s:ByteArray):Int:=if Z0n s Z48 then 19 else if Z0n s Z3a then 20 else if Z0n s Z4w then 21 else if Z0n s Z1c then 22 else 0
inductive RJob
 | prog (acc:List Tree)
 | braces (body:Bool)
 | bracesL (acc:List Tree)
 | params (acc:List Tree)
 | args (acc:List Tree)
 | props (acc:List Tree)
 | func (kind:Int) (text:ByteArray)
 | head
 | stmt
 | stmt2
 | value
 | pairs (level:Nat)
 | pairsL (level:Nat) (x:Tree)
 | single
 | singleL (x:Tree)
 | first
def Z3f (c:Bool) (σ:RS):RS:=if c then Z09 Z0l σ else σ
def Z4r (c:Bool) (σ:RS):RS:=if c then Z30 4 σ else σ
def tryF (l:List Tree) (σ:RS):RR:=some (.mk 12 ByteArray.empty 0 l,if l.length=1 then Z30 3 σ else σ)
def Z3s (σ:RS):Int:=if Zd Z19 σ then 2 else if Zd Z1a σ then 3 else if Zd Z02 σ then 4 else 0
def Z1o (k:Int) (σ:RS):RS:=if decide (k=4) && σ.f.isNone && !Zd s_eq σ then Z30 3 σ else σ
def refF:Nat→RJob→Nat→RS→RR
 | 0,_,_,_=>none
 | f + 1, .prog acc, d, σ =>
   if σ.f.isNone && !decide ((hdT σ.ts).kind=6) then Z03 (refF f .stmt 1 σ) fun x σ=>refF f (.prog (acc ++ [x])) d σ
   else some (.mk 0 ByteArray.empty 0 acc,σ)
 | f + 1, .braces body, d, σ =>
   Z03 (refF f (.bracesL []) d (Z09 Zb σ)) fun l σ=>
    some (.mk 6 (if body && (Z09 Zk σ).f.isNone && Z1p l.kids then Z27 else ByteArray.empty) 0 l.kids,Z09 Zk σ)
 | f + 1, .bracesL acc, d, σ =>
   if σ.f.isNone && !Zd Zk σ then Z03 (refF f .stmt (d + 1) σ) fun x σ=>refF f (.bracesL (acc ++ [x])) d σ
   else some (.mk 0 ByteArray.empty 0 acc,σ)
 | f + 1, .params acc, d, σ =>
   if σ.f.isNone && !Zd Z07 σ then
    if (Z4r (decide (acc.length=8)) (Z3f (decide (0 < acc.length)) σ)).f.isNone then
     refF f (.params (acc ++ [.mk 23 (Zj (Z4r (decide (acc.length=8)) (Z3f (decide (0 < acc.length)) σ))).1 0 []])) d (Zj (Z4r (decide (acc.length=8)) (Z3f (decide (0 < acc.length)) σ))).2
    else refF f (.params acc) d (Z4r (decide (acc.length=8)) (Z3f (decide (0 < acc.length)) σ))
   else some (.mk 0 ByteArray.empty 0 acc,Z09 Z07 σ)
 | f + 1, .args acc, d, σ =>
   if σ.f.isNone && !Zd Z07 σ then
    if (Z4r (decide (acc.length=8)) (Z3f (decide (0 < acc.length)) σ)).f.isNone then
     Z03 (refF f .value (d + 1) (Z4r (decide (acc.length=8)) (Z3f (decide (0 < acc.length)) σ))) fun v σ=>refF f (.args (acc ++ [v])) d σ
    else refF f (.args acc) d (Z4r (decide (acc.length=8)) (Z3f (decide (0 < acc.length)) σ))
   else some (.mk 0 ByteArray.empty 0 acc,Z09 Z07 σ)
 | f + 1, .props acc, d, σ =>
   if σ.f.isNone && !Zd Zk σ then
    if (Z4r (decide (acc.length=8)) (Z3f (decide (0 < acc.length)) σ)).f.isNone then
     Z03 (refF f .value (d + 1) (Z09 Z2m (Zj (Z4r (decide (acc.length=8)) (Z3f (decide (0 < acc.length)) σ))).2)) fun v σ'=>
      refF f (.props (acc ++ [.mk 39 (Zj (Z4r (decide (acc.length=8)) (Z3f (decide (0 < acc.length)) σ))).1 0 [v]])) d σ'
    else refF f (.props acc) d (Z4r (decide (acc.length=8)) (Z3f (decide (0 < acc.length)) σ))
   else some (.mk 0 ByteArray.empty 0 acc,Z09 Zk σ)
 | f + 1, .func kind text, d, σ =>
   Z03 (refF f (.params []) d (Z09 Z08 σ)) fun l σ=>Z03 (refF f (.braces true) d σ) fun b σ=>some (.mk kind text 0 [.mk 40 ByteArray.empty 0 l.kids,b],σ)
 | f + 1,.head,d,σ=>Z03 (refF f .value (d + 1) (Z09 Z08 σ)) fun x σ=>some (x,Z09 Z07 σ)
 | f + 1, .stmt, d, σ =>
   if 30 < d then some (gT,Z30 4 σ)
   else if Zd Zb σ then refF f (.braces false) d σ
   else if Zd Zg σ then some (.mk 16 ByteArray.empty 0 [],advR σ)
   else if Zd Z9 σ then refF f (.func 5 (Zj (advR σ)).1) d (Zj (advR σ)).2
   else if Zd s_if σ then
    Z03 (refF f .head d (advR σ)) fun x σ=>Z03 (refF f .stmt2 d σ) fun y σ=>
     if Zd Z58 σ then Z03 (refF f .stmt2 d (advR σ)) fun z σ=>some (.mk 7 ByteArray.empty 0 [x,y,z],σ)
     else some (.mk 7 ByteArray.empty 0 [x,y],σ)
   else if Zd Zv σ || Zd Z04 σ then
    Z03 (refF f .head d (advR σ)) fun x σ1=>Z03 (refF f .stmt2 d σ1) fun y σ2=>some (.mk (if Zd Z04 σ then 9 else 8) ByteArray.empty 0 [x,y],σ2)
   else if Zd Z23 σ then
    Z03 (refF f (.braces false) d (advR σ)) fun b σ=>
     (fun (k : List Tree → RS → RR) =>
      if Zd Z2a σ then
       Z03 (refF f (.braces false) d (Z09 Z07 (Zj (Z09 Z08 (advR σ))).2)) fun c σ'=>k [b,.mk 13 (Zj (Z09 Z08 (advR σ))).1 0 [c]] σ'
      else k [b] σ) fun l σ=>
     if Zd Zy σ then Z03 (refF f (.braces false) d (advR σ)) fun c σ=>tryF (l ++ [.mk 14 ByteArray.empty 0 [c]]) σ
     else tryF l σ
   else if Z3s σ≠0 then
    if Zd s_eq (Z1o (Z3s σ) (Zj (advR σ)).2) then
     Z03 (refF f .value (d + 1) (advR (Z1o (Z3s σ) (Zj (advR σ)).2))) fun x σ'=>some (.mk (Z3s σ) (Zj (advR σ)).1 0 [x],Z09 Zg σ')
    else some (.mk (Z3s σ) (Zj (advR σ)).1 0 [],Z09 Zg (Z1o (Z3s σ) (Zj (advR σ)).2))
   else if Zd Z0d σ then
    if Zd Zg (advR σ) then some (.mk 10 ByteArray.empty 0 [],Z09 Zg (advR σ))
    else Z03 (refF f .value (d + 1) (advR σ)) fun x σ=>some (.mk 10 ByteArray.empty 0 [x],Z09 Zg σ)
   else if Zd Z1h σ then Z03 (refF f .value (d + 1) (advR σ)) fun x σ=>some (.mk 11 ByteArray.empty 0 [x],Z09 Zg σ)
   else Z03 (refF f .value (d + 1) σ) fun x σ=>some (.mk 15 ByteArray.empty 0 [x],Z09 Zg σ)
 | f + 1,.stmt2,d,σ=>if σ.f.isNone then refF f .stmt (d + 1) σ else some (gT,σ)
 | f + 1, .value, d, σ =>
   if σ.f.isNone then
    if 30 < d then some (gT,Z30 4 σ)
    else Z03 (refF f (.pairs 0) d σ) fun x σ1=>
     if Zd s_eq σ1 then
      if x.kind=23∨x.kind=36 then Z03 (refF f .value (d + 1) (advR σ1)) fun y σ2=>some (.mk 24 ByteArray.empty 0 [x,y],σ2)
      else some (gT,Z30 1 ⟨σ.ts,σ1.f⟩)
     else some (x,σ1)
   else some (gT,σ)
 | f + 1, .pairs level, d, σ =>
   if 6≤level then refF f .single d σ
   else Z03 (refF f (.pairs (level + 1)) d σ) fun x σ=>refF f (.pairsL level x) d σ
 | f + 1, .pairsL level x, d, σ =>
   if σ.f.isNone && decide ((hdT σ.ts).kind=5) && Z4s level (hdT σ.ts).text then
    Z03 (refF f (.pairs (level + 1)) d (advR σ)) fun y σ'=>refF f (.pairsL level (.mk (Z2v (hdT σ.ts).text) ByteArray.empty 0 [x,y])) d σ'
   else some (x,σ)
 | f + 1, .single, d, σ =>
   if Z5m σ≠0 then
    if 30 < d + 1 then some (gT,Z30 4 (advR σ))
    else Z03 (refF f .single (d + 1) (advR σ)) fun x σ'=>some (.mk (Z5m σ) ByteArray.empty 0 [x],σ')
   else Z03 (refF f .first d σ) fun x σ=>refF f (.singleL x) d σ
 | f + 1, .singleL x, d, σ =>
   if Zd Z98 σ then refF f (.singleL (.mk 36 (Zj (advR σ)).1 0 [x])) d (Zj (advR σ)).2
   else if Zd Z08 σ then Z03 (refF f (.args []) d (advR σ)) fun l σ=>refF f (.singleL (.mk 35 ByteArray.empty 0 (x :: l.kids))) d σ
   else some (x,σ)
 | f + 1, .first, d, σ =>
   if σ.f.isNone then
    if (hdT σ.ts).kind=1 then some (.mk 23 (hdT σ.ts).text 0 [],advR σ)
    else if (hdT σ.ts).kind=3 then some (.mk 17 ByteArray.empty (hdT σ.ts).n [],advR σ)
    else if (hdT σ.ts).kind=4 then some (.mk 18 (hdT σ.ts).text 0 [],advR σ)
    else if Zd Z08 σ then refF f .head d σ
    else if Zd Z9 σ then
     if (hdT (advR σ).ts).kind=1 then refF f (.func 37 (Zj (advR σ)).1) d (Zj (advR σ)).2
     else refF f (.func 37 ByteArray.empty) d (advR σ)
    else if Zd Zb σ then Z03 (refF f (.props []) d (advR σ)) fun l σ=>some (.mk 38 ByteArray.empty 0 l.kids,σ)
    else if (hdT σ.ts).kind=2∧Z2o (hdT σ.ts).text≠0 then some (.mk (Z2o (hdT σ.ts).text) ByteArray.empty 0 [],advR σ)
    else some (gT,Z30 3 σ)
   else some (gT,σ)
def Z18 (r:RR) (e:Int×Nat):Prop:=∃ t ts,r=some (t,⟨ts,some e⟩)
theorem Z42 (s:ByteArray) (ts:List Tok) (e:Int×Nat):Z09 s ⟨ts,some e⟩=⟨ts,some e⟩:=rfl
theorem Z4m (s:ByteArray) (ts:List Tok) (e:Int×Nat):Zd s ⟨ts,some e⟩=false:=rfl
theorem Zfr (ts:List Tok) (e:Int×Nat):Zj ⟨ts,some e⟩=(ByteArray.empty,⟨ts,some e⟩):=rfl
theorem Z8o (f d:Nat) (ts:List Tok) (e:Int×Nat):refF (f + 1) .value d ⟨ts,some e⟩=some (gT,⟨ts,some e⟩):=by simp [refF]
theorem Z8k (f d:Nat) (ts:List Tok) (e:Int×Nat):refF (f + 1) .stmt2 d ⟨ts,some e⟩=some (gT,⟨ts,some e⟩):=by simp [refF]
theorem Z65 (f d:Nat) (acc:List Tree) (ts:List Tok) (e:Int×Nat):refF (f + 1) (.params acc) d ⟨ts,some e⟩=some (.mk 0 ByteArray.empty 0 acc,⟨ts,some e⟩):=by simp [refF,Z42]
theorem Zdm (f d:Nat) (acc:List Tree) (ts:List Tok) (e:Int×Nat):refF (f + 1) (.args acc) d ⟨ts,some e⟩=some (.mk 0 ByteArray.empty 0 acc,⟨ts,some e⟩):=by simp [refF,Z42]
theorem Z75 (f d:Nat) (acc:List Tree) (ts:List Tok) (e:Int×Nat):refF (f + 1) (.props acc) d ⟨ts,some e⟩=some (.mk 0 ByteArray.empty 0 acc,⟨ts,some e⟩):=by simp [refF,Z42]
theorem Z6f (f d:Nat) (acc:List Tree) (ts:List Tok) (e:Int×Nat):refF (f + 1) (.bracesL acc) d ⟨ts,some e⟩=some (.mk 0 ByteArray.empty 0 acc,⟨ts,some e⟩):=by simp [refF]
theorem Zi8 (f d:Nat) (acc:List Tree) (ts:List Tok) (e:Int×Nat):refF (f + 1) (.prog acc) d ⟨ts,some e⟩=some (.mk 0 ByteArray.empty 0 acc,⟨ts,some e⟩):=by simp [refF]
theorem Z43 (f d:Nat) (b:Bool) (ts:List Tok) (e:Int×Nat):refF (f + 2) (.braces b) d ⟨ts,some e⟩=some (.mk 6 ByteArray.empty 0 [],⟨ts,some e⟩):=by
 rw [refF,Z42,Z6f]; simp [Z03,Z42,Tree.kids]
theorem Z9x (f d lv:Nat) (x:Tree) (ts:List Tok) (e:Int×Nat):refF (f + 1) (.pairsL lv x) d ⟨ts,some e⟩=some (x,⟨ts,some e⟩):=by simp [refF]
theorem Z6o (f d:Nat) (x:Tree) (ts:List Tok) (e:Int×Nat):refF (f + 1) (.singleL x) d ⟨ts,some e⟩=some (x,⟨ts,some e⟩):=by simp [refF,Z4m]
theorem Zia (f d:Nat) (k:Int) (s:ByteArray) (ts:List Tok) (e:Int×Nat):Z18 (refF (f + 3) (.func k s) d ⟨ts,some e⟩) e:=by
 rw [refF,Z42,Z65];simp only [Z03];rw [Z43];exact ⟨_,_,rfl⟩
def Zjg (t:Tok):Prop:=(t.kind=2→Z2v t.text=0)∧(t.kind=5→Z2o t.text=0)
def Zu (ts:List Tok):Prop:=∀ t∈ts,Zjg t
theorem Zu.tail {ts:List Tok} (h:Zu ts):Zu ts.tail:=fun t ht=>h t (List.mem_of_mem_tail ht)
theorem Zu.hd {ts:List Tok} (h:Zu ts):Zjg (hdT ts):=by
 cases ts with
 | nil=>exact ⟨fun h=>by simp [hdT] at h,fun h=>by simp [hdT] at h⟩
 | cons t l=>exact h t (by simp)
def Agree (p:PR) (q:RR):Prop:=
 match p with
 | none=>True
 | some (.ok (t,ts))=>q=some (t,⟨ts,none⟩)∧Zu ts
 | some (.error e)=>Z18 q e
theorem Agree.ok {t:Tree} {ts:List Tok} (h:Zu ts):Agree (okT t ts) (some (t,⟨ts,none⟩)):=⟨rfl,h⟩
theorem Agree.fail {k:Int} {t:Tree} {ts:List Tok}:Agree (Z2c k ts) (some (t,Z30 k ⟨ts,none⟩)):=⟨_,_,rfl⟩
theorem Agree.bind {p:PR} {q:RR} {k:Tree→List Tok→PR} {m:Tree→RS→RR} (h:Agree p q) (hk:∀ t ts,Zu ts→Agree (k t ts) (m t ⟨ts,none⟩)) (he:∀ t ts e,Z18 (m t ⟨ts,some e⟩) e) :
 Agree (Zx p k) (Z03 q m):=by
 cases p with
 | none=>trivial
 | some r =>
   cases r with
   | error e=>obtain ⟨t,ts,rfl⟩:=h; exact he t ts e
   | ok x=>obtain ⟨t,ts⟩:=x; obtain ⟨rfl,hg⟩:=h; exact hk t ts hg
theorem Agree.want {s:ByteArray} {ts:List Tok} {k:List Tok→PR} {m:RS→RR} (hg:Zu ts) (hk:Zu ts.tail→Agree (k ts.tail) (m ⟨ts.tail,none⟩)) (he:∀ ts e,Z18 (m ⟨ts,some e⟩) e) :
 Agree (Z0p s ts k) (m (Z09 s ⟨ts,none⟩)):=by
 unfold Z0p Z09;by_cases h:isT s ts=true;·simp only [h,Option.isNone_none,if_true]; exact hk hg.tail
 ·simp only [h,Option.isNone_none,if_true]; exact he _ _
theorem Agree.name {ts:List Tok} {k:ByteArray→List Tok→PR} {m:ByteArray→RS→RR} (hg:Zu ts) (hk:∀ s,Zu ts.tail→Agree (k s ts.tail) (m s ⟨ts.tail,none⟩)) (he:∀ s ts e,Z18 (m s ⟨ts,some e⟩) e) :
 Agree (Z2w ts k) (m (Zj ⟨ts,none⟩).1 (Zj ⟨ts,none⟩).2):=by
 unfold Z2w Zj;by_cases h:(hdT ts).kind=1;·simp only [h,Option.isNone_none,if_true]; exact hk _ hg.tail
 ·simp only [h,Option.isNone_none,if_true,if_false]; exact he _ _ _
theorem Agree.ite {c:Prop} [Decidable c] {c':Bool} {p1 p2:PR} {q1 q2:RR} (h:c↔c'=true) (h1:c→Agree p1 q1) (h2:¬ c→Agree p2 q2):Agree (if c then p1 else p2) (if c'=true then q1 else q2):=by
 by_cases hc:c;·rw [Yb hc,Yb (h.1 hc)]; exact h1 hc
 ·rw [Y9 hc,Y9 (fun e=>hc (h.2 e))]; exact h2 hc
theorem Agree.within {d:Nat} {ts:List Tok} {p:PR} {q:RR} {t:Tree} (h:d + 1≤30→Agree p q):Agree (Z0e d ts p) (if 30 < d + 1 then some (t,Z30 4 ⟨ts,none⟩) else q):=by
 unfold Z0e;by_cases hd:30 < d + 1;·rw [Yb hd,Yb hd]; exact Agree.fail
 ·rw [Y9 hd,Y9 hd]; exact h (by omega)
theorem Z0i (s:ByteArray) (ts:List Tok):Zd s ⟨ts,none⟩=isT s ts:=by simp [Zd]
end Go.Proofs.YtmjfllklcpjddaaGreatDoor
