/- The document's numbers. -/
import Derived.Test.YtfilfhpfndaniaaGreatDoorJ18
namespace Go.Proofs.YtfilfhpfndaniaaGreatDoor
open Go Go.RowKit Go.ChangeMaps Go.MapKept
set_option maxRecDepth 100000
set_option maxHeartbeats 20000000
set_option linter.unusedVariables false
def nums:List ATree→Nat→List (Nat×Nat)
 | [],_=>[]
 | a :: l,i=>(a.b,i) :: nums l (i + 1)
theorem Zbd:∀ (l m:List ATree) (i:Nat),nums (l ++ m) i=nums l i ++ nums m (i + l.length)
 | [],m,i=>by simp [nums]
 | a :: l, m, i => by
   simp only [List.cons_append,nums,Zbd l m (i + 1),List.length_cons];rw [show i + 1 + l.length=i + (l.length + 1) by omega]
theorem Zel:∀ (l:List ATree) (i:Nat),(nums l i).length=l.length
 | [],_=>rfl
 | a :: l,i=>by simp only [nums,List.length_cons,Zel l]
mutual
theorem Zeh:∀ (a:ATree) (s:List (Nat×Nat)),Z2g numG a s=s ++ nums a.subs s.length
 | .mk b v k t n ks, s => by
   have h1:(numG s (.mk b v k t n ks)).1=true:=rfl;have h2:(numG s (.mk b v k t n ks)).2=s ++ [(b,s.length)]:=rfl;rw [Z60,Yb h1,h2];simp only [ATree.kids,ATree.subs,nums];rw [Zcx ks];simp [ATree.b]
theorem Zcx:∀ (l:List ATree) (s:List (Nat×Nat)),Z16 numG l s=s ++ nums (Z0y l) s.length
 | [],s=>by simp [Z16,Z0y,nums]
 | a :: l, s => by
   simp only [Z16,Z0y];rw [Zcx l,Zeh a,Zbd];simp [Zel]
end
theorem Zgg {l:List ATree} {j:Nat} {x:ATree} (h:l[j]?=some x):nums (l.take (j + 1)) 0=nums (l.take j) 0 ++ [(x.b,j)]:=by
 have hl:=(List.getElem?_eq_some_iff.1 h).1;rw [Zk h,Zbd];simp only [nums,Nat.zero_add,List.length_take];rw [Nat.min_eq_left (by omega)]
theorem Zb5:∀ (l:List ATree) (i:Nat) (x:Nat×Nat),x∈nums l i→∃ y∈l,y.b=x.1
 | [],_,x,h=>by cases h
 | a :: l, i, x, h => by
   simp only [nums,List.mem_cons] at h;rcases h with rfl | h;·exact ⟨a,by simp,rfl⟩
   ·obtain ⟨y,hy,e⟩:=Zb5 l (i + 1) x h;exact ⟨y,List.mem_cons_of_mem _ hy,e⟩
theorem Zjo {l:List ATree} (hd:(l.map (·.b)).Nodup) {j:Nat} {x:ATree} (h:l[j]?=some x):∀ y∈nums (l.take j) 0,y.1≠x.b:=by
 intro y hy e;obtain ⟨z,hz,e2⟩:=Zb5 _ _ _ hy;obtain ⟨i,hi⟩:=List.getElem?_of_mem hz;have hij:i < j:=by have:=(List.getElem?_eq_some_iff.1 hi).1; simp at this; omega
 rw [List.getElem?_take_of_lt hij] at hi;have h1:(l.map (·.b))[i]?=some x.b:=by rw [Yo,hi]; simp [e2,e]
 have h2:(l.map (·.b))[j]?=some x.b:=by rw [Yo,h]; rfl
 have:=(List.getElem?_inj (List.getElem?_eq_some_iff.1 h1).1 hd).1 (h1.trans h2.symm);omega
theorem Zce (w:World) (B:Nat) (a:ATree) (hT:TreeAt w B a) (hd:(a.subs.map (·.b)).Nodup) (hmx:a.many≤100000) :
 Calls Tryz.prog 16 #[a.ptr] w fun e w'=>∃ mb,e=.returned (.map (some mb))∧PMap w' mb (Z2g numG a [])∧Below w.heap.size w w'∧w.heap.size≤mb:=by
 have hmm:∀ w:World,(Instr.makeMap 45 none).run Tryz.prog w=.ok (.map (some w.heap.size)) (w.alloc (.map #[] 0)):=fun w=>run_makeMap _ w;obtain ⟨w1,hw1⟩:=zX (w.alloc (.map #[] 0))
 have hb1:Below w.heap.size w w1:=by rw [hw1]; exact (Y8 _ _).alloc (Y5 _) _
 have hP1:PMap w1 w.heap.size []:=⟨#[],0,by rw [hw1]; exact (Go.MapKept.heap_alloc w _).1,rfl,stamped_empty 0⟩
 have hz1:w1.heap.size=w.heap.size + 1:=by rw [hw1]; simp
 have HA:=lh (Zhv _ a (Y5 _) hmx w1 _ (hT.bel hb1));have HT:=lh hT;have HD:=lh hd;have HW1:=lh hw1;have B1:=lh hb1;have P1:=lh hP1;have HZ1:=lh hz1;rw [Zeh];simp only [List.nil_append,List.length_nil];unfold ATree.ptr at HA ⊢;clear hT hd hmx hw1 hb1 hP1 hz1;go_enter Tryz.func16,Tryz.ntmps16
 go_wp2_with fail
 rw [← HW1.out];refine HA.out.mono ?_;rintro e w2 ⟨v2,rfl,hn2,hb2⟩;obtain ⟨p,cp,rfl,hge,hgm⟩:∃ p cp,v2=.slice p a.subs.length cp∧a.subs.length≤cp∧cp≤9223372036854775807:=by
  rcases hn2.form with ⟨h1,h2⟩ | ⟨g,cap,h1,h2,h3⟩;·exact ⟨none,0,by rw [h1,h2]; rfl,by rw [h2]; exact Y5 _,by omega⟩
  ·unfold maxLen at h3; exact ⟨_,_,h1,h2,by omega⟩
 have hml:w.heap.size < w1.heap.size:=by have:=HZ1.out; omega
 have P2:=lh (show PMap w2 w.heap.size [] from by
  obtain ⟨es,clock,h1,h2⟩:=P1.out;exact ⟨es,clock,(hb2.block _ hml).trans h1,h2⟩)
 have B2:=lh (B1.out.trans (hb2.mono B1.out.size));obtain ⟨m,hm⟩:=zX a.subs.length
 rw [← hm] at hge hn2 ⊢;have HM:=lh hm;have N2:=lh hn2;obtain ⟨mb,hmb⟩:=zX w.heap.size
 rw [← hmb] at P2 ⊢;have HMB:=lh hmb;clear hn2 hb2 hm hmb HA P1 hmm HW1;go_wp2_with fail
 go_loopw [10] (fun i wr=>∃ j:Nat,j≤m∧i=.int .i64 j∧Hid (PMap wr mb (nums (a.subs.take j) 0))∧Hid (Z11 wr w1.heap.size (.slice p m cp) a.subs)∧Hid (Below w.heap.size w wr)) (fun i _=>m - (intOf i).toNat)
 case atStart=>exact ⟨0,Yp _,rfl,P2,N2,B2⟩
 case round=>
  obtain ⟨j,hj,rfl,PM,NO,HB⟩:=hrel;by_cases hjm:j < m
  ·obtain ⟨x, hx⟩ : ∃ x, a.subs[j]? = some x := ⟨_, Yd (by rw [← HM.out]; exact hjm)⟩
   obtain ⟨g1,hp⟩:∃ g,p=some ⟨g,0,none⟩:=by
    rcases NO.out.form with ⟨_,h2⟩ | ⟨g,cap,h1,_⟩;·rw [h2] at hx; simp at hx
    ·simp only [Value.slice.injEq] at h1; exact ⟨g,h1.1⟩
   subst hp;have cx:=NO.out.cell rfl hx;have HTW:=lh (HT.out.bel HB.out);have HK:=lh (Z5v HTW.out (Yl hx)).cellsOf;have HL:=lh (show ∀ y∈nums (a.subs.take j) 0,Z3s wr y.1∧y.1≠x.b from fun y hy=>⟨by
    obtain ⟨z,hz,e⟩:=Zb5 _ _ _ hy;rw [← e];exact (Z5v HTW.out (List.mem_of_mem_take hz)).cellsOf,Zjo HD.out hx y hy⟩)
   have HNX:=lh (Zgg hx);clear hx;go_wp2_with (at_mapUpdate; go_must (refine Z4g _ rfl _ _ _ rfl mb x.b j (nums (a.subs.take j) 0) rfl rfl rfl PM.out HK.out HL.out ?_); intro w5 hp5 hg5; have HP5:=lh hp5; have HG5:=lh hg5; clear hp5 hg5)
   go_roundw
   case rel=>
    refine ⟨j + 1,by omega,by go_num,lh (by rw [HNX.out]; exact HP5.out),lh (Zb NO.out fun k hk=>HG5.out.block k (Yh NO.out k hk).2 fun e=>?_),lh (HB.out.grown HG5.out HB.out.size fun k hk=>by cases hk; rw [HMB.out]; exact Y5 _)⟩;have h1:=(Yh NO.out k hk).1;have h2:=Yk e;have h3:=HMB.out;have h4:=HZ1.out;omega
   case measure=>simp [intOf]; omega
  ·have hk2 : j = m := by omega
   subst hk2;have hend:=PM.out;rw [Ym (by rw [← HM.out]; exact Y5 _)] at hend;have PE:=lh hend;clear hend PM;go_wp2;go_ret;exact ⟨mb,rfl,PE.out,HB.out,by rw [HMB.out]; exact Y5 _⟩
end Go.Proofs.YtfilfhpfndaniaaGreatDoor
namespace Go.Proofs.YtfilfhpfndaniaaGreatDoor
open Go Go.RowKit
set_option maxRecDepth 100000
set_option maxHeartbeats 20000000
set_option linter.unusedVariables false
theorem Z9r (w:World) (B:Nat) (a:ATree) (hT:TreeAt w B a) :
 Calls Tryz.prog 22 #[a.ptr] w fun e w'=>e=.returned (.bool (Zt a.text Zn))∧w'=w:=by
 have c1:=hT.c1;unfold ATree.ptr;obtain ⟨tx,htx⟩:=zX a.text
 rw [← htx] at c1 ⊢;clear htx hT;by_cases hs:tx=Zn
 ·subst hs;have hss : Zt Zn Zn = true := by simp [Zt]
  rw [hss];unfold Zn at c1;go_enter Tryz.func22,Tryz.ntmps22
  go_wp2;go_ret;exact ⟨rfl,rfl⟩
 ·have hne1 : Zt tx Zn = false := by simp [Zt, hs]
  rw [hne1];have hne2:(tx.toList == Zn.toList)=false:=by rw [Z26]; exact hne1
  have hne3:(tx.toList == [115,116,114,105,99,116])=false:=by
   have:Zn.toList=[115,116,114,105,99,116]:=by kernel_rfl
   rwa [this] at hne2
  clear hne1 hne2 hs;go_enter Tryz.func22,Tryz.ntmps22
  go_wp2;go_ret;exact ⟨rfl,rfl⟩
theorem Z5z (a:ATree):1≤a.many:=by cases a; simp [ATree.many]
theorem FT.kid {a k:ATree} (h:FT a.tree) (hk:k∈a.kids):FT k.tree:=by
 obtain ⟨b,v,kd,t,n,ks⟩:=a;simp only [ATree.tree] at h;have h2:=h.2;simp only [ATree.kids] at hk;clear h;induction ks with
 | nil=>cases hk
 | cons x l ih =>
   simp only [Z0t] at h2;rcases List.mem_cons.1 hk with rfl | hk;·exact h2.1
   ·exact ih hk h2.2
theorem Z58.at {w0:World} {nb ob kb mb:Nat} {N:Nat→Nat} {L:List (Nat×Nat)} {m:Nat} (h:Z58 w0 nb ob kb mb N L m) {a x:ATree} {B:Nat} (hx:x∈a.kids) (hm:a.many≤m + 1) (hWT:WT a.tree) (hFT:FT a.tree) (hT:TreeAt w0 B a) (hnum:∀ x∈a.subs,(x.b,N x.b)∈L)
 (w:World) (R:List (Sc×Value)) (S:List Sc) (rv:Value) (st:Bool) (out:List Us) (h1:out.length + x.many≤100000) (h2:R.length + 2 * x.many≤1000000) (h3:WSt w0 nb ob kb mb N L out w) (h4:RingsAt w w0.heap.size rv R) (h5:LkEq (Z3k R) S) :
 Calls Tryz.prog 17 #[x.ptr,rv,.bool st,.pointer (some ⟨nb,0,none⟩),.pointer (some ⟨ob,0,none⟩),.pointer (some ⟨kb,0,none⟩)] w fun e w'=>e=.returned (.tuple #[])∧WSt w0 nb ob kb mb N L (out ++ Z0x N x S st) w'∧WFr w w'∧(Z0x N x S st).length≤x.many:=
 h x B w R S rv st out (by have:=Z36 hx; omega) (Z8l hWT hx) (hFT.kid hx) (hT.kid hx) (fun y hy=>hnum y (Z3f hx hy)) h1 h2 h3 h4 h5
theorem Zkz {w0:World} {nb ob kb mb:Nat} {N:Nat→Nat} {L:List (Nat×Nat)} {m:Nat} (hIH:Z58 w0 nb ob kb mb N L m)
 (a:ATree) (B:Nat) (w:World) (R:List (Sc×Value)) (S:List Sc) (rv:Value) (st:Bool) (out:List Us) (hm:a.many≤m + 1) (hWT:WT a.tree) (hFT:FT a.tree) (hT:TreeAt w0 B a) (hnum:∀ x∈a.subs,(x.b,N x.b)∈L) (hlen:out.length + a.many≤100000) (hRl:R.length + 2 * a.many≤1000000) (hF:WSt w0 nb ob kb mb N L out w) (hR:RingsAt w w0.heap.size rv R) (hE:LkEq (Z3k R) S) (h1:a.kind=9) :
 Calls Tryz.prog 17 #[a.ptr,rv,.bool st,.pointer (some ⟨nb,0,none⟩),.pointer (some ⟨ob,0,none⟩),.pointer (some ⟨kb,0,none⟩)] w fun e w'=>e=.returned (.tuple #[])∧WSt w0 nb ob kb mb N L (out ++ Z0x N a S st) w'∧WFr w w'∧(Z0x N a S st).length≤a.many:=by
 obtain ⟨x,y,hk⟩:∃ x y,a.kids=[x,y]:=by
  obtain ⟨b,v,k,t,n,ks⟩:=a;simp only [ATree.tree] at hWT;simp only [ATree.kind] at h1;have h2:=hWT.1.two (by omega);exact Zb2 (by rw [← h2,Zbo]; rfl)
 have hdef:Z0x N a S st=Z0x N x S st ++ Z0x N y (⟨-2,[],true⟩ :: S) st:=by
  obtain ⟨b,v,k,t,n,ks⟩:=a;simp only [ATree.kind] at h1;simp only [ATree.kids] at hk;subst hk h1;rw [Z0x.eq_def];simp
 have hmm:x.many + y.many < a.many:=Z8p hk;have HX:=lh (fun w1 R1 S1 rv1 o1=>hIH.at (x:=x) (by rw [hk]; simp) hm hWT hFT hT hnum w1 R1 S1 rv1 st o1);have HY:=lh (fun w1 R1 S1 rv1 o1=>hIH.at (x:=y) (by rw [hk]; simp) hm hWT hFT hT hnum w1 R1 S1 rv1 st o1);obtain ⟨g,cap,rfl,hg,hle,hmx⟩:=hR.form;have hM:=WMid.start hF hR;obtain ⟨n,hn⟩:=zX R.length
 rw [← hn] at hM hle ⊢;have hT1:TreeAt (w.alloc (.cells #[.slice (some ⟨g,0,none⟩) n cap] 56)) B a:=hT.keep fun k _ hk=>hM.st.bel.block k hk;have d0:=hT1.c0;rw [h1] at d0;obtain ⟨gk,cp,c3,c4,c5,hcp,_,_⟩:=hT1.two hk;obtain ⟨f0,f1,f2,f3⟩:=hM.cells;unfold Z63 at f1;have HM:=lh hM;have HT:=lh hT;have HK:=lh hk;have HN:=lh hn;have HDEF:=lh hdef;have HE:=lh hE;have HLEN:=lh hlen;have HRL:=lh hRl;have HMM:=lh hmm;unfold ATree.ptr at HX HY ⊢;clear hIH hT hnum hF hR hE h1 hdef hg hM hT1 hn hk hWT hFT hm hlen hRl hmm;go_enter Tryz.func17,Tryz.ntmps17
 go_wp2_with fail
 refine Z1 [(true,0),(true,1),(true,2),(true,3),(true,4),(true,5),(true,6),(true,7),(true,8)] [9] (fun W=>W.cell? ⟨kb,0,none⟩=some (.func (.func 17) #[] #[.pointer (some ⟨nb,0,none⟩),.pointer (some ⟨ob,0,none⟩),.pointer (some ⟨kb,0,none⟩)])∧W.cell? ⟨a.b,3,none⟩=some (.slice (some ⟨gk,0,none⟩) 2 cp)∧W.cell? ⟨gk,0,none⟩=some (.pointer (some ⟨x.b,0,none⟩))∧W.cell? ⟨w.heap.size,0,none⟩=some (.slice (some ⟨g,0,none⟩) n cap)) (by kernel_rfl) (by kernel_rfl) (fun _ _ d _ _ h=>by cases d <;> exact h) ⟨f1,c3,c4,f2⟩ (fun hS0=>?_)
 simp only [Zh,zD,zE,zF,zG,zH,zI]
 iterate 9
  first
   | (refine Z2 ?_ (by rfl) (fun w' hS'=>?_) ?_; rotate_left; (obtain ⟨s0,s1,s2,s3⟩:=hS'; go_simp; first | done | with_reducible rfl); simp only [Act.put,zA,zB,zC])
   | (refine Z3 (by rfl) ?_; simp only [Act.put,zA,zB,zC])
 refine Z6 ?_;go_wp2_with fail
 have HMD:=lh (HM.out.on (Y8 _ _).drew);refine (HX.out _ R S _ out (by have h1:=HLEN.out; have h2:=HMM.out; omega) (by have h1:=HRL.out; have h2:=HMM.out; omega) HMD.out.st HMD.out.rings HE.out).mono ?_;rintro e w2 ⟨rfl,hs2,hf2,hl2⟩;have hM2:=HMD.out.call hs2 hf2;have hT2:TreeAt w2 B a:=HT.out.keep fun k _ hk=>hM2.st.bel.block k hk;clear c3 c4 c5 f0 f1 f2 f3 hcp d0 HM HMD HX hs2 hf2;obtain ⟨gk2,cp2,c3,_,c5,hcp,_,_⟩:=hT2.two HK.out;obtain ⟨f0,f1,f2,f3⟩:=hM2.cells;unfold Z63 at f1;have HL2:=lh hl2;have HM2:=lh (hM2.on (Y8 _ _).drew)
 have HP:=lh (show Calls Tryz.prog 18 #[.agg #[.int .i64 0,.slice none 0 0,.bool true],.pointer (some ⟨w.heap.size,0,none⟩)] w2.drew _ from Z8a w2.drew w0.heap.size w.heap.size _ R ⟨0,[],true⟩ (.slice none 0 0) HM2.out.cell HM2.out.rings (Zr.nil _ _) HM2.out.st.bel.size (by have h1:=HRL.out; omega))
 have HS2:=lh (show ∀ W,Below w2.heap.size w2.drew W→W.cell? ⟨kb,0,none⟩=some (.func (.func 17) #[] #[.pointer (some ⟨nb,0,none⟩),.pointer (some ⟨ob,0,none⟩),.pointer (some ⟨kb,0,none⟩)])∧W.cell? ⟨a.b,3,none⟩=some (.slice (some ⟨gk2,0,none⟩) 2 cp2)∧W.cell? ⟨gk2,1,none⟩=some (.pointer (some ⟨y.b,0,none⟩)) from fun W hW=>by
  have key:∀ b i (x:Value),w2.cell? ⟨b,i,none⟩=some x→W.cell? ⟨b,i,none⟩=some x:=fun b i x h=>by
   have hl:b < w2.heap.size:=by
    rcases Nat.lt_or_ge b w2.heap.size with h' | h';·exact h'
    ·simp [World.cell?,Array.getElem?_eq_none h'] at h
   exact (Yj (w:=w2) (hW.block b hl)).trans h
  exact ⟨key _ _ _ f1,key _ _ _ c3,key _ _ _ c5⟩)
 clear hM2 hT2 hl2;go_wp2_with fail
 refine Z1 [(true,0),(true,1),(true,2),(true,3),(true,4),(true,5),(true,6),(true,7),(true,8),(true,10),(false,9)] [11] (fun W=>W.cell? ⟨kb,0,none⟩=some (.func (.func 17) #[] #[.pointer (some ⟨nb,0,none⟩),.pointer (some ⟨ob,0,none⟩),.pointer (some ⟨kb,0,none⟩)])∧W.cell? ⟨a.b,3,none⟩=some (.slice (some ⟨gk2,0,none⟩) 2 cp2)∧W.cell? ⟨gk2,1,none⟩=some (.pointer (some ⟨y.b,0,none⟩))) (by kernel_rfl) (by kernel_rfl) (fun _ _ d _ _ h=>by cases d <;> exact h) ⟨f1,c3,c5⟩ (fun hS0=>?_)
 simp only [Zh,zD,zE,zF,zG,zH,zI]
 iterate 10
  first
   | (refine Z2 ?_ (by rfl) (fun w' hS'=>?_) ?_; rotate_left; (obtain ⟨s0,s1,s2⟩:=hS'; go_simp; first | done | with_reducible rfl); simp only [Act.put,zA,zB,zC])
   | (refine Z3 (by rfl) ?_; simp only [Act.put,zA,zB,zC])
 refine Z5 (fun K hK=>?_);go_simp
 refine HP.out.mono ?_;rintro e w3 ⟨v3,rfl,hr3,hb3⟩;refine hK _ _ (HS2.out _ hb3) ?_;have HM3:=lh (HM2.out.on hb3);have HR3:=lh hr3;clear hK K hr3 hb3 HP;refine Z6 ?_;go_wp2_with fail
 refine (HY.out w3 (R ++ [(⟨0,[],true⟩,.slice none 0 0)]) (⟨-2,[],true⟩ :: S) v3 (out ++ Z0x N x S st) (by rw [Yq]; have h1:=HLEN.out; have h2:=HMM.out; have h3:=HL2.out; omega) (by rw [Yq]; have h1:=HRL.out; have h2:=HMM.out; have h3:=Z5z x; simp only [List.length_cons,List.length_nil]; omega) HM3.out.st HR3.out (by rw [Z51]; exact HE.out.any 0 (-2))).mono ?_;rintro e w4 ⟨rfl,hs4,hf4,hl4⟩;have HF4:=lh hf4;have HS4:=lh hs4;have HL4:=lh hl4;clear hf4 hs4 hl4 HY;go_wp2;refine bodyPost_ret (results_none rfl _ _ _) rfl ?_
 rw [HDEF.out,← List.append_assoc];exact ⟨rfl,HS4.out,HM3.out.fr.trans HF4.out,by rw [Yq]; have h1:=HL2.out; have h2:=HL4.out; have h3:=HMM.out; omega⟩
theorem Z27 {o:Oper} {a:Act} {w:World} (m x:Operand) (hop:o.op=Op.lookup 45 m x false) (b k v:Nat) (l:List (Nat×Nat))
 (hm:a.eval m=.map (some b)) (hx:a.eval x=Z30 k) (hr:(Instr.lookup 45 (.map (some b)) (Z30 k) false).run Tryz.prog w=.ok (.int .i64 v) w):(execOp a.eval o).run Tryz.prog w=.ok (.value (.int .i64 v)) w:=by
 simp [execOp,hop,hm,hx,hr,Result.andThen]
theorem WSt.look {w0 w:World} {nb ob kb mb:Nat} {N:Nat→Nat} {L:List (Nat×Nat)} {out:List Us} (h:WSt w0 nb ob kb mb N L out w) {k:Nat} (hin:(k,N k)∈L):(Instr.lookup 45 (.map (some mb)) (Z30 k) false).run Tryz.prog w=.ok (.int .i64 (N k)) w:=
 h.map.lookup h.number h.nodup hin
theorem Zjq {w0:World} {nb ob kb mb:Nat} {N:Nat→Nat} {L:List (Nat×Nat)} {m:Nat} (hIH:Z58 w0 nb ob kb mb N L m)
 (a:ATree) (B:Nat) (w:World) (R:List (Sc×Value)) (S:List Sc) (rv:Value) (st:Bool) (out:List Us) (hm:a.many≤m + 1) (hWT:WT a.tree) (hFT:FT a.tree) (hT:TreeAt w0 B a) (hnum:∀ x∈a.subs,(x.b,N x.b)∈L) (hlen:out.length + a.many≤100000) (hRl:R.length + 2 * a.many≤1000000) (hF:WSt w0 nb ob kb mb N L out w) (hR:RingsAt w w0.heap.size rv R) (hE:LkEq (Z3k R) S) (h1:a.kind≠23) (h2:a.kind≠6) (h3:a.kind≠13) (h4:a.kind≠9) (h5:a.kind≠5) (h6:a.kind≠37) :
 Calls Tryz.prog 17 #[a.ptr,rv,.bool st,.pointer (some ⟨nb,0,none⟩),.pointer (some ⟨ob,0,none⟩),.pointer (some ⟨kb,0,none⟩)] w fun e w'=>e=.returned (.tuple #[])∧WSt w0 nb ob kb mb N L (out ++ Z0x N a S st) w'∧WFr w w'∧(Z0x N a S st).length≤a.many:=by
 have hdef:Z0x N a S st=Z1c N a.kids S st:=by
  obtain ⟨b,v,k,t,n,ks⟩:=a;simp only [ATree.kind] at h1 h2 h3 h4 h5 h6;rw [Z0x.eq_def];simp only [h1,h2,h3,h4,h5,h6,if_false,or_self,ATree.kids]
 have HX:=lh (fun x (hx:x∈a.kids) w1 R1 S1 rv1 o1=>hIH.at hx hm hWT hFT hT hnum w1 R1 S1 rv1 st o1);obtain ⟨g,cap,rfl,hg,hle,hmx⟩:=hR.form;have hM:=WMid.start hF hR;obtain ⟨n,hn⟩:=zX R.length
 rw [← hn] at hM hle ⊢;have hT1:TreeAt (w.alloc (.cells #[.slice (some ⟨g,0,none⟩) n cap] 56)) B a:=hT.keep fun k _ hk=>hM.st.bel.block k hk;have d0:=hT1.c0;obtain ⟨f0,f1,f2,f3⟩:=hM.cells;unfold Z63 at f1;have HM:=lh hM;have HT:=lh hT;have HN:=lh hn;have HDEF:=lh hdef;have HE:=lh hE;have HLEN:=lh hlen;have HRL:=lh hRl;have HIN:=lh (hnum a (Z1m a));have HMANY:=lh (show a.many=Z07 a.kids + 1 from by obtain ⟨b,v,k,t,n,ks⟩:=a; rfl);have HISF:=lh (Z3m (w.alloc (.cells #[.slice (some ⟨g,0,none⟩) n cap] 56)) B a hT1)
 have hin:Z1a a=false:=by simp [Z1a,h5,h6]
 rw [hin] at HISF;unfold ATree.ptr at HX HISF ⊢;obtain ⟨kd,hkd⟩:=zX a.kind
 rw [← hkd] at d0 h1 h2 h3 h4;have n1:(kd == 23)=false:=by simpa using h1
 have n2:(kd == 6)=false:=by simpa using h2
 have n3:(kd == 13)=false:=by simpa using h3
 have n4:(kd == 9)=false:=by simpa using h4
 clear hIH hT hnum hF hR hE h1 h2 h3 h4 h5 h6 hdef hg hM hT1 hn hWT hFT hm hlen hRl hin hkd;go_enter Tryz.func17,Tryz.ntmps17
 go_wp2_with fail
 refine HISF.out.mono ?_;rintro e w2 ⟨rfl,rfl⟩;clear HISF;obtain ⟨pk,cpk,hkv,hkge,hkmx⟩:=HT.out.vOf;have HKV:=lh hkv;have c3:=(HT.out.keep fun k _ hk=>(HM.out).st.bel.block k hk:TreeAt _ B a).c3;rw [hkv] at c3;obtain ⟨nk,hnk⟩:=zX a.kids.length
 rw [← hnk] at c3 hkge;have HNK:=lh hnk;unfold maxLen at hkmx;clear hkv hnk;go_wp2_with fail
 go_loopw [213] (fun i wr=>∃ (k:Nat),k≤nk∧i=.int .i64 k∧Hid (WMid w0 nb ob kb mb N L w w.heap.size (.slice (some ⟨g,0,none⟩) n cap) (R) (out ++ Z1c N (a.kids.take k) (S) st) wr)∧Hid ((Z1c N (a.kids.take k) (S) st).length≤Z07 (a.kids.take k))) (fun i _=>nk - (intOf i).toNat)
 case atStart=>exact ⟨0,Yp _,rfl,lh (by simpa [Z1c] using (HM.out)),lh (by simp [Z1c])⟩
 case round=>
  obtain ⟨k,hk,rfl,HI,HL⟩:=hrel;by_cases hkn:k < nk
  ·obtain ⟨x, hx⟩ : ∃ x, a.kids[k]? = some x := ⟨_, Yd (by rw [← HNK.out]; exact hkn)⟩
   have hT2:TreeAt wr B a:=HT.out.keep fun k _ hk=>HI.out.st.bel.block k hk;have hrow:=hT2.rowOf;have hp:∃ g,pk=some ⟨g,0,none⟩:=by
    rcases Z7 hrow with ⟨_,h2⟩ | ⟨g0,cap0,hv0,_⟩;·have:=HNK.out; omega
    ·have:=HKV.out.symm.trans hv0;simp only [Value.slice.injEq] at this;exact ⟨g0,this.1⟩
   obtain ⟨g0,rfl⟩:=hp;have cx:=Ze hrow (g:=g0) (by rw [HKV.out]; rfl) (i:=k) (x:=x.ptr) (by rw [Yo,hx]; rfl);obtain ⟨y0,y1,y2,y3⟩:=HI.out.cells;unfold Z63 at y1;have hma:=Z5o hx;have hcall:=HX.out x (Yl hx) wr (R) (S) (.slice (some ⟨g,0,none⟩) n cap) _ (by rw [Yq]; have h1:=HL.out; have h2:=HLEN.out; have h3:=HMANY.out; omega) (by have h1:=HRL.out; have h3:=HMANY.out; have h4:=Z5z x; omega) HI.out.st HI.out.rings (HE.out);unfold ATree.ptr at cx hcall;have HCALL:=lh hcall;have HXX:=lh hx;have HMA:=lh hma
   clear hT2 hrow hx hcall hma c3;go_wp2_with fail
   refine HCALL.out.mono ?_;rintro e w1 ⟨rfl,hs1,hf1,hl1⟩;have HI1:=lh (HI.out.call hs1 hf1);have HL1:=lh hl1;clear hs1 hf1 hl1 HCALL;go_wp2;go_roundw
   case rel=>
    refine ⟨k + 1,by omega,by go_num,lh ?_,lh ?_⟩;·rw [Zk HXX.out,Z25,← List.append_assoc]; exact HI1.out
    ·rw [Zk HXX.out,Z25,Yq];have h1:=HL.out;have h2:=HL1.out;have h3:Z07 (a.kids.take k ++ [x])=Z07 (a.kids.take k) + x.many:=by
      rw [← Z1d,Z3p,Yq,Z1d];simp only [Z0y,List.append_nil,Z2p]
     omega
   case measure=>simp [intOf]; omega
  ·have hk2 : k = nk := by omega
   subst hk2;have HALL:=lh (show a.kids.take k=a.kids from Ym (by rw [← HNK.out]; exact Y5 _));clear c3;go_wp2;go_end0
   have h1:=HI.out;have h2:=HL.out;rw [HALL.out] at h1 h2;rw [HDEF.out];exact ⟨rfl,h1.st,h1.fr,by have:=HMANY.out; omega⟩
theorem Zjw {w0:World} {nb ob kb mb:Nat} {N:Nat→Nat} {L:List (Nat×Nat)} {m:Nat} (hIH:Z58 w0 nb ob kb mb N L m)
 (a:ATree) (B:Nat) (w:World) (R:List (Sc×Value)) (S:List Sc) (rv:Value) (st:Bool) (out:List Us) (hm:a.many≤m + 1) (hWT:WT a.tree) (hFT:FT a.tree) (hT:TreeAt w0 B a) (hnum:∀ x∈a.subs,(x.b,N x.b)∈L) (hlen:out.length + a.many≤100000) (hRl:R.length + 2 * a.many≤1000000) (hF:WSt w0 nb ob kb mb N L out w) (hR:RingsAt w w0.heap.size rv R) (hE:LkEq (Z3k R) S) (h1:a.kind=13) :
 Calls Tryz.prog 17 #[a.ptr,rv,.bool st,.pointer (some ⟨nb,0,none⟩),.pointer (some ⟨ob,0,none⟩),.pointer (some ⟨kb,0,none⟩)] w fun e w'=>e=.returned (.tuple #[])∧WSt w0 nb ob kb mb N L (out ++ Z0x N a S st) w'∧WFr w w'∧(Z0x N a S st).length≤a.many:=by
 have hdef:Z0x N a S st=Z1c N a.kids (⟨N a.b,[a.text],false⟩ :: S) st:=by
  obtain ⟨b,v,k,t,n,ks⟩:=a;simp only [ATree.kind] at h1;rw [Z0x.eq_def];simp [h1,ATree.b,ATree.text,ATree.kids]
 have HX:=lh (fun x (hx:x∈a.kids) w1 R1 S1 rv1 o1=>hIH.at hx hm hWT hFT hT hnum w1 R1 S1 rv1 st o1);obtain ⟨g,cap,rfl,hg,hle,hmx⟩:=hR.form;have hM:=WMid.start hF hR;obtain ⟨n,hn⟩:=zX R.length
 rw [← hn] at hM hle ⊢;have hT1:TreeAt (w.alloc (.cells #[.slice (some ⟨g,0,none⟩) n cap] 56)) B a:=hT.keep fun k _ hk=>hM.st.bel.block k hk;have d0:=hT1.c0;obtain ⟨f0,f1,f2,f3⟩:=hM.cells;unfold Z63 at f1;have HM:=lh hM;have HT:=lh hT;have HN:=lh hn;have HDEF:=lh hdef;have HE:=lh hE;have HLEN:=lh hlen;have HRL:=lh hRl;have HIN:=lh (hnum a (Z1m a));have HMANY:=lh (show a.many=Z07 a.kids + 1 from by obtain ⟨b,v,k,t,n,ks⟩:=a; rfl);rw [h1] at d0;obtain ⟨tx,htx⟩:=zX a.text
 rw [← htx] at HDEF;have HS:=lh (show ∀ W,Below (w.alloc (.cells #[.slice (some ⟨g,0,none⟩) n cap] 56)).heap.size (w.alloc (.cells #[.slice (some ⟨g,0,none⟩) n cap] 56)) W→W.cell? ⟨nb,0,none⟩=some (.map (some mb))∧W.cell? ⟨a.b,1,none⟩=some (.string tx)∧(Instr.lookup 45 (.map (some mb)) (Z30 a.b) false).run Tryz.prog W=.ok (.int .i64 (N a.b)) W from fun W hW=>by
  have h:=hM.on hW;have h1:=(hT.keep fun k _ hk=>h.st.bel.block k hk:TreeAt W B a).c1;exact ⟨h.cells.1,by rw [h1,htx],h.st.look HIN.out⟩)
 have HB2:=lh (show Below (w.alloc (.cells #[.slice (some ⟨g,0,none⟩) n cap] 56)).heap.size (w.alloc (.cells #[.slice (some ⟨g,0,none⟩) n cap] 56)) ((w.alloc (.cells #[.slice (some ⟨g,0,none⟩) n cap] 56)).alloc (.cells #[.string tx] 9)).drew from ((Y8 _ _).alloc (Y5 _) _).drew);have HMX:=lh (hM.on HB2.out);have HTX:=lh (show Zr ((w.alloc (.cells #[.slice (some ⟨g,0,none⟩) n cap] 56)).alloc (.cells #[.string tx] 9)).drew w0.heap.size (.slice (some ⟨w.heap.size + 1,0,none⟩) 1 1) [tx] from by
  have h:=Zr.one (w:=(w.alloc (.cells #[.slice (some ⟨g,0,none⟩) n cap] 56))) (B:=w0.heap.size) hM.st.bel.size tx;rw [World.size_alloc] at h;exact h)
 have HP:=lh (show Calls Tryz.prog 18 #[.agg #[.int .i64 (N a.b),.slice (some ⟨w.heap.size + 1,0,none⟩) 1 1,.bool false],.pointer (some ⟨w.heap.size,0,none⟩)] ((w.alloc (.cells #[.slice (some ⟨g,0,none⟩) n cap] 56)).alloc (.cells #[.string tx] 9)).drew _ from Z8a ((w.alloc (.cells #[.slice (some ⟨g,0,none⟩) n cap] 56)).alloc (.cells #[.string tx] 9)).drew w0.heap.size w.heap.size _ R ⟨N a.b,[tx],false⟩ (.slice (some ⟨w.heap.size + 1,0,none⟩) 1 1) HMX.out.cell HMX.out.rings HTX.out HMX.out.st.bel.size (by have h1:=HRL.out; omega));unfold ATree.ptr at HX ⊢
 clear hIH hT hnum hF hR hE h1 hdef hg hM hT1 hn hWT hFT hm hlen hRl htx;go_enter Tryz.func17,Tryz.ntmps17
 go_wp2_with fail
 refine Z1b (.take 0 (.take 1 (.take 2 (.take 3 (.take 4 (.take 5 (.take 6 (.take 7 (.go 8 (.take 9 (.go 10 (.go 11 .nil)))))))))))) 11 (fun W=>W.cell? ⟨nb,0,none⟩=some (.map (some mb))∧W.cell? ⟨a.b,1,none⟩=some (.string tx)∧(Instr.lookup 45 (.map (some mb)) (Z30 a.b) false).run Tryz.prog W=.ok (.int .i64 (N a.b)) W) (by kernel_rfl) (by kernel_rfl) (fun _ _ d _ _ h=>by cases d <;> exact h) (HS.out _ (Y8 _ _).drew) ?_
 iterate 8
  first
   | (refine Z05 ?_ (by rfl) (by rfl) (fun w'=>?_) ?_; rotate_left; (go_simp; first | done | with_reducible rfl))
   | (refine Z0a ?_ (by rfl) (by kernel_rfl) (by rfl) (fun w' hS'=>?_) ?_; rotate_left; (obtain ⟨s0,s1,s2⟩:=hS'; go_simp; first | done | with_reducible rfl))
   | (refine Z0a (.int .i64 (N a.b)) (by rfl) (by kernel_rfl) (by rfl) (fun w' hS'=>Z27 _ _ (by rfl) mb a.b (N a.b) L (by rfl) (by rfl) hS'.2.2) ?_)
  simp only [Act.put,List.setIfInBounds_toArray]
 refine Zy (by rfl) (by rfl) (by rfl) (fun K hK=>?_);simp only [List.getElem_toArray,List.getElem_cons_succ,List.getElem_cons_zero];unfold Oper.wp execOp;go_simp
 refine hK _ _ (HS.out _ HB2.out) ?_;clear hK K
 iterate 1
  first
   | (refine Z05 ?_ (by rfl) (by rfl) (fun w'=>?_) ?_; rotate_left; (go_simp; first | done | with_reducible rfl))
   | (refine Z0a ?_ (by rfl) (by kernel_rfl) (by rfl) (fun w' hS'=>?_) ?_; rotate_left; (obtain ⟨s0,s1,s2⟩:=hS'; go_simp; first | done | with_reducible rfl))
   | (refine Z0a (.int .i64 (N a.b)) (by rfl) (by kernel_rfl) (by rfl) (fun w' hS'=>Z27 _ _ (by rfl) mb a.b (N a.b) L (by rfl) (by rfl) hS'.2.2) ?_)
  simp only [Act.put,List.setIfInBounds_toArray]
 refine Zy (by rfl) (by rfl) (by rfl) (fun K hK=>?_);simp only [List.getElem_toArray,List.getElem_cons_succ,List.getElem_cons_zero];unfold Oper.wp execOp;go_simp
 refine HP.out.mono ?_;rintro e w3 ⟨v3,rfl,hr3,hb3⟩;obtain ⟨g3,cap3,rfl,_,hle3,hmx3⟩:=hr3.form;obtain ⟨n3,hn3⟩:=zX ((R ++ [((⟨N a.b,[tx],false⟩:Sc),(.slice (some ⟨w.heap.size + 1,0,none⟩) 1 1:Value))]).length)
 rw [← hn3] at hr3 ⊢;clear hn3 hle3 hmx3;have HM2b:=lh (HMX.out.on hb3);have HM3:=lh (HM2b.out.put hr3);obtain ⟨q0,q1,q2,q3⟩:=HM2b.out.cells;refine hK _ _ (HS.out _ (HB2.out.trans (hb3.mono HB2.out.size))) ?_;clear hK K hr3 HP;refine Z29 (by rfl) (by rfl) (by rfl) (fun K hK=>?_);simp only [List.getElem_toArray,List.getElem_cons_succ,List.getElem_cons_zero];unfold Oper.wp execOp;go_simp
 refine hK _ _ (Z2r ?_);clear hK K;obtain ⟨y0,y1,y2,y3⟩:=HM3.out.cells;unfold Z63 at y1;obtain ⟨pk,cpk,hkv,hkge,hkmx⟩:=HT.out.vOf;have HKV:=lh hkv;have c3:=(HT.out.keep fun k _ hk=>(HM3.out).st.bel.block k hk:TreeAt _ B a).c3;rw [hkv] at c3;obtain ⟨nk,hnk⟩:=zX a.kids.length
 rw [← hnk] at c3 hkge;have HNK:=lh hnk;unfold maxLen at hkmx;clear hkv hnk;go_wp2_with fail
 go_loopw [213] (fun i wr=>∃ (k:Nat),k≤nk∧i=.int .i64 k∧Hid (WMid w0 nb ob kb mb N L w w.heap.size (.slice (some ⟨g3,0,none⟩) n3 cap3) (R ++ [(⟨N a.b,[tx],false⟩,.slice (some ⟨w.heap.size + 1,0,none⟩) 1 1)]) (out ++ Z1c N (a.kids.take k) (⟨N a.b,[tx],false⟩ :: S) st) wr)∧Hid ((Z1c N (a.kids.take k) (⟨N a.b,[tx],false⟩ :: S) st).length≤Z07 (a.kids.take k))) (fun i _=>nk - (intOf i).toNat)
 case atStart=>exact ⟨0,Yp _,rfl,lh (by simpa [Z1c] using (HM3.out)),lh (by simp [Z1c])⟩
 case round=>
  obtain ⟨k,hk,rfl,HI,HL⟩:=hrel;by_cases hkn:k < nk
  ·obtain ⟨x, hx⟩ : ∃ x, a.kids[k]? = some x := ⟨_, Yd (by rw [← HNK.out]; exact hkn)⟩
   have hT2:TreeAt wr B a:=HT.out.keep fun k _ hk=>HI.out.st.bel.block k hk;have hrow:=hT2.rowOf;have hp:∃ g,pk=some ⟨g,0,none⟩:=by
    rcases Z7 hrow with ⟨_,h2⟩ | ⟨g0,cap0,hv0,_⟩;·have:=HNK.out; omega
    ·have:=HKV.out.symm.trans hv0;simp only [Value.slice.injEq] at this;exact ⟨g0,this.1⟩
   obtain ⟨g0,rfl⟩:=hp;have cx:=Ze hrow (g:=g0) (by rw [HKV.out]; rfl) (i:=k) (x:=x.ptr) (by rw [Yo,hx]; rfl);obtain ⟨y0,y1,y2,y3⟩:=HI.out.cells;unfold Z63 at y1;have hma:=Z5o hx
   have hcall:=HX.out x (Yl hx) wr (R ++ [(⟨N a.b,[tx],false⟩,.slice (some ⟨w.heap.size + 1,0,none⟩) 1 1)]) (⟨N a.b,[tx],false⟩ :: S) (.slice (some ⟨g3,0,none⟩) n3 cap3) _ (by rw [Yq]; have h1:=HL.out; have h2:=HLEN.out; have h3:=HMANY.out; omega) (by have h1:=HRL.out; have h3:=HMANY.out; have h4:=Z5z x; rw [Yq]; simp only [List.length_cons,List.length_nil]; omega) HI.out.st HI.out.rings (by rw [Z51]; exact HE.out.cons rfl (fun _=>rfl) rfl);unfold ATree.ptr at cx hcall;have HCALL:=lh hcall;have HXX:=lh hx
   have HMA:=lh hma;clear hT2 hrow hx hcall hma c3;go_wp2_with fail
   refine HCALL.out.mono ?_;rintro e w1 ⟨rfl,hs1,hf1,hl1⟩;have HI1:=lh (HI.out.call hs1 hf1);have HL1:=lh hl1;clear hs1 hf1 hl1 HCALL;go_wp2;go_roundw
   case rel=>
    refine ⟨k + 1,by omega,by go_num,lh ?_,lh ?_⟩;·rw [Zk HXX.out,Z25,← List.append_assoc]; exact HI1.out
    ·rw [Zk HXX.out,Z25,Yq];have h1:=HL.out;have h2:=HL1.out;have h3:Z07 (a.kids.take k ++ [x])=Z07 (a.kids.take k) + x.many:=by
      rw [← Z1d,Z3p,Yq,Z1d];simp only [Z0y,List.append_nil,Z2p]
     omega
   case measure=>simp [intOf]; omega
  ·have hk2 : k = nk := by omega
   subst hk2;have HALL:=lh (show a.kids.take k=a.kids from Ym (by rw [← HNK.out]; exact Y5 _));clear c3;go_wp2;go_end0
   have h1:=HI.out;have h2:=HL.out;rw [HALL.out] at h1 h2;rw [HDEF.out];exact ⟨rfl,h1.st,h1.fr,by have:=HMANY.out; omega⟩
theorem Zjk {w0:World} {nb ob kb mb:Nat} {N:Nat→Nat} {L:List (Nat×Nat)} {m:Nat} (hIH:Z58 w0 nb ob kb mb N L m)
 (a:ATree) (B:Nat) (w:World) (R:List (Sc×Value)) (S:List Sc) (rv:Value) (st:Bool) (out:List Us) (hm:a.many≤m + 1) (hWT:WT a.tree) (hFT:FT a.tree) (hT:TreeAt w0 B a) (hnum:∀ x∈a.subs,(x.b,N x.b)∈L) (hlen:out.length + a.many≤100000) (hRl:R.length + 2 * a.many≤1000000) (hF:WSt w0 nb ob kb mb N L out w) (hR:RingsAt w w0.heap.size rv R) (hE:LkEq (Z3k R) S) (h1:a.kind=6) :
 Calls Tryz.prog 17 #[a.ptr,rv,.bool st,.pointer (some ⟨nb,0,none⟩),.pointer (some ⟨ob,0,none⟩),.pointer (some ⟨kb,0,none⟩)] w fun e w'=>e=.returned (.tuple #[])∧WSt w0 nb ob kb mb N L (out ++ Z0x N a S st) w'∧WFr w w'∧(Z0x N a S st).length≤a.many:=by
 have hdef:Z0x N a S st=Z1c N a.kids (if Z0b false a=[] then S else ⟨N a.b,Z0b false a,false⟩ :: S) st:=by
  obtain ⟨b,v,k,t,n,ks⟩:=a;simp only [ATree.kind] at h1;subst h1;rw [Z0x.eq_def];simp [ATree.b,ATree.kids]
 have HX:=lh (fun x (hx:x∈a.kids) w1 R1 S1 rv1 o1=>hIH.at hx hm hWT hFT hT hnum w1 R1 S1 rv1 st o1);obtain ⟨g,cap,rfl,hg,hle,hmx⟩:=hR.form;have hM:=WMid.start hF hR;obtain ⟨n,hn⟩:=zX R.length
 rw [← hn] at hM hle ⊢;have hT1:TreeAt (w.alloc (.cells #[.slice (some ⟨g,0,none⟩) n cap] 56)) B a:=hT.keep fun k _ hk=>hM.st.bel.block k hk;have d0:=hT1.c0;obtain ⟨f0,f1,f2,f3⟩:=hM.cells;unfold Z63 at f1;have HM:=lh hM;have HT:=lh hT;have HN:=lh hn;have HDEF:=lh hdef;have HE:=lh hE;have HLEN:=lh hlen;have HRL:=lh hRl;have HIN:=lh (hnum a (Z1m a));have HMANY:=lh (show a.many=Z07 a.kids + 1 from by obtain ⟨b,v,k,t,n,ks⟩:=a; rfl);rw [h1] at d0
 have HNM:=lh (Zci (w.alloc (.cells #[.slice (some ⟨g,0,none⟩) n cap] 56)).drew B a (hT1.bel (Y8 _ _).drew) (by omega));have HS:=lh (show ∀ W,Below (w.alloc (.cells #[.slice (some ⟨g,0,none⟩) n cap] 56)).heap.size (w.alloc (.cells #[.slice (some ⟨g,0,none⟩) n cap] 56)) W→W.cell? ⟨nb,0,none⟩=some (.map (some mb))∧(Instr.lookup 45 (.map (some mb)) (Z30 a.b) false).run Tryz.prog W=.ok (.int .i64 (N a.b)) W from fun W hW=>by
  have h:=hM.on hW;exact ⟨h.cells.1,h.st.look HIN.out⟩)
 obtain ⟨nm,hnm⟩:=zX (Z0b false a)
 rw [← hnm] at HNM HDEF;unfold ATree.ptr at HX ⊢;clear hIH hT hnum hF hR hE h1 hdef hg hM hT1 hn hWT hFT hm hlen hRl hnm;go_enter Tryz.func17,Tryz.ntmps17
 go_wp2_with fail
 refine Z1b (.take 0 (.take 1 (.take 2 (.take 3 (.take 4 (.go 5 (.take 6 (.go 7 (.go 8 .nil))))))))) 8 (fun W=>W.cell? ⟨nb,0,none⟩=some (.map (some mb))∧(Instr.lookup 45 (.map (some mb)) (Z30 a.b) false).run Tryz.prog W=.ok (.int .i64 (N a.b)) W) (by kernel_rfl) (by kernel_rfl) (fun _ _ d _ _ h=>by cases d <;> exact h) (HS.out _ (Y8 _ _).drew) ?_
 iterate 5
  first
   | (refine Z05 ?_ (by rfl) (by rfl) (fun w'=>?_) ?_; rotate_left; (go_simp; first | done | with_reducible rfl))
   | (refine Z0a ?_ (by rfl) (by kernel_rfl) (by rfl) (fun w' hS'=>?_) ?_; rotate_left; (obtain ⟨s0,s1⟩:=hS'; go_simp; first | done | with_reducible rfl))
   | (refine Z0a (.int .i64 (N a.b)) (by rfl) (by kernel_rfl) (by rfl) (fun w' hS'=>Z27 _ _ (by rfl) mb a.b (N a.b) L (by rfl) (by rfl) hS'.2) ?_)
  simp only [Act.put,List.setIfInBounds_toArray]
 refine Zy (by rfl) (by rfl) (by rfl) (fun K hK=>?_);simp only [List.getElem_toArray,List.getElem_cons_succ,List.getElem_cons_zero];unfold Oper.wp execOp;go_simp
 refine HNM.out.mono ?_;rintro e w2 ⟨v2,rfl,ht2,hb2⟩;obtain ⟨p2,n2,c2,rfl⟩:=ht2.slice;have HB2:=lh (show Below (w.alloc (.cells #[.slice (some ⟨g,0,none⟩) n cap] 56)).heap.size (w.alloc (.cells #[.slice (some ⟨g,0,none⟩) n cap] 56)) w2 from (Y8 _ _).drew.trans hb2);have HMX:=lh (HM.out.on HB2.out)
 have HP:=lh (show Calls Tryz.prog 18 #[.agg #[.int .i64 (N a.b),.slice p2 n2 c2,.bool false],.pointer (some ⟨w.heap.size,0,none⟩)] w2 _ from Z8a w2 w0.heap.size w.heap.size _ R ⟨N a.b,nm,false⟩ (.slice p2 n2 c2) HMX.out.cell HMX.out.rings (Z12 (base:=(w.alloc (.cells #[.slice (some ⟨g,0,none⟩) n cap] 56)).heap.size) HM.out.st.bel.size ht2) HMX.out.st.bel.size (by have h1:=HRL.out; omega));refine hK _ _ (HS.out _ HB2.out) ?_;clear hK K ht2 hb2 HNM
 iterate 1
  first
   | (refine Z05 ?_ (by rfl) (by rfl) (fun w'=>?_) ?_; rotate_left; (go_simp; first | done | with_reducible rfl))
   | (refine Z0a ?_ (by rfl) (by kernel_rfl) (by rfl) (fun w' hS'=>?_) ?_; rotate_left; (obtain ⟨s0,s1⟩:=hS'; go_simp; first | done | with_reducible rfl))
   | (refine Z0a (.int .i64 (N a.b)) (by rfl) (by kernel_rfl) (by rfl) (fun w' hS'=>Z27 _ _ (by rfl) mb a.b (N a.b) L (by rfl) (by rfl) hS'.2) ?_)
  simp only [Act.put,List.setIfInBounds_toArray]
 refine Zy (by rfl) (by rfl) (by rfl) (fun K hK=>?_);simp only [List.getElem_toArray,List.getElem_cons_succ,List.getElem_cons_zero];unfold Oper.wp execOp;go_simp
 refine HP.out.mono ?_;rintro e w3 ⟨v3,rfl,hr3,hb3⟩;obtain ⟨g3,cap3,rfl,_,hle3,hmx3⟩:=hr3.form;obtain ⟨n3,hn3⟩:=zX ((R ++ [((⟨N a.b,nm,false⟩:Sc),(.slice p2 n2 c2:Value))]).length)
 rw [← hn3] at hr3 ⊢;clear hn3 hle3 hmx3;have HM2b:=lh (HMX.out.on hb3);have HM3:=lh (HM2b.out.put hr3);obtain ⟨q0,q1,q2,q3⟩:=HM2b.out.cells;refine hK _ _ (HS.out _ (HB2.out.trans (hb3.mono HB2.out.size))) ?_;clear hK K hr3 HP;refine Z29 (by rfl) (by rfl) (by rfl) (fun K hK=>?_);simp only [List.getElem_toArray,List.getElem_cons_succ,List.getElem_cons_zero];unfold Oper.wp execOp;go_simp
 refine hK _ _ (Z2r ?_);clear hK K;obtain ⟨y0,y1,y2,y3⟩:=HM3.out.cells;unfold Z63 at y1;obtain ⟨pk,cpk,hkv,hkge,hkmx⟩:=HT.out.vOf;have HKV:=lh hkv;have c3:=(HT.out.keep fun k _ hk=>(HM3.out).st.bel.block k hk:TreeAt _ B a).c3;rw [hkv] at c3;obtain ⟨nk,hnk⟩:=zX a.kids.length
 rw [← hnk] at c3 hkge;have HNK:=lh hnk;unfold maxLen at hkmx;clear hkv hnk;go_wp2_with fail
 go_loopw [213] (fun i wr=>∃ (k:Nat),k≤nk∧i=.int .i64 k∧Hid (WMid w0 nb ob kb mb N L w w.heap.size (.slice (some ⟨g3,0,none⟩) n3 cap3) (R ++ [(⟨N a.b,nm,false⟩,.slice p2 n2 c2)]) (out ++ Z1c N (a.kids.take k) (if nm=[] then S else ⟨N a.b,nm,false⟩ :: S) st) wr)∧Hid ((Z1c N (a.kids.take k) (if nm=[] then S else ⟨N a.b,nm,false⟩ :: S) st).length≤Z07 (a.kids.take k))) (fun i _=>nk - (intOf i).toNat)
 case atStart=>exact ⟨0,Yp _,rfl,lh (by simpa [Z1c] using (HM3.out)),lh (by simp [Z1c])⟩
 case round=>
  obtain ⟨k,hk,rfl,HI,HL⟩:=hrel;by_cases hkn:k < nk
  ·obtain ⟨x, hx⟩ : ∃ x, a.kids[k]? = some x := ⟨_, Yd (by rw [← HNK.out]; exact hkn)⟩
   have hT2:TreeAt wr B a:=HT.out.keep fun k _ hk=>HI.out.st.bel.block k hk;have hrow:=hT2.rowOf;have hp:∃ g,pk=some ⟨g,0,none⟩:=by
    rcases Z7 hrow with ⟨_,h2⟩ | ⟨g0,cap0,hv0,_⟩;·have:=HNK.out; omega
    ·have:=HKV.out.symm.trans hv0;simp only [Value.slice.injEq] at this;exact ⟨g0,this.1⟩
   obtain ⟨g0,rfl⟩:=hp;have cx:=Ze hrow (g:=g0) (by rw [HKV.out]; rfl) (i:=k) (x:=x.ptr) (by rw [Yo,hx]; rfl);obtain ⟨y0,y1,y2,y3⟩:=HI.out.cells;unfold Z63 at y1;have hma:=Z5o hx
   have hcall:=HX.out x (Yl hx) wr (R ++ [(⟨N a.b,nm,false⟩,.slice p2 n2 c2)]) (if nm=[] then S else ⟨N a.b,nm,false⟩ :: S) (.slice (some ⟨g3,0,none⟩) n3 cap3) _ (by rw [Yq]; have h1:=HL.out; have h2:=HLEN.out; have h3:=HMANY.out; omega) (by have h1:=HRL.out; have h3:=HMANY.out; have h4:=Z5z x; rw [Yq]; simp only [List.length_cons,List.length_nil]; omega) HI.out.st HI.out.rings (by rw [Z51]; split; exact (by rename_i h; rw [h]; exact HE.out.skip _); exact HE.out.cons rfl (fun _=>rfl) rfl);unfold ATree.ptr at cx hcall
   have HCALL:=lh hcall;have HXX:=lh hx;have HMA:=lh hma;clear hT2 hrow hx hcall hma c3;go_wp2_with fail
   refine HCALL.out.mono ?_;rintro e w1 ⟨rfl,hs1,hf1,hl1⟩;have HI1:=lh (HI.out.call hs1 hf1);have HL1:=lh hl1;clear hs1 hf1 hl1 HCALL;go_wp2;go_roundw
   case rel=>
    refine ⟨k + 1,by omega,by go_num,lh ?_,lh ?_⟩;·rw [Zk HXX.out,Z25,← List.append_assoc]; exact HI1.out
    ·rw [Zk HXX.out,Z25,Yq];have h1:=HL.out;have h2:=HL1.out;have h3:Z07 (a.kids.take k ++ [x])=Z07 (a.kids.take k) + x.many:=by
      rw [← Z1d,Z3p,Yq,Z1d];simp only [Z0y,List.append_nil,Z2p]
     omega
   case measure=>simp [intOf]; omega
  ·have hk2 : k = nk := by omega
   subst hk2;have HALL:=lh (show a.kids.take k=a.kids from Ym (by rw [← HNK.out]; exact Y5 _));clear c3;go_wp2;go_end0
   have h1:=HI.out;have h2:=HL.out;rw [HALL.out] at h1 h2;rw [HDEF.out];exact ⟨rfl,h1.st,h1.fr,by have:=HMANY.out; omega⟩
def Zab:List Nat→Code→Code
 | [],c=>c
 | i :: p,.seq a b=>Zab p (if i=0 then a else b)
 | i :: p,.cond _ a b=>Zab p (if i=0 then a else b)
 | _ :: p,.block _ c=>Zab p c
 | _ :: p,.loop c=>Zab p c
 | _ :: p,.scope c=>Zab p c
 | _ :: _,_=>.skip
noncomputable def fwAt (p:List Nat):Code:=Zab p (Tryz.f17.body.getD .skip)
theorem Zam (t:Array Value) (h:t.size=223):∃ x:Nat→Value,t=#[x 0,x 1,x 2,x 3,x 4,x 5,x 6,x 7,x 8,x 9,x 10,x 11,x 12,x 13,x 14,x 15,x 16,x 17,x 18,x 19,x 20,x 21,x 22,x 23,x 24,x 25,x 26,x 27,x 28,x 29,x 30,x 31,x 32,x 33,x 34,x 35,x 36,x 37,x 38,x 39,x 40,x 41,x 42,x 43,x 44,x 45,x 46,x 47,x 48,x 49,x 50,x 51,x 52,x 53,x 54,x 55,x 56,x 57,x 58,x 59,x 60,x 61,x 62,x 63,x 64,x 65,x 66,x 67,x 68,x 69,x 70,x 71,x 72,x 73,x 74,x 75,x 76,x 77,x 78,x 79,x 80,x 81,x 82,x 83,x 84,x 85,x 86,x 87,x 88,x 89,x 90,x 91,x 92,x 93,x 94,x 95,x 96,x 97,x 98,x 99,x 100,x 101,x 102,x 103,x 104,x 105,x 106,x 107,x 108,x 109,x 110,x 111,x 112,x 113,x 114,x 115,x 116,x 117,x 118,x 119,x 120,x 121,x 122,x 123,x 124,x 125,x 126,x 127,x 128,x 129,x 130,x 131,x 132,x 133,x 134,x 135,x 136,x 137,x 138,x 139,x 140,x 141,x 142,x 143,x 144,x 145,x 146,x 147,x 148,x 149,x 150,x 151,x 152,x 153,x 154,x 155,x 156,x 157,x 158,x 159,x 160,x 161,x 162,x 163,x 164,x 165,x 166,x 167,x 168,x 169,x 170,x 171,x 172,x 173,x 174,x 175,x 176,x 177,x 178,x 179,x 180,x 181,x 182,x 183,x 184,x 185,x 186,x 187,x 188,x 189,x 190,x 191,x 192,x 193,x 194,x 195,x 196,x 197,x 198,x 199,x 200,x 201,x 202,x 203,x 204,x 205,x 206,x 207,x 208,x 209,x 210,x 211,x 212,x 213,x 214,x 215,x 216,x 217,x 218,x 219,x 220,x 221,x 222]∧∀ i,x i=t.getD i undef:=by
 refine ⟨fun i=>t.getD i undef,?_,fun i=>rfl⟩;have e:t=((List.range 223).map fun i=>t.getD i undef).toArray:=by
  apply Array.ext;·simp [h]
  ·intro i h1 h2;simp at h2;simp [h1]
 exact e
structure Fw (ab nb kb q:Nat) (st:Bool) (a:Act):Prop where
 size:a.tmps.size=223
 t0:a.tmps.getD 0 undef=.pointer (some ⟨ab,0,none⟩)
 t2:a.tmps.getD 2 undef=.bool st
 t3:a.tmps.getD 3 undef=.pointer (some ⟨nb,0,none⟩)
 t5:a.tmps.getD 5 undef=.pointer (some ⟨kb,0,none⟩)
 t7:a.tmps.getD 7 undef=.pointer (some ⟨q,0,none⟩)
 t9:a.tmps.getD 9 undef=.func (.func 18) #[] #[.pointer (some ⟨q,0,none⟩)]
 defs:a.defers=[]
def FQ (w0:World) (nb ob kb mb:Nat) (N:Nat→Nat) (L:List (Nat×Nat)) (we:World) (out:List Us) (ks:List ATree) (S:List Sc) (st:Bool):Exit→Act→World→Prop:=fun e a' w'=>
 e=.ret∧a'.defers=[]∧WSt w0 nb ob kb mb N L (out ++ Z1c N ks S st) w'∧WFr we w'∧(Z1c N ks S st).length≤Z07 ks
section
variable {w0 we w:World} {nb ob kb mb q:Nat} {N:Nat→Nat} {L:List (Nat×Nat)} {m B:Nat} {fn ps bd:ATree} {R:List (Sc×Value)} {S:List Sc} {rv:Value} {st:Bool} {out:List Us} {A:Act}
theorem fw_d (hIH:Z58 w0 nb ob kb mb N L m) (hm:bd.many≤m + 1) (hWT:WT bd.tree) (hFT:FT bd.tree) (hT:TreeAt w0 B bd) (hnum:∀ x∈bd.subs,(x.b,N x.b)∈L) (hlen:out.length + bd.many≤100000) (hRl:R.length + 2 * bd.many≤1000002) (fr:Fw fn.b nb kb q st A) (t12:A.tmps.getD 12 undef=.pointer (some ⟨bd.b,0,none⟩)) (hM:WMid w0 nb ob kb mb N L we q rv R out w) (hE:LkEq (Z3k R) S) :
 (fwAt [1,1,0,0,1,1,1,1,1,1,1,1,1,0,1,1,1,1,1,1]).wp Tryz.prog (FQ w0 nb ob kb mb N L we out bd.kids S st) A w:=by
 have HX:=lh (fun x (hx:x∈bd.kids) w1 R1 S1 rv1 o1=>hIH.at hx hm hWT hFT hT hnum w1 R1 S1 rv1 st o1);obtain ⟨g,cap,rfl,hle,hmx⟩:∃ g cap,rv=.slice (some ⟨g,0,none⟩) R.length cap∧R.length≤cap∧cap≤maxLen:=by
  obtain ⟨g,cap,h1,_,h2,h3⟩:=hM.rings.form;exact ⟨g,cap,h1,h2,h3⟩
 obtain ⟨n,hn⟩:=zX R.length
 rw [← hn] at hM;obtain ⟨tm,df⟩:=A;obtain ⟨x,ex,hx⟩:=Zam tm fr.size;have e0:=(hx 0).trans fr.t0;have e2:=(hx 2).trans fr.t2;have e3:=(hx 3).trans fr.t3;have e5:=(hx 5).trans fr.t5;have e7:=(hx 7).trans fr.t7;have e9:=(hx 9).trans fr.t9;have e12:=(hx 12).trans t12;have ed:df=[]:=fr.defs;clear fr hx;subst ex;subst ed;rw [e0,e2,e3,e5,e7,e9,e12];clear e0 e2 e3 e5 e7 e9 e12;obtain ⟨Q,hQ⟩:=zX (FQ w0 nb ob kb mb N L we out bd.kids S st)
 rw [← hQ];have HQP:Hid (∀ c a d v w,Q (.panic c) (Act.put a d v) w→Q (.panic c) a w):=lh fun c a d v w h=>by rw [hQ] at h; exact absurd h.1 (by simp)
 have HQR:Hid (∀ a' w',a'.defers=[]→WSt w0 nb ob kb mb N L (out ++ Z1c N bd.kids S st) w'→WFr we w'→(Z1c N bd.kids S st).length≤Z07 bd.kids→Q .ret a' w'):=lh fun a' w' h1 h2 h3 h4=>by rw [hQ]; exact ⟨rfl,h1,h2,h3,h4⟩
 have HMANY:=lh (show bd.many=Z07 bd.kids + 1 from by obtain ⟨b,v,k,t,n,ks⟩:=bd; rfl);have HM:=lh hM;have HT:=lh hT;have HE:=lh hE;have HLEN:=lh hlen;have HRL:=lh hRl;obtain ⟨pk,cpk,hkv,hkge,hkmx⟩:=hT.vOf;have HKV:=lh hkv;have c3:=(hT.keep fun k _ hk=>hM.st.bel.block k hk:TreeAt w B bd).c3;rw [hkv] at c3;obtain ⟨nk,hnk⟩:=zX bd.kids.length
 rw [← hnk] at c3 hkge;have HNK:=lh hnk;unfold maxLen at hkmx;unfold ATree.ptr at HX;clear hIH hm hWT hFT hT hnum hlen hRl t12 hM hE hQ hkv hnk hle hmx hn;conv=>arg 2; whnf
 go_wp2_with fail
 go_loopw [198] (fun i wr=>∃ (k:Nat),k≤nk∧i=.int .i64 k∧Hid (WMid w0 nb ob kb mb N L we q (.slice (some ⟨g,0,none⟩) n cap) R (out ++ Z1c N (bd.kids.take k) S st) wr)∧Hid ((Z1c N (bd.kids.take k) S st).length≤Z07 (bd.kids.take k))) (fun i _=>nk - (intOf i).toNat)
 case atStart=>exact ⟨0,Yp _,rfl,lh (by simpa [Z1c] using HM.out),lh (by simp [Z1c])⟩
 case round=>
  obtain ⟨k,hk,rfl,HI,HL⟩:=hrel;by_cases hkn:k < nk
  ·obtain ⟨x, hx⟩ : ∃ x, bd.kids[k]? = some x := ⟨_, Yd (by rw [← HNK.out]; exact hkn)⟩
   have hT2:TreeAt wr B bd:=HT.out.keep fun k _ hk=>HI.out.st.bel.block k hk;have hrow:=hT2.rowOf;have hp:∃ g,pk=some ⟨g,0,none⟩:=by
    rcases Z7 hrow with ⟨_,h2⟩ | ⟨g0,cap0,hv0,_⟩;·have:=HNK.out; omega
    ·have:=HKV.out.symm.trans hv0;simp only [Value.slice.injEq] at this;exact ⟨g0,this.1⟩
   obtain ⟨g0,rfl⟩:=hp;have cx:=Ze hrow (g:=g0) (by rw [HKV.out]; rfl) (i:=k) (x:=x.ptr) (by rw [Yo,hx]; rfl);obtain ⟨y0,y1,y2,y3⟩:=HI.out.cells;unfold Z63 at y1;have hma:=Z5o hx;have hcall:=HX.out x (Yl hx) wr R S (.slice (some ⟨g,0,none⟩) n cap) _ (by rw [Yq]; have h1:=HL.out; have h2:=HLEN.out; have h3:=HMANY.out; omega) (by have h1:=HRL.out; have h3:=HMANY.out; omega) HI.out.st HI.out.rings HE.out;unfold ATree.ptr at cx hcall;have HCALL:=lh hcall;have HXX:=lh hx;have HMA:=lh hma
   clear hT2 hrow hx hcall hma c3;go_wp2_with fail
   refine HCALL.out.mono ?_;rintro e w1 ⟨rfl,hs1,hf1,hl1⟩;have HI1:=lh (HI.out.call hs1 hf1);have HL1:=lh hl1;clear hs1 hf1 hl1 HCALL;go_wp2;go_roundw
   case rel=>
    refine ⟨k + 1,by omega,by go_num,lh ?_,lh ?_⟩;·rw [Zk HXX.out,Z25,← List.append_assoc]; exact HI1.out
    ·rw [Zk HXX.out,Z25,Yq];have h1:=HL.out;have h2:=HL1.out;have h3:Z07 (bd.kids.take k ++ [x])=Z07 (bd.kids.take k) + x.many:=by
      rw [← Z1d,Z3p,Yq,Z1d];simp only [Z0y,List.append_nil,Z2p]
     omega
   case measure=>simp [intOf]; omega
  ·have hk2 : k = nk := by omega
   subst hk2;have HALL:=lh (show bd.kids.take k=bd.kids from Ym (by rw [← HNK.out]; exact Y5 _));clear c3;go_wp2;have h1:=HI.out;have h2:=HL.out;rw [HALL.out] at h1 h2;exact HQR.out _ _ rfl h1.st h1.fr h2
end
end Go.Proofs.YtfilfhpfndaniaaGreatDoor
