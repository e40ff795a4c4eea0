/- Package tree: write: statements: a value, a function, a block, try. -/
import Derived.Test.YtmeiggjboakmpaaGreatDoorJ07
import Derived.Lib.ItoaLen
namespace Go.Proofs.YtmeiggjboakmpaaGreatDoor
open Go Go.RowKit
set_option maxRecDepth 100000
set_option maxHeartbeats 20000000
theorem Zlf {w0:World} {Bt:Nat} (a:ATree) (hT:TreeAt w0 Bt a) (h1:a.kind=5) (p q:ATree) (hks:a.kids=[p,q]) (hf:Zhq w0 a (Zd (fnP a.text (lP true (Zr p.kids)) (sP q.tree)))):Z2b w0 a:=by
 have c0:=hT.c0;rw [h1] at c0;have c1:=hT.c1;have hv:Zd (sP a.tree)=Zd (fnP a.text (lP true (Zr p.kids)) (sP q.tree)):=by
  obtain ⟨ab,av,ak,tx,an,aks⟩:=a;obtain ⟨pb,pv,pk,pt,pn,pks⟩:=p;simp only [ATree.kind,ATree.kids,ATree.text] at h1 hks ⊢;subst h1;subst hks;simp only [Zr,ATree.tree];rw [Zhp]
 obtain ⟨mf,emf⟩:=zX (Zd (fnP a.text (lP true (Zr p.kids)) (sP q.tree)))
 rw [← emf] at hf;simp only [← emf] at hv;have HF2:=lh hf;clear hT h1 hks emf hf;intro B b l w hW hF;unfold Fits at hF;rw [hv] at hF ⊢;try simp only [zL,zM,zN] at hF
 have HW0:=lh hW;have HB0:Hid (Below B w w):=lh (Y8 _ _);unfold ATree.ptr;have x0_0:=HW0.out.cell c0;clear hW hv;go_enter Tryz.func23,Tryz.ntmps23
 go_wp2_with fail
 refine (Z38 HF2 HW0 HB0).mono ?_;rintro e w1 ⟨rfl,HW1,HB1⟩;have x0_1:=HW1.out.cell c0;go_wp2_with fail
 first | go_end0 | refine bodyPost_ret (results_none rfl _ _ _) rfl ?_
 exact ⟨rfl,by simpa using HW1.out,HB1.out⟩
theorem Zk6 {w0:World} {Bt:Nat} (a:ATree) (hT:TreeAt w0 Bt a) (h1:a.kind=15) (x:ATree) (hks:a.kids=[x]) (hx:Z0e w0 x):Z2b w0 a:=by
 have c0:=hT.c0;rw [h1] at c0;have c1:=hT.c1;obtain ⟨g,cp,c3,hge2,hmx,hgl,hk⟩:=Z3b hT hks 1 rfl (by decide);have k0:=hk 0 x rfl;have HAB:=lh hT.lt;have hv:Zd (sP a.tree)=(if Z6v (Zd (vP x.tree 0)) then 40 :: (Zd (vP x.tree 0) ++ [41]) else Zd (vP x.tree 0)) ++ [59]:=by
  obtain ⟨ab,av,ak,tx,an,aks⟩:=a;simp only [ATree.kind,ATree.kids] at h1 hks;subst h1;subst hks;simp only [Zr,ATree.tree];rw [Zgm,Z7];unfold Zhh Z9j;split;·rw [Z4,Z7]; rfl
  ·rfl
 have hmx:=hx.says 0;obtain ⟨mx,emx⟩:=zX (Zd (vP x.tree 0))
 rw [← emx] at hmx;simp only [← emx] at hv;have Hmx:=lh hmx;clear emx hmx;clear hT h1 hks hk;intro B b l w hW hF;unfold Fits at hF;rw [hv] at hF ⊢;have hml:l.length + (mx.length + 1)≤140737488355328:=by
  rw [Yq] at hF;split at hF;·simp only [zL,zM,zN] at hF; omega
  ·simp only [zL,zM,zN] at hF; omega
 have HF:=lh hF;have HW:=lh hW;have hWn:BW w0 w.heap.size w.heap.size [] (w.alloc (.cells #[.pointer none,.slice none 0 0] 69)):=⟨(BAt.new w).is,hW.bel.alloc (Ya hW.low hW.sz) _,Ya hW.low hW.sz,by rw [World.size_alloc]; omega⟩
 have HWN:=lh hWn;have y0:=hWn.cell c0;have y3:=hWn.cell c3;have yk:=hWn.cell k0;have x0:=hW.cell c0;have x3:=hW.cell c3;have xk:=hW.cell k0;have hab:a.b < w.heap.size:=by
  have h1:a.b < w0.heap.size:=HAB.out;have:=hW.bel.size; omega
 have hgb:g < w.heap.size:=by have:=hW.bel.size; omega
 have q1:¬ 9223372036854775807 < 1 + mx.length:=by omega
 have q2:¬ 9223372036854775807 < 1 + mx.length + 1:=by omega
 have q3:¬ 9223372036854775807 < 1 + mx.length + 1 + 1:=by omega
 have q4:¬ 9223372036854775807 < mx.length + 1:=by omega
 obtain ⟨b1,hb1⟩:=zX (Lib.hasPrefix mx [123])
 obtain ⟨b2,hb2⟩:=zX (Lib.hasPrefix mx [102,117,110,99,116,105,111,110,40])
 obtain ⟨b3,hb3⟩:=zX (Lib.hasPrefix mx [102,117,110,99,116,105,111,110,32])
 have hst:Z6v mx=(b1 || b2 || b3):=by rw [hb1,hb2,hb3]; rfl
 have P1:Hid (∀ w,Calls Tryz.prog 31 #[.string ⟨mx.toArray⟩,.string ⟨#[123]⟩] w fun e w'=>e=.returned (.bool b1)∧w'=w):=lh fun w=>by rw [hb1]; exact Tryz.strings_HasPrefix ⟨mx.toArray⟩ ⟨#[123]⟩ w
 have P2:Hid (∀ w,Calls Tryz.prog 31 #[.string ⟨mx.toArray⟩,.string ⟨#[102,117,110,99,116,105,111,110,40]⟩] w fun e w'=>e=.returned (.bool b2)∧w'=w):=lh fun w=>by rw [hb2]; exact Tryz.strings_HasPrefix ⟨mx.toArray⟩ ⟨#[102,117,110,99,116,105,111,110,40]⟩ w
 have P3:Hid (∀ w,Calls Tryz.prog 31 #[.string ⟨mx.toArray⟩,.string ⟨#[102,117,110,99,116,105,111,110,32]⟩] w fun e w'=>e=.returned (.bool b3)∧w'=w):=lh fun w=>by rw [hb3]; exact Tryz.strings_HasPrefix ⟨mx.toArray⟩ ⟨#[102,117,110,99,116,105,111,110,32]⟩ w
 rw [hst] at HF ⊢;obtain ⟨res,hres⟩:=zX ((if (b1 || b2 || b3)=true then 40 :: (mx ++ [41]) else mx) ++ [59])
 rw [← hres] at HF ⊢;have HR:=lh hres;obtain ⟨s1,hs1⟩:∃ s:ByteArray,s=⟨#[40]⟩ ++ ⟨mx.toArray⟩ ++ ⟨#[41]⟩ ++ ⟨#[59]⟩:=⟨_,rfl⟩
 obtain ⟨s2,hs2⟩:∃ s:ByteArray,s=⟨mx.toArray⟩ ++ ⟨#[59]⟩:=⟨_,rfl⟩
 have t1:s1.data.toList=40 :: (mx ++ [41]) ++ [59]:=by rw [hs1]; simp [ByteArray.data_append]
 have t2:s2.data.toList=mx ++ [59]:=by rw [hs2]; simp [ByteArray.data_append]
 have S1:=lh hs1;have S2:=lh hs2;have T1:=lh t1;have T2:=lh t2;have HMX:Hid (([]:List UInt8).length + mx.length≤140737488355328):=lh (by simp; omega);clear hW hF hWn hb1 hb2 hb3 hst hs1 hs2 t1 t2 hv hres;unfold ATree.ptr;go_enter Tryz.func23,Tryz.ntmps23
 go_wp2_with fail
 refine (Hmx.out w.heap.size w.heap.size _ _ HWN.out HMX.out).mono ?_;rintro e w2 ⟨rfl,hw2,hn2⟩;have HW2:=lh hw2;have HN2:=lh (((Y8 w.heap.size w).alloc (Y5 _) _).trans hn2);clear hw2 hn2;go_wp2_with fail
 refine (Tryz.Builder_String_any w.heap.size w.heap.size mx w2 (by have h:=HW2.out.is; rwa [List.nil_append] at h) HW2.out.sz).mono ?_;rintro e w3 ⟨rfl,hn3⟩;have HN3:=lh (HN2.out.trans hn3);have HW3:=lh (HW.out.keep HN3.out);have HB3:=lh (HN3.out.mono HW.out.sz |> fun h=>h);clear hn3;go_wp2_with fail
 refine (P1.out _).mono ?_;rintro e w' ⟨rfl,hw'⟩;rw [hw'];clear hw' w';cases b1 <;> (focus go_wp2_with fail)
 all_goals (try (focus (refine (P2.out _).mono ?_; rintro e w' ⟨rfl,hw'⟩; rw [hw']; clear hw' w'; cases b2 <;> (focus go_wp2_with fail))))
 all_goals (try (focus (refine (P3.out _).mono ?_; rintro e w' ⟨rfl,hw'⟩; rw [hw']; clear hw' w'; cases b3 <;> (focus go_wp2_with fail))))
 all_goals focus
  first
   | (rw [← S1.out]
      refine (HW3.out.str s1 (by have:=HF.out; rw [HR.out] at this; rw [T1.out]; simpa using this)).mono ?_;rintro e w4 ⟨rfl,hw4,hb4⟩;go_wp2_with fail
      first | go_end0 | refine bodyPost_ret (results_none rfl _ _ _) rfl ?_
      exact ⟨rfl,by rw [T1.out] at hw4; rw [HR.out]; simpa using hw4,HB3.out.trans hb4⟩)
   | (rw [← S2.out]
      refine (HW3.out.str s2 (by rw [T2.out,Yq,List.length_singleton]; omega)).mono ?_;rintro e w4 ⟨rfl,hw4,hb4⟩;go_wp2_with fail
      first | go_end0 | refine bodyPost_ret (results_none rfl _ _ _) rfl ?_
      exact ⟨rfl,by rw [T2.out] at hw4; rw [HR.out]; simpa using hw4,HB3.out.trans hb4⟩)
theorem Zks (f:Bool) (L:List Tree) (x:Tree):bP f (L ++ [x])=bP f L ++ (sepP (f && L.isEmpty) [sp] ++ sP x):=by
 induction L generalizing f with
 | nil=>rw [List.nil_append,Z6f,Z8x,Z8x]; simp
 | cons y L ih=>rw [List.cons_append,Z6f,Z6f,ih]; simp
theorem Zme:∀ (M N:List ATree) (f:Bool),(Zd (bP f (Zr M))).length≤(Zd (bP f (Zr (M ++ N)))).length:=by
 intro M;induction M with
 | nil=>intro N f; rw [show Zr ([]:List ATree)=[] from rfl,Z8x]; simp [Zj]
 | cons y M ih =>
   intro N f;rw [List.cons_append,Zr,Zr,Z6f,Z6f,Z7,Z7,Z7,Z7];simp only [List.length_append];have:=ih N false;omega
theorem Zdk {w0:World} {Bt:Nat} (a:ATree) (hT:TreeAt w0 Bt a) (h1:a.kind=6) (hL:∀ x∈a.kids,Z2b w0 x) (hlen:a.kids.length≤1000000):Z2b w0 a:=by
 have c0:=hT.c0;rw [h1] at c0;have c3:=hT.c3;have hV:=Z4k hT;have hv:Zd (sP a.tree)=123 :: (Zd (bP true (Zr a.kids)) ++ [125]):=by
  obtain ⟨ab,av,ak,tx,an,aks⟩:=a;simp only [ATree.kind,ATree.kids] at h1 ⊢;subst h1;simp only [ATree.tree];rw [Z8p,Z4,Z7]; rfl
 obtain ⟨L,hLL⟩:=zX a.kids
 rw [← hLL] at hL hlen hv hV;clear hLL;intro B b l w hW hF;unfold Fits at hF;rw [hv] at hF ⊢;simp only [zL,zM,zN] at hF;obtain ⟨p,cp,hpv,hge,hmx,hk⟩:=hV;rw [hpv] at c3;have HF:=lh hF;have HW:=lh hW;have HK:=lh hk;have HL:=lh hL;have x0:=HW.out.cell c0;have x3:=HW.out.cell c3;obtain ⟨n,hn⟩:=zX L.length
 have HN:=lh hn;rw [← hn] at hge hlen c3 x3;unfold maxLen at hmx;have HO:=lh (hW.byte 123 (by omega));unfold ATree.ptr;clear hW hF hk hL hn hv hpv hT;go_enter Tryz.func23,Tryz.ntmps23
 go_wp2_with fail
 refine HO.out.mono ?_;rintro e' w1 ⟨rfl,hw1,hb1⟩;have HW1:=lh hw1;have HB1:=lh hb1;have y3:=HW1.out.cell c3;clear hw1 hb1 HO;go_wp2_with fail
 go_loopw [89] (fun i wr=>∃ k:Nat,k≤n∧i=.int .i64 k∧Hid (BW w0 B b (l ++ [123] ++ Zd (bP true (Zr (L.take k)))) wr)∧Hid (Below B w wr)) (fun i _=>n - (intOf i).toNat)
 case atStart=>exact ⟨0,by omega,rfl,by simpa [Zr,Z8x,Zj] using HW1,HB1⟩
 case round=>
  obtain ⟨k,hkn,rfl,HWk,HBk⟩:=hrel;clear HW1 HB1;by_cases hlt:k < n
  ·obtain ⟨x, hx⟩ : ∃ x, L[k]? = some x := ⟨_, Yd (by rw [← HN.out]; exact hlt)⟩
   obtain ⟨g,off,rfl,hc⟩:=HK.out k x hx;have cx:=HWk.out.cell hc;have hWx:=(HL.out x (Yl hx)).says;have htk:L.take (k + 1)=L.take k ++ [x]:=by rw [List.take_add_one,hx]; rfl
   have hsn:Zd (bP true (Zr (L.take (k + 1))))=Zd (bP true (Zr (L.take k))) ++ ((if k=0 then [] else [32]) ++ Zd (sP x.tree)):=by
    rw [htk,Z2k,show Zr [x]=[x.tree] from rfl,Zks,Z7,Z7];congr 2
    have hem:(Zr (L.take k)).isEmpty=decide (k=0):=by
     cases k with
     | zero=>rfl
     | succ k =>
       cases L with
       | nil=>cases hx
       | cons y L=>rfl
    rw [hem];by_cases h0:k=0;·rw [decide_eq_true h0,Yb h0]; rfl
    ·rw [decide_eq_false h0,Y9 h0]; rfl
   have hpre:(Zd (bP true (Zr (L.take (k + 1))))).length≤(Zd (bP true (Zr L))).length:=by
    have h:=Zme (L.take (k + 1)) (L.drop (k + 1)) true;rwa [List.take_append_drop] at h
   obtain ⟨P,hP⟩:=zX (Zd (bP true (Zr (L.take k))))
   obtain ⟨X,hX⟩:=zX (Zd (sP x.tree))
   have hft:=HF.out;rw [hsn,← hP,← hX] at hpre;simp only [List.length_append] at hpre;have hbd:l.length + (1 + (P.length + ((if k=0 then ([]:List UInt8) else [32]).length + X.length)))≤140737488355328:=by omega
   have HBD:=lh hbd;have HSN:=lh hsn;have HPX:=lh (And.intro hP hX);rw [← hP] at HWk;rw [← hX] at hWx;have HWX:=lh hWx;unfold ATree.ptr at cx;have hkI:((k:Nat):Int) < (n:Int):=by omega
   clear hc htk hsn hpre hft hbd hP hX hWx hx;by_cases h0:k=0
   ·subst h0;rw [Nat.add_zero] at cx;go_wp2_with fail
    refine (HWX.out B b _ _ HWk.out (by have:=HBD.out; simp only [if_pos,List.length_nil,List.length_append,List.length_cons] at this ⊢; omega)).mono ?_;rintro e' w2 ⟨rfl,hw2,hb2⟩;have HW2:=lh hw2;have HB2:=lh (HBk.out.trans hb2);clear hw2 hb2;go_wp2;go_roundw
    case rel=>exact ⟨1,by omega,rfl,lh (by have h:=HW2.out; rw [HSN.out,← HPX.out.1,← HPX.out.2]; simpa using h),HB2⟩
    case measure=>simp [intOf]; omega
   ·have hkp : (0 : Int) < ((k : Nat) : Int) := by omega
    go_wp2_with fail
    refine (HWk.out.byte 32 (by have:=HBD.out; rw [Y9 h0] at this; simp only [zL,zM,zN] at this ⊢; omega)).mono ?_;rintro e' w2 ⟨rfl,hw2,hb2⟩;have HW2:=lh hw2;have HB2:=lh (HBk.out.trans hb2);clear hw2 hb2;go_wp2_with fail
    refine (HWX.out B b _ _ HW2.out (by have:=HBD.out; rw [Y9 h0] at this; simp only [zL,zM,zN] at this ⊢; omega)).mono ?_;rintro e' w3 ⟨rfl,hw3,hb3⟩;have HW3:=lh hw3;have HB3:=lh (HB2.out.trans hb3);clear hw3 hb3;go_wp2;go_roundw
    case rel=>exact ⟨k + 1,by omega,rfl,lh (by have h:=HW3.out; rw [HSN.out,← HPX.out.1,← HPX.out.2,Y9 h0]; simpa using h),HB3⟩
    case measure=>simp [intOf]; omega
  ·have hkn2 : k = n := by omega
   subst hkn2;have HWn:Hid (BW w0 B b (l ++ [123] ++ Zd (bP true (Zr L))) wr):=lh (by
    have h:=HWk.out;rwa [Ym (by rw [HN.out]; exact Y5 _)] at h)
   have HE:=lh (HWn.out.byte 125 (by have:=HF.out; simp only [zL,zM,zN] at this ⊢; omega));clear HWk;go_wp2_with fail
   refine HE.out.mono ?_;rintro e' w2 ⟨rfl,hw2,hb2⟩;have HW2:=lh hw2;have HB2:=lh (HBk.out.trans hb2);clear hw2 hb2 HE;go_wp2;first | go_end0 | refine bodyPost_ret (results_none rfl _ _ _) rfl ?_
   exact ⟨rfl,by simpa using HW2.out,HB2.out⟩
theorem Zk2 (L M:List Tree):cP (L ++ M)=cP L ++ cP M:=by
 induction L with
 | nil=>rw [Z9p]; rfl
 | cons y L ih =>
   obtain ⟨k,t,n,ks⟩:=y;rw [List.cons_append,cP.eq_def,cP.eq_def (.mk k t n ks :: L)];simp only;rw [ih,List.append_assoc]
def Z7l (w0:World) (Bt:Nat) (x:ATree):Prop:=∃ c,TreeAt w0 Bt x∧x.kids=[c]∧(x.kind=13∨x.kind=14)∧x.text.size≤1000000∧Z2b w0 c
theorem Zkg {x c:ATree} (hk:x.kids=[c]) (h:x.kind=13∨x.kind=14):Zd (cP [x.tree])=(if x.kind=13 then [32,99,97,116,99,104,32,40] ++ (x.text.data.toList ++ [41,32]) else [32,102,105,110,97,108,108,121,32]) ++ Zd (sP c.tree):=by
 rcases h with h | h
 ·rw [Yb h];obtain ⟨ab,av,ak,tx,an,aks⟩:=x;simp only [ATree.kind,ATree.kids,ATree.text] at h hk ⊢;subst h hk;simp only [ATree.tree,Zr];rw [Z96,Z9p,List.append_nil];simp only [Z4];simp [Pc.bytes,Z0t]
 ·rw [Y9 (by omega)];obtain ⟨ab,av,ak,tx,an,aks⟩:=x;simp only [ATree.kind,ATree.kids,ATree.text] at h hk ⊢;subst h hk;simp only [ATree.tree,Zr];rw [Z62,Z9p,List.append_nil];simp only [Z4];simp [Pc.bytes,Zt]
theorem Zd7 {w0:World} {Bt:Nat} (a:ATree) (hT:TreeAt w0 Bt a) (h1:a.kind=12) (y:ATree) (L:List ATree) (hks:a.kids=y :: L) (hy:Z2b w0 y) (hne:1≤L.length) (hL:∀ x∈L,Z7l w0 Bt x) (hlen:L.length≤1000000):Z2b w0 a:=by
 have c0:=hT.c0;rw [h1] at c0;obtain ⟨g,cp,c3',hge,hmx,hgl,hk⟩:=Z5w hT (by rw [hks]; simp);obtain ⟨n,hn⟩:=zX L.length
 have c3:w0.cell? ⟨a.b,3,none⟩=some (.slice (some ⟨g,0,none⟩) (n + 1) cp):=by rw [hks] at c3'; rw [hn]; exact c3'
 have hge2:n + 1≤cp:=by rw [hks] at hge; rw [hn]; exact hge
 unfold maxLen at hmx;have k0:=hk 0 y (by rw [hks]; rfl);have hkk:∀ (i:Nat) (x:ATree),L[i]?=some x→w0.cell? ⟨g,1 + i,none⟩=some x.ptr:=fun i x hx=>by
  have:=hk (i + 1) x (by rw [hks]; exact hx);rwa [Nat.add_comm] at this
 unfold ATree.ptr at k0;have hv:Zd (sP a.tree)=[116,114,121,32] ++ (Zd (sP y.tree) ++ Zd (cP (Zr L))):=by
  obtain ⟨ab,av,ak,tx,an,aks⟩:=a;simp only [ATree.kind,ATree.kids] at h1 hks;subst h1;subst hks;simp only [ATree.tree,Zr];rw [Z8m,Z4,Z4,Z7]; rfl
 intro B b l w hW hF;unfold Fits at hF;have hys:=hy.says;obtain ⟨Y,hY⟩:=zX (Zd (sP y.tree))
 rw [← hY] at hv hys;rw [hv] at hF ⊢;simp only [zL,zM,zN] at hF;have HF:=lh hF;have HW:=lh hW;have HK:=lh hkk;have HL:=lh hL;have HY:=lh hys;have x0:=HW.out.cell c0;have x3:=HW.out.cell c3;have HN:=lh hn;rw [← hn] at hne hlen;have HO:=lh (hW.str ⟨#[116,114,121,32]⟩ (by show _ + 4≤_; omega));have hcp1:¬ cp=1:=by omega
 have hnI:(1:Int)≤((n + 1:Nat):Int):=by omega
 unfold ATree.ptr;clear hW hF hk hkk hL hn hv hT hks hys hy hY c3' hge;go_enter Tryz.func23,Tryz.ntmps23
 go_wp2_with fail
 refine HO.out.mono ?_;rintro e' w1 ⟨rfl,hw1,hb1⟩;have HW1:=lh hw1;have HB1:=lh hb1;have y3:=HW1.out.cell c3;have y0:=HW1.out.cell k0;clear hw1 hb1 HO;go_wp2_with fail
 refine (HY.out B b _ _ HW1.out (by have:=HF.out; show (l ++ [116,114,121,32]).length + _≤_; simp only [zL,zM,zN]; omega)).mono ?_;rintro e' w2 ⟨rfl,hw2,hb2⟩;have HW2:Hid (BW w0 B b (l ++ [116,114,121,32] ++ Y) w2):=lh hw2;have HB2:=lh (HB1.out.trans hb2);have z3:=HW2.out.cell c3;clear hw2 hb2 HY;go_wp2_with fail
 go_loopw [200] (fun i wr=>∃ k:Nat,k≤n∧i=.int .i64 k∧Hid (BW w0 B b (l ++ [116,114,121,32] ++ Y ++ Zd (cP (Zr (L.take k)))) wr)∧Hid (Below B w wr)) (fun i _=>n - (intOf i).toNat)
 case atStart=>exact ⟨0,by omega,rfl,by simpa [Zr,Z9p,Zj] using HW2,HB2⟩
 case round=>
  obtain ⟨k,hkn,rfl,HWk,HBk⟩:=hrel;clear HW2 HB2 HW1 HB1;by_cases hlt:k < n
  ·obtain ⟨x, hx⟩ : ∃ x, L[k]? = some x := ⟨_, Yd (by rw [← HN.out]; exact hlt)⟩
   have hc:=HK.out k x hx;have cx:=HWk.out.cell hc;obtain ⟨c,hTx,hxk,hxk2,hxt,hcs⟩:=HL.out x (Yl hx);have htk:L.take (k + 1)=L.take k ++ [x]:=by rw [List.take_add_one,hx]; rfl
   have hsn:Zd (cP (Zr (L.take (k + 1))))=Zd (cP (Zr (L.take k))) ++ Zd (cP [x.tree]):=by
    rw [htk,Z2k,show Zr [x]=[x.tree] from rfl,Zk2,Z7]
   rw [Zkg hxk hxk2] at hsn;have hpre:(Zd (cP (Zr (L.take (k + 1))))).length≤(Zd (cP (Zr L))).length:=by
    have h:Zr L=Zr (L.take (k + 1)) ++ Zr (L.drop (k + 1)):=by rw [← Z2k,List.take_append_drop]
    rw [h,Zk2,Z7,Yq]; omega
   obtain ⟨P,hP⟩:=zX (Zd (cP (Zr (L.take k))))
   obtain ⟨X,hX⟩:=zX (Zd (sP c.tree))
   have hWx:=hcs.says;have hft:=HF.out;rw [hsn,← hP,← hX] at hpre;have e0:=HWk.out.cell hTx.c0;have e1:=HWk.out.cell hTx.c1;have d3:=hTx.c3;obtain ⟨gx,cpx,d3',hgex,hmxx,hglx,hkx⟩:=Z5w hTx (by rw [hxk]; simp);rw [hxk] at d3';have d3'':w0.cell? ⟨x.b,3,none⟩=some (.slice (some ⟨gx,0,none⟩) 1 cpx):=d3';have hgex1:1≤cpx:=by rw [hxk] at hgex; exact hgex
   unfold maxLen at hmxx;have ec:=hkx 0 c (by rw [hxk]; rfl);unfold ATree.ptr at ec;rw [← hP] at HWk;rw [← hX] at hWx;have HWX:=lh hWx;unfold ATree.ptr at cx;have hkI:((k:Nat):Int) < (n:Int):=by omega
   have HD3:=lh d3'';have HEC:=lh ec;obtain ⟨tx,htx⟩:=zX x.text
   rw [← htx] at e1 hxt hsn hpre;obtain ⟨sx,hsx⟩:∃ sx:ByteArray,sx=⟨#[32,99,97,116,99,104,32,40]⟩ ++ tx ++ ⟨#[41,32]⟩:=⟨_,rfl⟩
   have hsl:[32,99,97,116,99,104,32,40] ++ (tx.data.toList ++ [41,32])=sx.data.toList:=by rw [hsx]; simp [ByteArray.data_append]
   rw [hsl] at hsn hpre;have HSX:=lh hsx;have HSN:=lh hsn;have HPX:=lh (And.intro hP hX);have q1:¬ 9223372036854775807 < 8 + tx.size:=by omega
   have q2:¬ 9223372036854775807 < 8 + tx.size + 2:=by omega
   clear hc htk hsn hP hX hWx hx d3 d3' d3'' hgex hkx ec hsl hsx htx hTx hcs hxk;rcases hxk2 with hk13 | hk14
   ·rw [hk13] at e0;rw [Yb hk13] at hpre;simp only [List.length_append] at hpre;have hbd : l.length + (4 + (Y.length + (P.length + (sx.data.toList.length + X.length)))) ≤ 140737488355328 := by omega
    have HBD:=lh hbd;clear hpre hft hbd;go_wp2_with fail
    rw [← HSX.out];refine (HWk.out.str sx (by have:=HBD.out; simp only [zL,zM,zN] at this ⊢; omega)).mono ?_;rintro e' w3 ⟨rfl,hw3,hb3⟩;have HW3:=lh hw3;have HB3:=lh (HBk.out.trans hb3);have u3:=HW3.out.cell HD3.out;have uc:=HW3.out.cell HEC.out;clear hw3 hb3;go_wp2_with fail
    refine (HWX.out B b _ _ HW3.out (by have:=HBD.out; simp only [zL,zM,zN] at this ⊢; omega)).mono ?_;rintro e' w4 ⟨rfl,hw4,hb4⟩;have HW4:=lh hw4;have HB4:=lh (HB3.out.trans hb4);clear hw4 hb4;go_wp2;go_roundw
    case rel=>exact ⟨k + 1,by omega,rfl,lh (by have h:=HW4.out; rw [HSN.out,← HPX.out.1,← HPX.out.2,Yb hk13]; simpa using h),HB4⟩
    case measure=>simp [intOf]; omega
   ·rw [hk14] at e0;have hk13 : ¬ x.kind = 13 := by omega
    rw [Y9 hk13] at hpre;simp only [List.length_append] at hpre;have hbd:l.length + (4 + (Y.length + (P.length + (9 + X.length))))≤140737488355328:=by simp only [List.length_cons,List.length_nil] at hpre; omega
    have HBD:=lh hbd;clear hpre hft hbd;go_wp2_with fail
    refine (HWk.out.str ⟨#[32,102,105,110,97,108,108,121,32]⟩ (by have:=HBD.out; simp only [zL,zM,zN] at this ⊢; omega)).mono ?_;rintro e' w3 ⟨rfl,hw3,hb3⟩;have HW3:=lh hw3;have HB3:=lh (HBk.out.trans hb3);have u3:=HW3.out.cell HD3.out;have uc:=HW3.out.cell HEC.out;clear hw3 hb3;go_wp2_with fail
    refine (HWX.out B b _ _ HW3.out (by have:=HBD.out; simp only [zL,zM,zN] at this ⊢; omega)).mono ?_;rintro e' w4 ⟨rfl,hw4,hb4⟩;have HW4:=lh hw4;have HB4:=lh (HB3.out.trans hb4);clear hw4 hb4;go_wp2;go_roundw
    case rel=>exact ⟨k + 1,by omega,rfl,lh (by have h:=HW4.out; rw [HSN.out,← HPX.out.1,← HPX.out.2,Y9 hk13]; simpa using h),HB4⟩
    case measure=>simp [intOf]; omega
  ·have hkn2 : k = n := by omega
   subst hkn2;have HWn:Hid (BW w0 B b (l ++ [116,114,121,32] ++ Y ++ Zd (cP (Zr L))) wr):=lh (by
    have h:=HWk.out;rwa [Ym (by rw [HN.out]; exact Y5 _)] at h)
   clear HWk;go_wp2;first | go_end0 | refine bodyPost_ret (results_none rfl _ _ _) rfl ?_
   exact ⟨rfl,by simpa using HWn.out,HBk.out⟩
theorem Z0p {a:ATree} {k:Int} {s:ByteArray} {n:Int} {ks:List Tree} (h:a.tree=.mk k s n ks):a.kind=k∧a.text=s∧a.n=n∧Zr a.kids=ks:=by
 obtain ⟨ab,av,ak,tx,an,aks⟩:=a;simp only [ATree.tree,Tree.mk.injEq] at h;exact h
theorem Zy {l:List ATree} (h:Zr l=[]):l=[]:=by cases l with | nil=>rfl | cons a l=>simp [Zr] at h
theorem Zg {l:List ATree} {t:Tree} {r:List Tree} (h:Zr l=t :: r):∃ a l',l=a :: l'∧a.tree=t∧Zr l'=r:=by
 cases l with
 | nil=>simp [Zr] at h
 | cons a l=>simp only [Zr,List.cons.injEq] at h; exact ⟨a,l,rfl,h.1,h.2⟩
theorem Z2y (l:List Tree):l.length≤Zv l:=by
 induction l with
 | nil=>simp [Zv]
 | cons x l ih =>
   have:1≤x.many:=by cases x; simp [Tree.many]
   simp only [Zv,List.length_cons]; omega
theorem Z2p:∀ l:List ATree,(Zr l).length=l.length:=fun l=>by rw [Z27,Yv]
def Srt.st:Srt→Bool
 | .b | .k | .s | .sl=>true
 | _=>false
structure Tabs (w:World):Prop where
 pow:Pow w
 signs:Zd5 w
 heads:Z5e w
def WG (w0:World) (c:Srt) (l:List Tree):Prop:=Zv l≤100000→∀ (Bt:Nat) (L:List ATree),Zr L=l→(∀ x∈L,TreeAt w0 Bt x)→∀ x∈L,(c.st=true→Z2b w0 x)∧(c.st=false→Z0e w0 x)
section
variable {w0:World} {t:Tree} {l:List Tree} {Bt:Nat} {a:ATree} {c:Srt}
theorem Z42:Zv [t]=t.many:=by simp [Zv]
theorem WG.w (h:WG w0 c [t]) (e:a.tree=t) (hT:TreeAt w0 Bt a) (hm:t.many≤100000) (hc:c.st=false):Z0e w0 a:=
 (h (by rw [Z42]; exact hm) Bt [a] (by rw [← e]; rfl) (by simpa using hT) a (by simp)).2 hc
theorem WG.s (h:WG w0 c [t]) (e:a.tree=t) (hT:TreeAt w0 Bt a) (hm:t.many≤100000) (hc:c.st=true):Z2b w0 a:=
 (h (by rw [Z42]; exact hm) Bt [a] (by rw [← e]; rfl) (by simpa using hT) a (by simp)).1 hc
theorem WG.ofW (hc:c.st=false) (h:t.many≤100000→∀ (Bt:Nat) (a:ATree),a.tree=t→TreeAt w0 Bt a→Z0e w0 a):WG w0 c [t]:=by
 intro hm Bt L hL hT x hx;obtain ⟨a,L',rfl,ha,h2⟩:=Zg hL;have h3:=Zy h2;subst h3;have:x=a:=by simpa using hx
 subst this;exact ⟨fun e=>by (rw [hc] at e; cases e),fun _=>h (by rw [Z42] at hm; exact hm) Bt x ha (hT x hx)⟩
theorem WG.ofS (hc:c.st=true) (h:t.many≤100000→∀ (Bt:Nat) (a:ATree),a.tree=t→TreeAt w0 Bt a→Z2b w0 a):WG w0 c [t]:=by
 intro hm Bt L hL hT x hx;obtain ⟨a,L',rfl,ha,h2⟩:=Zg hL;have h3:=Zy h2;subst h3;have:x=a:=by simpa using hx
 subst this;exact ⟨fun _=>h (by rw [Z42] at hm; exact hm) Bt x ha (hT x hx),fun e=>by (rw [hc] at e; cases e)⟩
theorem WG.cons {c':Srt} (hc:c'.st=c.st) (h1:WG w0 c' [t]) (h2:WG w0 c l):WG w0 c (t :: l):=by
 intro hm Bt L hL hT x hx;simp only [Zv] at hm;obtain ⟨a,L',rfl,ha,e2⟩:=Zg hL;rcases List.mem_cons.1 hx with rfl | hx2
 ·have:=h1 (by rw [Z42]; omega) Bt [x] (by rw [← ha]; rfl) (by simpa using hT x (by simp)) x (by simp);rwa [hc] at this
 ·exact h2 (by omega) Bt L' e2 (fun y hy=>hT y (by simp [hy])) x hx2
theorem WG.nil:WG w0 c []:=by
 intro hm Bt L hL hT x hx;have h3:=Zy hL;subst h3;cases hx
theorem WG.as {c':Srt} (hc:c'.st=c.st) (h:WG w0 c' l):WG w0 c l:=by
 intro hm Bt L hL hT x hx;have:=h hm Bt L hL hT x hx;rwa [hc] at this
theorem WG.wl (h:WG w0 c l) (hc:c.st=false) (hm:Zv l≤100000) {L:List ATree} (e:Zr L=l) (hT:∀ x∈L,TreeAt w0 Bt x):Z5t w0 L:=
 Zia L (fun x hx=>(h hm Bt L e hT x hx).2 hc) (by have:=Z2y l; have h2:l.length=L.length:=(by rw [← e,Z2p]); omega)
end
theorem Z2v {s:ByteArray} (h:Z3r s):s.size≤1000000:=by have:=h.2.1; omega
theorem Zjh {w0:World} (hB:Tabs w0) {c:Srt} {l:List Tree} (h:Wf c l):WG w0 c l:=by
 have hP:=hB.pow;have hS:=hB.signs;have hH:=hB.heads;induction h with
 | num h1 h2 =>
   refine WG.ofW rfl fun hm Bt a ha hT=>?_;obtain ⟨k1,k2,k3,k4⟩:=Z0p ha;simp only [Tree.many,Zv] at hm;have k4:=Zy k4;exact Zht a hT k1 (by rw [k3]; exact h1) (by rw [k3]; exact h2) hP
 | str h1 =>
   refine WG.ofW rfl fun hm Bt a ha hT=>?_;obtain ⟨k1,k2,k3,k4⟩:=Z0p ha;simp only [Tree.many,Zv] at hm;exact Zfv a hT k1 (by rw [k2]; omega)
 | @con k h1 h2 =>
   refine WG.ofW rfl fun hm Bt a ha hT=>?_;obtain ⟨k1,k2,k3,k4⟩:=Z0p ha;simp only [Tree.many,Zv] at hm;have:k=19∨k=20∨k=21∨k=22:=by omega
   rcases this with rfl | rfl | rfl | rfl;·exact Z7j a hT _ [116,114,117,101] (by simp) k1
   ·exact Z7j a hT _ [102,97,108,115,101] (by simp) k1
   ·exact Z7j a hT _ [110,117,108,108] (by simp) k1
   ·exact Z7j a hT _ [117,110,100,101,102,105,110,101,100] (by simp) k1
 | name h1 =>
   refine WG.ofW rfl fun hm Bt a ha hT=>?_;obtain ⟨k1,k2,k3,k4⟩:=Z0p ha;simp only [Tree.many,Zv] at hm;exact Za7 a hT k1
 | set h0 h1 h2 i1 i2 =>
   refine WG.ofW rfl fun hm Bt a ha hT=>?_;obtain ⟨k1,k2,k3,k4⟩:=Z0p ha;simp only [Tree.many,Zv] at hm;obtain ⟨x,r0,e0,t0,k4⟩:=Zg k4;obtain ⟨y,r1,e1,t1,k4⟩:=Zg k4;have k4:=Zy k4;subst k4;subst e1;have hk:=e0;have Tx:TreeAt w0 Bt x:=hT.kid (by rw [hk]; simp);have Ty:TreeAt w0 Bt y:=hT.kid (by rw [hk]; simp);exact Zgx a hT k1 x y hk (i1.w t0 Tx (by omega) rfl) (i2.w t1 Ty (by omega) rfl)
 | @two k x0 y0 h1 h2 g1 g2 i1 i2 =>
   refine WG.ofW rfl fun hm Bt a ha hT=>?_;obtain ⟨k1,k2,k3,k4⟩:=Z0p ha;simp only [Tree.many,Zv] at hm;obtain ⟨x,r0,e0,t0,k4⟩:=Zg k4;obtain ⟨y,r1,e1,t1,k4⟩:=Zg k4;have k4:=Zy k4;subst k4;subst e1;have hk:=e0;have Tx:TreeAt w0 Bt x:=hT.kid (by rw [hk]; simp);have Ty:TreeAt w0 Bt y:=hT.kid (by rw [hk]; simp);have:k=25∨k=26∨k=27∨k=28∨k=29∨k=30∨k=31:=by omega
   rcases this with rfl | rfl | rfl | rfl | rfl | rfl | rfl;·exact Z4w a hT _ 1 0 ⟨#[32,124,124,32]⟩ (by simp) k1 x y hk (i1.w t0 Tx (by omega) rfl) (i2.w t1 Ty (by omega) rfl) hS
   ·exact Z4w a hT _ 2 1 ⟨#[32,38,38,32]⟩ (by simp) k1 x y hk (i1.w t0 Tx (by omega) rfl) (i2.w t1 Ty (by omega) rfl) hS
   ·exact Z4w a hT _ 3 2 ⟨#[32,61,61,61,32]⟩ (by simp) k1 x y hk (i1.w t0 Tx (by omega) rfl) (i2.w t1 Ty (by omega) rfl) hS
   ·exact Z4w a hT _ 4 3 ⟨#[32,60,32]⟩ (by simp) k1 x y hk (i1.w t0 Tx (by omega) rfl) (i2.w t1 Ty (by omega) rfl) hS
   ·exact Z4w a hT _ 5 4 ⟨#[32,43,32]⟩ (by simp) k1 x y hk (i1.w t0 Tx (by omega) rfl) (i2.w t1 Ty (by omega) rfl) hS
   ·exact Z4w a hT _ 5 5 ⟨#[32,45,32]⟩ (by simp) k1 x y hk (i1.w t0 Tx (by omega) rfl) (i2.w t1 Ty (by omega) rfl) hS
   ·exact Z4w a hT _ 6 6 ⟨#[32,42,32]⟩ (by simp) k1 x y hk (i1.w t0 Tx (by omega) rfl) (i2.w t1 Ty (by omega) rfl) hS
 | @one k x0 h1 h2 g1 i1 =>
   refine WG.ofW rfl fun hm Bt a ha hT=>?_;obtain ⟨k1,k2,k3,k4⟩:=Z0p ha;simp only [Tree.many,Zv] at hm;obtain ⟨x,r0,e0,t0,k4⟩:=Zg k4;have k4:=Zy k4;subst k4;have hk:=e0;have Tx:TreeAt w0 Bt x:=hT.kid (by rw [hk]; simp);have:k=32∨k=33∨k=34:=by omega
   rcases this with rfl | rfl | rfl;·exact Z8t a hT _ 7 7 ⟨#[33]⟩ (by simp) k1 x hk (i1.w t0 Tx (by omega) rfl) hS
   ·exact Z8t a hT _ 7 8 ⟨#[116,121,112,101,111,102,32]⟩ (by simp) k1 x hk (i1.w t0 Tx (by omega) rfl) hS
   ·exact Z8t a hT _ 7 9 ⟨#[100,101,108,101,116,101,32]⟩ (by simp) k1 x hk (i1.w t0 Tx (by omega) rfl) hS
 | mem h1 g1 i1 =>
   refine WG.ofW rfl fun hm Bt a ha hT=>?_;obtain ⟨k1,k2,k3,k4⟩:=Z0p ha;simp only [Tree.many,Zv] at hm;obtain ⟨x,r0,e0,t0,k4⟩:=Zg k4;have k4:=Zy k4;subst k4;have hk:=e0;have Tx:TreeAt w0 Bt x:=hT.kid (by rw [hk]; simp);exact Zg2 a hT k1 x hk (i1.w t0 Tx (by omega) rfl) (by rw [k2]; exact Z2v h1)
 | @call x0 l g1 g2 i1 i2 =>
   refine WG.ofW rfl fun hm Bt a ha hT=>?_;obtain ⟨k1,k2,k3,k4⟩:=Z0p ha;simp only [Tree.many,Zv] at hm;obtain ⟨x,L,hk,t0,k4⟩:=Zg k4;have Tx:TreeAt w0 Bt x:=hT.kid (by rw [hk]; simp);have hLl:L.length≤100000:=by
    have:=Z2y l;have h2:l.length=L.length:=by rw [← k4,Z2p]
    omega
   exact Zeh a hT k1 x L hk (i1.w t0 Tx (by omega) rfl) (i2.wl rfl (by omega) k4 fun y hy=>hT.kid (by rw [hk]; simp [hy])) hLl
 | lam h1 g1 g2 i1 i2 =>
   refine WG.ofW rfl fun hm Bt a ha hT=>?_;obtain ⟨k1,k2,k3,k4⟩:=Z0p ha;simp only [Tree.many,Zv] at hm;obtain ⟨p,r0,e0,t0,k4⟩:=Zg k4;obtain ⟨q,r1,e1,t1,k4⟩:=Zg k4;have k4:=Zy k4;subst k4;subst e1;have hk:=e0;have Tp:TreeAt w0 Bt p:=hT.kid (by rw [hk]; simp);have Tq:TreeAt w0 Bt q:=hT.kid (by rw [hk]; simp);obtain ⟨p1,p2,p3,p4⟩:=Z0p t0;have hl:=i1.wl (Bt:=Bt) rfl (by omega) p4 fun y hy=>Tp.kid hy;have hf:=Zk0 a hT p q hk hl (i2.s t1 Tq (by omega) rfl) (by rw [k2]; rcases h1 with rfl | h1 <;> first | exact Yp _ | exact Z2v h1)
   exact Zh4 a hT k1 p q hk hf
 | obj g1 i1 =>
   refine WG.ofW rfl fun hm Bt a ha hT=>?_;obtain ⟨k1,k2,k3,k4⟩:=Z0p ha;simp only [Tree.many,Zv] at hm;exact Zhf a hT k1 (i1.wl rfl (by omega) k4 fun y hy=>hT.kid hy)
 | vnil=>exact WG.nil
 | vcons _ _ i1 i2=>exact i1.cons rfl i2
 | onil=>exact WG.nil
 | ocons h1 _ _ i1 i2 =>
   refine WG.cons (c':=.v) rfl ?_ i2;refine WG.ofW rfl fun hm Bt a ha hT=>?_;obtain ⟨k1,k2,k3,k4⟩:=Z0p ha;simp only [Tree.many,Zv] at hm;obtain ⟨x,r0,e0,t0,k4⟩:=Zg k4;have k4:=Zy k4;subst k4;have hk:=e0;have Tx:TreeAt w0 Bt x:=hT.kid (by rw [hk]; simp);exact Zf6 a hT k1 x hk (i1.w t0 Tx (by omega) rfl) (by rw [k2]; exact Z2v h1)
 | pnil=>exact WG.nil
 | pcons h1 _ i2 =>
   refine WG.cons (c':=.v) rfl ?_ i2;refine WG.ofW rfl fun hm Bt a ha hT=>?_;obtain ⟨k1,k2,k3,k4⟩:=Z0p ha;simp only [Tree.many,Zv] at hm;exact Za7 a hT k1
 | @body l _ i1 =>
   refine WG.ofS rfl fun hm Bt a ha hT=>?_;obtain ⟨k1,k2,k3,k4⟩:=Z0p ha;simp only [Tree.many,Zv] at hm;have hlen:=Z2y l;have h2:l.length=a.kids.length:=by rw [← k4,Z2p]
   exact Zdk a hT k1 (fun x hx=>(i1 (by omega) Bt a.kids k4 (fun y hy=>hT.kid hy) x hx).1 rfl) (by omega)
 | @block l _ i1 =>
   refine WG.ofS rfl fun hm Bt a ha hT=>?_;obtain ⟨k1,k2,k3,k4⟩:=Z0p ha;simp only [Tree.many,Zv] at hm;have hlen:=Z2y l;have h2:l.length=a.kids.length:=by rw [← k4,Z2p]
   exact Zdk a hT k1 (fun x hx=>(i1 (by omega) Bt a.kids k4 (fun y hy=>hT.kid hy) x hx).1 rfl) (by omega)
 | decl0 h0 h1 =>
   refine WG.ofS rfl fun hm Bt a ha hT=>?_;obtain ⟨k1,k2,k3,k4⟩:=Z0p ha;simp only [Tree.many,Zv] at hm;have k4:=Zy k4;have hk:=k4;rcases h0 with rfl | rfl;·exact Zgr a hT _ 0 ⟨#[118,97,114,32]⟩ (by simp) k1 hk hH (by rw [k2]; exact Z2v h1)
   ·exact Zgr a hT _ 1 ⟨#[108,101,116,32]⟩ (by simp) k1 hk hH (by rw [k2]; exact Z2v h1)
 | decl1 h0 h1 g1 i1 =>
   refine WG.ofS rfl fun hm Bt a ha hT=>?_;obtain ⟨k1,k2,k3,k4⟩:=Z0p ha;simp only [Tree.many,Zv] at hm;obtain ⟨x,r0,e0,t0,k4⟩:=Zg k4;have k4:=Zy k4;subst k4;have hk:=e0;have Tx:TreeAt w0 Bt x:=hT.kid (by rw [hk]; simp);rcases h0 with rfl | rfl | rfl;·exact Zag a hT _ 0 ⟨#[118,97,114,32]⟩ (by simp) k1 x hk (i1.w t0 Tx (by omega) rfl) hH (by rw [k2]; exact Z2v h1)
   ·exact Zag a hT _ 1 ⟨#[108,101,116,32]⟩ (by simp) k1 x hk (i1.w t0 Tx (by omega) rfl) hH (by rw [k2]; exact Z2v h1)
   ·exact Zag a hT _ 2 ⟨#[99,111,110,115,116,32]⟩ (by simp) k1 x hk (i1.w t0 Tx (by omega) rfl) hH (by rw [k2]; exact Z2v h1)
 | func h1 g1 g2 i1 i2 =>
   refine WG.ofS rfl fun hm Bt a ha hT=>?_;obtain ⟨k1,k2,k3,k4⟩:=Z0p ha;simp only [Tree.many,Zv] at hm;obtain ⟨p,r0,e0,t0,k4⟩:=Zg k4;obtain ⟨q,r1,e1,t1,k4⟩:=Zg k4;have k4:=Zy k4;subst k4;subst e1;have hk:=e0;have Tp:TreeAt w0 Bt p:=hT.kid (by rw [hk]; simp);have Tq:TreeAt w0 Bt q:=hT.kid (by rw [hk]; simp);obtain ⟨p1,p2,p3,p4⟩:=Z0p t0;have hl:=i1.wl (Bt:=Bt) rfl (by omega) p4 fun y hy=>Tp.kid hy;have hf:=Zk0 a hT p q hk hl (i2.s t1 Tq (by omega) rfl) (by rw [k2]; exact Z2v h1);exact Zlf a hT k1 p q hk hf
 | blk _ i1=>exact i1.as rfl
 | if2 g1 g2 i1 i2 =>
   refine WG.ofS rfl fun hm Bt a ha hT=>?_;obtain ⟨k1,k2,k3,k4⟩:=Z0p ha;simp only [Tree.many,Zv] at hm;obtain ⟨x,r0,e0,t0,k4⟩:=Zg k4;obtain ⟨y,r1,e1,t1,k4⟩:=Zg k4;have k4:=Zy k4;subst k4;subst e1;have hk:=e0;have Tx:TreeAt w0 Bt x:=hT.kid (by rw [hk]; simp);have Ty:TreeAt w0 Bt y:=hT.kid (by rw [hk]; simp);exact Zl1 a hT k1 x y hk (i1.w t0 Tx (by omega) rfl) (i2.s t1 Ty (by omega) rfl) hH
 | if3 g1 g2 g3 hd i1 i2 i3 =>
   refine WG.ofS rfl fun hm Bt a ha hT=>?_;obtain ⟨k1,k2,k3,k4⟩:=Z0p ha;simp only [Tree.many,Zv] at hm;obtain ⟨x,r0,e0,t0,k4⟩:=Zg k4;obtain ⟨y,r1,e1,t1,k4⟩:=Zg k4;obtain ⟨z,r2,e2,t2,k4⟩:=Zg k4;have k4:=Zy k4;subst k4;subst e2;subst e1;have hk:=e0;have Tx:TreeAt w0 Bt x:=hT.kid (by rw [hk]; simp);have Ty:TreeAt w0 Bt y:=hT.kid (by rw [hk]; simp);have Tz:TreeAt w0 Bt z:=hT.kid (by rw [hk]; simp);exact Zmp a hT k1 x y z hk (i1.w t0 Tx (by omega) rfl) (i2.s t1 Ty (by omega) rfl) (i3.s t2 Tz (by omega) rfl) hH
 | loop h0 g1 g2 i1 i2 =>
   refine WG.ofS rfl fun hm Bt a ha hT=>?_;obtain ⟨k1,k2,k3,k4⟩:=Z0p ha;simp only [Tree.many,Zv] at hm;obtain ⟨x,r0,e0,t0,k4⟩:=Zg k4;obtain ⟨y,r1,e1,t1,k4⟩:=Zg k4;have k4:=Zy k4;subst k4;subst e1;have hk:=e0;have Tx:TreeAt w0 Bt x:=hT.kid (by rw [hk]; simp);have Ty:TreeAt w0 Bt y:=hT.kid (by rw [hk]; simp);rcases h0 with rfl | rfl;·exact Zld a hT k1 x y hk (i1.w t0 Tx (by omega) rfl) (i2.s t1 Ty (by omega) rfl) hH
   ·exact Zkl a hT k1 x y hk (i1.w t0 Tx (by omega) rfl) (i2.s t1 Ty (by omega) rfl) hH
 | ret0 =>
   refine WG.ofS rfl fun hm Bt a ha hT=>?_;obtain ⟨k1,k2,k3,k4⟩:=Z0p ha;simp only [Tree.many,Zv] at hm;have k4:=Zy k4;have hk:=k4;exact Zlm a hT k1 hk hH
 | ret1 h0 g1 i1 =>
   refine WG.ofS rfl fun hm Bt a ha hT=>?_;obtain ⟨k1,k2,k3,k4⟩:=Z0p ha;simp only [Tree.many,Zv] at hm;obtain ⟨x,r0,e0,t0,k4⟩:=Zg k4;have k4:=Zy k4;subst k4;have hk:=e0;have Tx:TreeAt w0 Bt x:=hT.kid (by rw [hk]; simp);rcases h0 with rfl | rfl;·exact Zj9 a hT k1 x hk (i1.w t0 Tx (by omega) rfl) hH
   ·exact Ziq a hT k1 x hk (i1.w t0 Tx (by omega) rfl) hH
 | tryc g1 h1 g2 i1 i2 =>
   refine WG.ofS rfl fun hm Bt a ha hT=>?_;obtain ⟨k1,k2,k3,k4⟩:=Z0p ha;simp only [Tree.many,Zv] at hm;obtain ⟨b,r0,e0,t0,k4⟩:=Zg k4;obtain ⟨x,r1,e1,t1,k4⟩:=Zg k4;have k4:=Zy k4;subst k4;subst e1;have hk:=e0;have Tb:TreeAt w0 Bt b:=hT.kid (by rw [hk]; simp);have Tx:TreeAt w0 Bt x:=hT.kid (by rw [hk]; simp);obtain ⟨u1,u2,u3,u4⟩:=Z0p t1;obtain ⟨c1,q1,v1,w1,u4⟩:=Zg u4;have u4:=Zy u4;subst u4;have H1:Z7l w0 Bt x:=⟨c1,Tx,v1,by rw [u1]; simp,by rw [u2]; exact Z2v h1,i2.s w1 (Tx.kid (by rw [v1]; simp)) (by omega) rfl⟩
   exact Zd7 a hT k1 b [x] hk (i1.s t0 Tb (by omega) rfl) (by simp) (by simpa using H1) (by simp)
 | tryf g1 g2 i1 i2 =>
   refine WG.ofS rfl fun hm Bt a ha hT=>?_;obtain ⟨k1,k2,k3,k4⟩:=Z0p ha;simp only [Tree.many,Zv] at hm;obtain ⟨b,r0,e0,t0,k4⟩:=Zg k4;obtain ⟨x,r1,e1,t1,k4⟩:=Zg k4;have k4:=Zy k4;subst k4;subst e1;have hk:=e0;have Tb:TreeAt w0 Bt b:=hT.kid (by rw [hk]; simp);have Tx:TreeAt w0 Bt x:=hT.kid (by rw [hk]; simp);obtain ⟨u1,u2,u3,u4⟩:=Z0p t1;obtain ⟨c1,q1,v1,w1,u4⟩:=Zg u4;have u4:=Zy u4;subst u4;have H1:Z7l w0 Bt x:=⟨c1,Tx,v1,by rw [u1]; simp,by rw [u2]; exact Yp _,i2.s w1 (Tx.kid (by rw [v1]; simp)) (by omega) rfl⟩
   exact Zd7 a hT k1 b [x] hk (i1.s t0 Tb (by omega) rfl) (by simp) (by simpa using H1) (by simp)
 | trycf g1 h1 g2 g3 i1 i2 i3 =>
   refine WG.ofS rfl fun hm Bt a ha hT=>?_;obtain ⟨k1,k2,k3,k4⟩:=Z0p ha;simp only [Tree.many,Zv] at hm;obtain ⟨b,r0,e0,t0,k4⟩:=Zg k4;obtain ⟨x,r1,e1,t1,k4⟩:=Zg k4;obtain ⟨y,r2,e2,t2,k4⟩:=Zg k4;have k4:=Zy k4;subst k4;subst e2;subst e1;have hk:=e0;have Tb:TreeAt w0 Bt b:=hT.kid (by rw [hk]; simp);have Tx:TreeAt w0 Bt x:=hT.kid (by rw [hk]; simp);have Ty:TreeAt w0 Bt y:=hT.kid (by rw [hk]; simp);obtain ⟨u1,u2,u3,u4⟩:=Z0p t1;obtain ⟨c1,q1,v1,w1,u4⟩:=Zg u4;have u4:=Zy u4;subst u4
   have H1:Z7l w0 Bt x:=⟨c1,Tx,v1,by rw [u1]; simp,by rw [u2]; exact Z2v h1,i2.s w1 (Tx.kid (by rw [v1]; simp)) (by omega) rfl⟩
   obtain ⟨u1,u2,u3,u4⟩:=Z0p t2;obtain ⟨c2,q2,v2,w2,u4⟩:=Zg u4;have u4:=Zy u4;subst u4;have H2:Z7l w0 Bt y:=⟨c2,Ty,v2,by rw [u1]; simp,by rw [u2]; exact Yp _,i3.s w2 (Ty.kid (by rw [v2]; simp)) (by omega) rfl⟩
   exact Zd7 a hT k1 b [x,y] hk (i1.s t0 Tb (by omega) rfl) (by simp) (by simpa using ⟨H1,H2⟩) (by simp)
 | empty =>
   refine WG.ofS rfl fun hm Bt a ha hT=>?_;obtain ⟨k1,k2,k3,k4⟩:=Z0p ha;simp only [Tree.many,Zv] at hm;exact Zi0 a hT k1
 | expr g1 i1 =>
   refine WG.ofS rfl fun hm Bt a ha hT=>?_;obtain ⟨k1,k2,k3,k4⟩:=Z0p ha;simp only [Tree.many,Zv] at hm;obtain ⟨x,r0,e0,t0,k4⟩:=Zg k4;have k4:=Zy k4;subst k4;have hk:=e0;have Tx:TreeAt w0 Bt x:=hT.kid (by rw [hk]; simp);exact Zk6 a hT k1 x hk (i1.w t0 Tx (by omega) rfl)
 | snil=>exact WG.nil
 | scons _ _ i1 i2=>exact i1.cons rfl i2
def lenP (l:List Pc):Nat:=(Zd l).length
theorem Z02:lenP []=0:=rfl
theorem Zx (l m:List Pc):lenP (l ++ m)=lenP l + lenP m:=by unfold lenP; rw [Z7,Yq]
theorem Z0i (c:UInt8) (l:List Pc):lenP (.sp c :: l)=1 + lenP l:=by unfold lenP; rw [Z4,Yq]; rfl
theorem Z0h (c:UInt8) (l:List Pc):lenP (.t 5 ⟨#[c]⟩ 0 :: l)=1 + lenP l:=by unfold lenP; rw [Z4,Yq]; rfl
theorem Z0l (s:ByteArray) (l:List Pc):lenP (.t 2 s 0 :: l)=s.size + lenP l:=by unfold lenP; rw [Z4,Yq]; simp [Pc.bytes]
theorem Z0k (s:ByteArray) (l:List Pc):lenP (.t 1 s 0 :: l)=s.size + lenP l:=by unfold lenP; rw [Z4,Yq]; simp [Pc.bytes]
theorem Zdo (k:Int):lenP (sgnP k)≤10:=by
 unfold sgnP;repeat' split
 all_goals (show _≤10; decide)
theorem Z4u (k:Int):lenP (Z2w k)≤10:=by
 unfold Z2w;repeat' split
 all_goals (show _≤10; decide)
theorem Zjj (k:Int):(Z9w k).size≤10:=by
 unfold Z9w;repeat' split
 all_goals (show _≤10; decide)
theorem Zc1 (p:Bool) (l:List Pc):lenP (Z9j p l)≤lenP l + 2:=by
 unfold Z9j;split;·rw [Z0h,Zx,Z0h,Z02]; omega
 ·omega
theorem Z95 (f:Bool):lenP (sepP f [sg 44,sp])≤2:=by cases f <;> decide
theorem Zfh (f:Bool):lenP (sepP f [sp])≤1:=by cases f <;> decide
theorem Zhw {n:Int} (h0:0≤n) (h1:n≤1000000000):lenP [.t 3 ByteArray.empty n]≤30:=by
 unfold lenP;rw [Z4,Zj,List.append_nil];have:=Lib.itoa_length_le n (by omega) (by omega);show (Lib.itoa n).length≤30;omega
theorem Zj5 (l:List UInt8):(l.flatMap escB).length≤2 * l.length:=by
 induction l with
 | nil=>simp
 | cons u l ih =>
   rw [List.flatMap_cons,Yq,List.length_cons]
   have : (escB u).length ≤ 2 := by unfold escB; repeat' split
                                    all_goals simp
   omega
theorem Zim {s:ByteArray} (h:s.size≤500):lenP [.t 4 s 0]≤1010:=by
 unfold lenP;rw [Z4,Zj,List.append_nil];show (Z58 s).length≤_;unfold Z58;have:=Zj5 s.data.toList;simp only [List.length_cons,List.length_append,List.length_nil];have h2:s.data.toList.length=s.size:=by simp
 omega
theorem Zgh {s:ByteArray} (h:s.size≤20) (l b:List Pc):lenP (fnP s l b)≤lenP l + lenP b + 40:=by
 unfold fnP;rw [Z0l,Zx,Z0h,Zx,Z0h,Z0i];have h1:lenP (if s.size=0 then [] else [sp,nm s])≤21:=by
  split;·rw [Z02]; omega
  ·rw [Z0i,Z0k,Z02]; omega
 have h2:Ze.size=8:=by decide
 omega
def LG:Srt→List Tree→Prop
 | .v,l=>∀ x,l=[x]→∀ need,lenP (vP x need) + 4≤2000 * x.many
 | .vl,l | .ol,l | .pl,l=>∀ f,lenP (lP f l)≤2000 * Zv l
 | .b,l | .k,l | .s,l=>∀ x,l=[x]→lenP (sP x) + 4≤2000 * x.many
 | .sl,l=>(∀ f,lenP (bP f l)≤2000 * Zv l)∧lenP (pP l)≤2000 * Zv l
theorem LG.ofV {k:Int} {s:ByteArray} {n:Int} {ks:List Tree} (h:lenP (vbP k s n ks) + 6≤2000 * (1 + Zv ks)):LG .v [.mk k s n ks]:=by
 intro x e need;simp only [List.cons.injEq,and_true] at e;subst e;rw [Zk5,Tree.many];have:=Zc1 (decide (Zo k < need)) (vbP k s n ks);omega
theorem LG.ofS {c:Srt} (hc:c=.b∨c=.k∨c=.s) {k:Int} {s:ByteArray} {n:Int} {ks:List Tree} (h:lenP (sP (.mk k s n ks)) + 4≤2000 * (1 + Zv ks)):LG c [.mk k s n ks]:=by
 have:∀ x,[Tree.mk k s n ks]=[x]→lenP (sP x) + 4≤2000 * x.many:=by
  intro x e;simp only [List.cons.injEq,and_true] at e;subst e;rw [Tree.many]; omega
 rcases hc with rfl | rfl | rfl <;> exact this
theorem Z4x {c:Srt} {l:List Tree} (h:Wf c l):LG c l:=by
 induction h with
 | num h1 h2 =>
   refine LG.ofV ?_;rw [Zdi];have:=Zhw h1 h2
   first
    | (simp only [Zx,Z0i,Z0h,Z0l,Z0k,Z02,Zv,Tree.many] at *; omega)
    | (simp only [Zx,Z0i,Z0h,Z0l,Z0k,Z02,Zv,Tree.many]; omega)
 | str h1 =>
   refine LG.ofV ?_;rw [Zdx];have:=Zim h1
   first
    | (simp only [Zx,Z0i,Z0h,Z0l,Z0k,Z02,Zv,Tree.many] at *; omega)
    | (simp only [Zx,Z0i,Z0h,Z0l,Z0k,Z02,Zv,Tree.many]; omega)
 | con h1 h2 =>
   refine LG.ofV ?_;rw [Z90 h1 h2];have:=Zjj ‹Int›
   first
    | (simp only [Zx,Z0i,Z0h,Z0l,Z0k,Z02,Zv,Tree.many] at *; omega)
    | (simp only [Zx,Z0i,Z0h,Z0l,Z0k,Z02,Zv,Tree.many]; omega)
 | name h1 =>
   refine LG.ofV ?_;rw [Z7p];have:=h1.2.1
   first
    | (simp only [Zx,Z0i,Z0h,Z0l,Z0k,Z02,Zv,Tree.many] at *; omega)
    | (simp only [Zx,Z0i,Z0h,Z0l,Z0k,Z02,Zv,Tree.many]; omega)
 | set h0 h1 h2 i1 i2 =>
   refine LG.ofV ?_;rw [Zdf];have:=i1 _ rfl 8;have:=i2 _ rfl 0
   first
    | (simp only [Zx,Z0i,Z0h,Z0l,Z0k,Z02,Zv,Tree.many] at *; omega)
    | (simp only [Zx,Z0i,Z0h,Z0l,Z0k,Z02,Zv,Tree.many]; omega)
 | two h1 h2 g1 g2 i1 i2 =>
   refine LG.ofV ?_;rw [Ze0 h1 h2];have:=i1 _ rfl (Zo ‹Int›);have:=i2 _ rfl (Zo ‹Int› + 1);have:=Zdo ‹Int›
   first
    | (simp only [Zx,Z0i,Z0h,Z0l,Z0k,Z02,Zv,Tree.many] at *; omega)
    | (simp only [Zx,Z0i,Z0h,Z0l,Z0k,Z02,Zv,Tree.many]; omega)
 | one h1 h2 g1 i1 =>
   refine LG.ofV ?_;rw [Za8 h1 h2];have:=i1 _ rfl 7;have:=Zdo ‹Int›
   first
    | (simp only [Zx,Z0i,Z0h,Z0l,Z0k,Z02,Zv,Tree.many] at *; omega)
    | (simp only [Zx,Z0i,Z0h,Z0l,Z0k,Z02,Zv,Tree.many]; omega)
 | mem h1 g1 i1 =>
   refine LG.ofV ?_;rw [Zdt];have:=i1 _ rfl 8;have:=h1.2.1
   first
    | (simp only [Zx,Z0i,Z0h,Z0l,Z0k,Z02,Zv,Tree.many] at *; omega)
    | (simp only [Zx,Z0i,Z0h,Z0l,Z0k,Z02,Zv,Tree.many]; omega)
 | call g1 g2 i1 i2 =>
   refine LG.ofV ?_;rw [Z8o];have:=i1 _ rfl 8;have:=i2 true
   first
    | (simp only [Zx,Z0i,Z0h,Z0l,Z0k,Z02,Zv,Tree.many] at *; omega)
    | (simp only [Zx,Z0i,Z0h,Z0l,Z0k,Z02,Zv,Tree.many]; omega)
 | lam h1 g1 g2 i1 i2 =>
   refine LG.ofV ?_;rename_i s l b;rw [Zc4];have h2:s.size≤20:=by
    rcases h1 with rfl | h1;·exact Yp _
    ·exact h1.2.1
   have:=Zgh h2 (lP true l) (sP b);have:=i1 true;have:=i2 _ rfl;simp only [Zv,Tree.many];omega
 | obj g1 i1 =>
   refine LG.ofV ?_;rw [Zdh];have:=i1 true
   first
    | (simp only [Zx,Z0i,Z0h,Z0l,Z0k,Z02,Zv,Tree.many] at *; omega)
    | (simp only [Zx,Z0i,Z0h,Z0l,Z0k,Z02,Zv,Tree.many]; omega)
 | vnil=>intro f; rw [Z7h,Z02]; omega
 | vcons g1 g2 i1 i2 =>
   intro f;rw [Z5c,Zx,Zx];have:=Z95 f;have:=i1 _ rfl 0;have:=i2 false;simp only [Zv];omega
 | onil=>intro f; rw [Z7h,Z02]; omega
 | ocons h1 g1 g2 i1 i2 =>
   intro f;rename_i s x l;have h3:LG .v [.mk 39 s 0 [x]]:=by
    refine LG.ofV ?_;rw [Zcx];have:=i1 _ rfl 0;have:=h1.2.1;simp only [Zx,Z0i,Z0h,Z0l,Z0k,Z02,Zv,Tree.many];omega
   rw [Z5c,Zx,Zx];have:=Z95 f;have:=h3 _ rfl 0;have:=i2 false;simp only [Zv];omega
 | pnil=>intro f; rw [Z7h,Z02]; omega
 | pcons h1 g2 i2 =>
   intro f;rename_i s l;have h3:LG .v [.mk 23 s 0 []]:=by
    refine LG.ofV ?_;rw [Z7p];have:=h1.2.1;simp only [Zx,Z0i,Z0h,Z0l,Z0k,Z02,Zv,Tree.many];omega
   rw [Z5c,Zx,Zx];have:=Z95 f;have:=h3 _ rfl 0;have:=i2 false;simp only [Zv];omega
 | body g1 i1 =>
   refine LG.ofS (by simp) ?_;rw [Z8p];have:=i1.1 true
   first
    | (simp only [Zx,Z0i,Z0h,Z0l,Z0k,Z02,Zv,Tree.many] at *; omega)
    | (simp only [Zx,Z0i,Z0h,Z0l,Z0k,Z02,Zv,Tree.many]; omega)
 | block g1 i1 =>
   refine LG.ofS (by simp) ?_;rw [Z8p];have:=i1.1 true
   first
    | (simp only [Zx,Z0i,Z0h,Z0l,Z0k,Z02,Zv,Tree.many] at *; omega)
    | (simp only [Zx,Z0i,Z0h,Z0l,Z0k,Z02,Zv,Tree.many]; omega)
 | decl0 h0 h1 =>
   refine LG.ofS (by simp) ?_;rw [Zan (by omega)];have:=h1.2.1;have:=Z4u ‹Int›
   first
    | (simp only [Zx,Z0i,Z0h,Z0l,Z0k,Z02,Zv,Tree.many] at *; omega)
    | (simp only [Zx,Z0i,Z0h,Z0l,Z0k,Z02,Zv,Tree.many]; omega)
 | decl1 h0 h1 g1 i1 =>
   refine LG.ofS (by simp) ?_;rw [Z9c (by omega)];have:=h1.2.1;have:=Z4u ‹Int›;have:=i1 _ rfl 0
   first
    | (simp only [Zx,Z0i,Z0h,Z0l,Z0k,Z02,Zv,Tree.many] at *; omega)
    | (simp only [Zx,Z0i,Z0h,Z0l,Z0k,Z02,Zv,Tree.many]; omega)
 | func h1 g1 g2 i1 i2 =>
   refine LG.ofS (by simp) ?_;rename_i s l b;rw [Zhp];have:=Zgh h1.2.1 (lP true l) (sP b);have:=i1 true;have:=i2 _ rfl;simp only [Zv,Tree.many];omega
 | blk g1 i1=>exact i1
 | if2 g1 g2 i1 i2 =>
   refine LG.ofS (by simp) ?_;rw [Zbf (by omega)];have:=i1 _ rfl 0;have:=i2 _ rfl;have:=Z4u 7
   first
    | (simp only [Zx,Z0i,Z0h,Z0l,Z0k,Z02,Zv,Tree.many] at *; omega)
    | (simp only [Zx,Z0i,Z0h,Z0l,Z0k,Z02,Zv,Tree.many]; omega)
 | if3 g1 g2 g3 hd i1 i2 i3 =>
   refine LG.ofS (by simp) ?_;rw [Zlp];have:=i1 _ rfl 0;have:=i2 _ rfl;have:=i3 _ rfl;have:=Z4u 7;have:=show Z1y.size=4 by decide
   first
    | (simp only [Zx,Z0i,Z0h,Z0l,Z0k,Z02,Zv,Tree.many] at *; omega)
    | (simp only [Zx,Z0i,Z0h,Z0l,Z0k,Z02,Zv,Tree.many]; omega)
 | loop h0 g1 g2 i1 i2 =>
   refine LG.ofS (by simp) ?_;rw [Zbf (by omega)];have:=i1 _ rfl 0;have:=i2 _ rfl;have:=Z4u ‹Int›
   first
    | (simp only [Zx,Z0i,Z0h,Z0l,Z0k,Z02,Zv,Tree.many] at *; omega)
    | (simp only [Zx,Z0i,Z0h,Z0l,Z0k,Z02,Zv,Tree.many]; omega)
 | ret0 =>
   refine LG.ofS (by simp) ?_;rw [Zga (by omega)];have:=Z4u 10
   first
    | (simp only [Zx,Z0i,Z0h,Z0l,Z0k,Z02,Zv,Tree.many] at *; omega)
    | (simp only [Zx,Z0i,Z0h,Z0l,Z0k,Z02,Zv,Tree.many]; omega)
 | ret1 h0 g1 i1 =>
   refine LG.ofS (by simp) ?_;rw [Zbr (by omega)];have:=i1 _ rfl 0;have:=Z4u ‹Int›
   first
    | (simp only [Zx,Z0i,Z0h,Z0l,Z0k,Z02,Zv,Tree.many] at *; omega)
    | (simp only [Zx,Z0i,Z0h,Z0l,Z0k,Z02,Zv,Tree.many]; omega)
 | tryc g1 h1 g2 i1 i2 =>
   refine LG.ofS (by simp) ?_;rw [Z8m,Z96,Z9p];have:=h1.2.1;have:=i1 _ rfl;have:=i2 _ rfl;have:=show Z1j.size=3 by decide
   have:=show Z0t.size=5 by decide
   have:=show Zt.size=7 by decide
   first
    | (simp only [Zx,Z0i,Z0h,Z0l,Z0k,Z02,Zv,Tree.many] at *; omega)
    | (simp only [Zx,Z0i,Z0h,Z0l,Z0k,Z02,Zv,Tree.many]; omega)
 | tryf g1 g2 i1 i2 =>
   refine LG.ofS (by simp) ?_;rw [Z8m,Z62,Z9p];have:=i1 _ rfl;have:=i2 _ rfl;have:=show Z1j.size=3 by decide
   have:=show Z0t.size=5 by decide
   have:=show Zt.size=7 by decide
   first
    | (simp only [Zx,Z0i,Z0h,Z0l,Z0k,Z02,Zv,Tree.many] at *; omega)
    | (simp only [Zx,Z0i,Z0h,Z0l,Z0k,Z02,Zv,Tree.many]; omega)
 | trycf g1 h1 g2 g3 i1 i2 i3 =>
   refine LG.ofS (by simp) ?_;rw [Z8m,Z96,Z62,Z9p];have:=h1.2.1;have:=i1 _ rfl;have:=i2 _ rfl;have:=i3 _ rfl;have:=show Z1j.size=3 by decide
   have:=show Z0t.size=5 by decide
   have:=show Zt.size=7 by decide
   first
    | (simp only [Zx,Z0i,Z0h,Z0l,Z0k,Z02,Zv,Tree.many] at *; omega)
    | (simp only [Zx,Z0i,Z0h,Z0l,Z0k,Z02,Zv,Tree.many]; omega)
 | empty =>
   refine LG.ofS (by simp) ?_;rw [Zd1]
   first
    | (simp only [Zx,Z0i,Z0h,Z0l,Z0k,Z02,Zv,Tree.many] at *; omega)
    | (simp only [Zx,Z0i,Z0h,Z0l,Z0k,Z02,Zv,Tree.many]; omega)
 | expr g1 i1 =>
   refine LG.ofS (by simp) ?_;rename_i x;rw [Zgm];have:=i1 _ rfl 0;have:=Zc1 (Z6v (Zd (vP x 0))) (vP x 0);unfold Zhh;simp only [Zx,Z0i,Z0h,Z0l,Z0k,Z02,Zv,Tree.many];omega
 | snil=>exact ⟨fun f=>by rw [Z8x,Z02]; omega,by show lenP []≤_; rw [Z02]; omega⟩
 | scons g1 g2 i1 i2 =>
   have h1:=i1 _ rfl;have h3:=i2.2;refine ⟨fun f=>?_,?_⟩
   ·rw [Z6f,Zx,Zx];have:=Zfh f;have:=i2.1 false;simp only [Zv];omega
   ·rw [pP,Zx,Z0i];simp only [Zv];omega
theorem Zhg {l:List Tree} (h:Wf .sl l):(Zd (pP l)).length≤2000 * Zv l:=(Z4x h).2
theorem Zdr (L M:List Tree):pP (L ++ M)=pP L ++ pP M:=by
 induction L with
 | nil=>rfl
 | cons y L ih=>rw [List.cons_append,pP,pP,ih]; simp
theorem Ziw (w:World) (hB:Tabs w) (Bt:Nat) (a:ATree) (hT:TreeAt w Bt a) (hl:Wf .sl (Zr a.kids)) (hm:Zv (Zr a.kids)≤10000) :
 Calls Tryz.prog 8 #[a.ptr] w fun e w'=>e=.returned (.string (Zh5 (Zr a.kids)))∧Below w.heap.size w w':=by
 have hft:=Zhg hl;have hst:=Zjh hB hl;have c3:=hT.c3;have hV:=Z4k hT;have hL:∀ x∈a.kids,Z2b w x:=fun x hx=>(hst (by omega) Bt a.kids rfl (fun y hy=>hT.kid hy) x hx).1 rfl;have hlt:=hT.lt;have hlen:a.kids.length≤100000:=by
  have:=Z2y (Zr a.kids);rw [Z2p] at this;omega
 obtain ⟨L,hLL⟩:=zX a.kids
 rw [← hLL] at hL hft hV hlen hm ⊢;clear hLL;obtain ⟨p,cp,hpv,hge,hmx,hk⟩:=hV;rw [hpv] at c3;have HK:=lh hk;have HL:=lh hL;have HF:Hid ((Zd (pP (Zr L))).length≤20000000):=lh (by have:=Z2y (Zr L); omega);obtain ⟨n,hn⟩:=zX L.length
 have HN:=lh hn;rw [← hn] at hge hlen c3;unfold maxLen at hmx;have hWn:BW w w.heap.size w.heap.size [] (w.alloc (.cells #[.pointer none,.slice none 0 0] 69)):=⟨(BAt.new w).is,(Y8 _ _).alloc (Y5 _) _,Y5 _,by rw [World.size_alloc]; omega⟩
 have HWN:=lh hWn;have y3:=hWn.cell c3;unfold ATree.ptr Zh5 toB;clear hWn hft hst hk hL hn hpv hT hm hl hB;go_enter Tryz.func8,Tryz.ntmps8
 go_wp2_with fail
 go_loopw [13] (fun i wr=>∃ k:Nat,k≤n∧i=.int .i64 k∧Hid (BW w w.heap.size w.heap.size (Zd (pP (Zr (L.take k)))) wr)) (fun i _=>n - (intOf i).toNat)
 case atStart=>exact ⟨0,by omega,rfl,HWN⟩
 case round=>
  obtain ⟨k,hkn,rfl,HWk⟩:=hrel;clear HWN;by_cases hlt:k < n
  ·obtain ⟨x, hx⟩ : ∃ x, L[k]? = some x := ⟨_, Yd (by rw [← HN.out]; exact hlt)⟩
   obtain ⟨g,off,rfl,hc⟩:=HK.out k x hx;have cx:=HWk.out.cell hc;have hWx:=(HL.out x (Yl hx)).says;have htk:L.take (k + 1)=L.take k ++ [x]:=by rw [List.take_add_one,hx]; rfl
   have hsn:Zd (pP (Zr (L.take (k + 1))))=Zd (pP (Zr (L.take k))) ++ (Zd (sP x.tree) ++ [10]):=by
    rw [htk,Z2k,show Zr [x]=[x.tree] from rfl,Zdr,Z7,pP,Z7]; rfl
   have hpre:(Zd (pP (Zr (L.take (k + 1))))).length≤(Zd (pP (Zr L))).length:=by
    have h:Zr L=Zr (L.take (k + 1)) ++ Zr (L.drop (k + 1)):=by rw [← Z2k,List.take_append_drop]
    rw [h,Zdr,Z7,Yq]; omega
   obtain ⟨P,hP⟩:=zX (Zd (pP (Zr (L.take k))))
   obtain ⟨X,hX⟩:=zX (Zd (sP x.tree))
   have hft:=HF.out;rw [hsn,← hP,← hX] at hpre;simp only [zL,zM,zN] at hpre;have hbd:P.length + X.length + 1≤20000000:=by omega
   have HBD:=lh hbd;have HSN:=lh hsn;have HPX:=lh (And.intro hP hX);rw [← hP] at HWk;rw [← hX] at hWx;have HWX:=lh hWx;unfold ATree.ptr at cx;have hkI:((k:Nat):Int) < (n:Int):=by omega
   clear hc htk hsn hpre hft hbd hP hX hWx hx;go_wp2_with fail
   refine (HWX.out w.heap.size w.heap.size _ _ HWk.out (by have:=HBD.out; omega)).mono ?_;rintro e' w2 ⟨rfl,hw2,hb2⟩;have HW2:=lh hw2;clear hw2 hb2;go_wp2_with fail
   refine (HW2.out.byte 10 (by have:=HBD.out; rw [Yq]; omega)).mono ?_;rintro e' w3 ⟨rfl,hw3,hb3⟩;have HW3:=lh hw3;clear hw3 hb3;go_wp2;go_roundw
   case rel=>exact ⟨k + 1,by omega,rfl,lh (by have h:=HW3.out; rw [HSN.out,← HPX.out.1,← HPX.out.2]; simpa using h)⟩
   case measure=>simp [intOf]; omega
  ·have hkn2 : k = n := by omega
   subst hkn2;have HWn:Hid (BW w w.heap.size w.heap.size (Zd (pP (Zr L))) wr):=lh (by
    have h:=HWk.out;rwa [Ym (by rw [HN.out]; exact Y5 _)] at h)
   clear HWk HF;go_wp2_with fail
   refine (Tryz.Builder_String_any w.heap.size w.heap.size _ wr HWn.out.is HWn.out.sz).mono ?_;rintro e w3 ⟨rfl,hn3⟩;have HB3:Hid (Below w.heap.size w w3):=lh (HWn.out.bel.trans hn3);clear hn3;go_wp2;go_ret;exact ⟨rfl,HB3.out⟩
theorem bext {a b:ByteArray} (h:a.data.toList=b.data.toList):a=b:=by
 obtain ⟨⟨a⟩⟩:=a;obtain ⟨⟨b⟩⟩:=b;simpa using h
theorem Zm (l:List Pc):(toB l).data.toList=Zd l:=rfl
theorem Z2q (l:List Pc):(toB l).size=lenP l:=rfl
def vbT:Tree→List Pc
 | .mk k t n ks=>vbP k t n ks
section
variable {w0:World} {a:ATree} {X Y:ByteArray}
theorem RV.cast (h:RV w0 a X) (e:X.data.toList=Y.data.toList):RV w0 a Y:=by rw [← bext e]; exact h
theorem RS'.cast (h:RS' w0 a X) (e:X.data.toList=Y.data.toList):RS' w0 a Y:=by rw [← bext e]; exact h
theorem RA.cast {k:Int} (h:RA w0 a k X) (e:X.data.toList=Y.data.toList):RA w0 a k Y:=by rw [← bext e]; exact h
end
theorem Zm7 (t:Tree) (need:Int):vP t need=Z9j (decide (Zo t.kind < need)) (vbT t):=by cases t; exact Zk5 need
theorem Zc2 (k:Int):0≤Zo k:=by
 unfold Zo;repeat' split
 all_goals decide
theorem Z3e (t:Tree):vP t 0=vbT t:=by
 rw [Zm7,decide_eq_false (by have:=Zc2 t.kind; omega)];rfl
theorem Zk8:∀ (l:List Tree),Zd (lP true l)=Lib.join (l.map fun t=>Zd (vbT t)) [44,32]:=by
 have h2:∀ (l:List Tree),Zd (lP false l)=(l.map fun t=>[44,32] ++ Zd (vbT t)).flatten:=by
  intro l;induction l with
  | nil=>rw [Z7h]; rfl
  | cons x l ih=>rw [Z5c,Z7,Z7,ih,Z3e]; simp [sepP,Zd,Pc.bytes]
 have h3:∀ (x:List UInt8) (l:List (List UInt8)),Lib.join (x :: l) [44,32]=x ++ (l.map fun t=>[44,32] ++ t).flatten:=by
  intro x l;induction l generalizing x with
  | nil=>simp [Lib.join,List.intercalate]
  | cons y l ih =>
    have:=ih y;simp only [Lib.join,List.intercalate,List.intersperse_cons_cons,List.flatten_cons,List.map_cons] at this ⊢;rw [this];simp
 intro l;cases l with
 | nil=>rw [Z7h]; rfl
 | cons x l =>
   rw [Z5c,Z7,Z7,h2,Z3e,List.map_cons,h3];simp [sepP,Zj,Function.comp_def]
theorem Zkx:∀ (l:List Tree),Zd (bP true l)=Lib.join (l.map fun t=>Zd (sP t)) [32]:=by
 have h2:∀ (l:List Tree),Zd (bP false l)=(l.map fun t=>[32] ++ Zd (sP t)).flatten:=by
  intro l;induction l with
  | nil=>rw [Z8x]; rfl
  | cons x l ih=>rw [Z6f,Z7,Z7,ih]; simp [sepP,Zd,Pc.bytes]
 have h3:∀ (x:List UInt8) (l:List (List UInt8)),Lib.join (x :: l) [32]=x ++ (l.map fun t=>[32] ++ t).flatten:=by
  intro x l;induction l generalizing x with
  | nil=>simp [Lib.join,List.intercalate]
  | cons y l ih =>
    have:=ih y;simp only [Lib.join,List.intercalate,List.intersperse_cons_cons,List.flatten_cons,List.map_cons] at this ⊢;rw [this];simp
 intro l;cases l with
 | nil=>rw [Z8x]; rfl
 | cons x l =>
   rw [Z6f,Z7,Z7,h2,List.map_cons,h3];simp [sepP,Zj,Function.comp_def]
theorem Zgk (L:List ATree):Z6p (L.map fun x=>toB (vbT x.tree)) ⟨#[44,32]⟩=toB (lP true (Zr L)):=by
 apply bext;rw [Zm,Zk8,Z27,List.map_map];simp [Z6p,Function.comp_def,toB]
theorem Zao (L:List ATree):Z6p (L.map fun x=>toB (sP x.tree)) ⟨#[32]⟩=toB (bP true (Zr L)):=by
 apply bext;rw [Zm,Zkx,Z27,List.map_map];simp [Z6p,Function.comp_def,toB]
theorem Zaq {P:ATree→ByteArray→Prop} {f:ATree→ByteArray} {L:List ATree} (h:∀ x∈L,P x (f x)):Each P L (L.map f):=
 ⟨by simp,fun i x hx=>⟨f x,by rw [Yo,hx]; rfl,h x (Yl hx)⟩⟩
def DG (w0:World) (c:Srt) (l:List Tree):Prop:=Zv l≤1500→∀ (Bt:Nat) (L:List ATree),Zr L=l→(∀ x∈L,TreeAt w0 Bt x)→∀ x∈L,(c.st=true→RS' w0 x (toB (sP x.tree)))∧(c.st=false→RV w0 x (toB (vbT x.tree)))
section
variable {w0:World} {t:Tree} {l:List Tree} {Bt:Nat} {a:ATree} {c:Srt}
theorem DG.v (h:DG w0 c [t]) (e:a.tree=t) (hT:TreeAt w0 Bt a) (hm:t.many≤1500) (hc:c.st=false):RV w0 a (toB (vbT t)):=by
 have:=(h (by rw [Z42]; exact hm) Bt [a] (by rw [← e]; rfl) (by simpa using hT) a (by simp)).2 hc;rwa [e] at this
theorem DG.s (h:DG w0 c [t]) (e:a.tree=t) (hT:TreeAt w0 Bt a) (hm:t.many≤1500) (hc:c.st=true):RS' w0 a (toB (sP t)):=by
 have:=(h (by rw [Z42]; exact hm) Bt [a] (by rw [← e]; rfl) (by simpa using hT) a (by simp)).1 hc;rwa [e] at this
theorem DG.ofV (hc:c.st=false) (h:t.many≤1500→∀ (Bt:Nat) (a:ATree),a.tree=t→TreeAt w0 Bt a→RV w0 a (toB (vbT t))):DG w0 c [t]:=by
 intro hm Bt L hL hT x hx;obtain ⟨a,L',rfl,ha,h2⟩:=Zg hL;have h3:=Zy h2;subst h3;have:x=a:=by simpa using hx
 subst this;exact ⟨fun e=>by (rw [hc] at e; cases e),fun _=>by rw [ha]; exact h (by rw [Z42] at hm; exact hm) Bt x ha (hT x hx)⟩
theorem DG.ofS (hc:c.st=true) (h:t.many≤1500→∀ (Bt:Nat) (a:ATree),a.tree=t→TreeAt w0 Bt a→RS' w0 a (toB (sP t))):DG w0 c [t]:=by
 intro hm Bt L hL hT x hx;obtain ⟨a,L',rfl,ha,h2⟩:=Zg hL;have h3:=Zy h2;subst h3;have:x=a:=by simpa using hx
 subst this;exact ⟨fun _=>by rw [ha]; exact h (by rw [Z42] at hm; exact hm) Bt x ha (hT x hx),fun e=>by (rw [hc] at e; cases e)⟩
theorem DG.mv {k n:Int} {s:ByteArray} {ks:List Tree} (hc:c.st=false) (h:Zv ks + 1≤1500→∀ (Bt:Nat) (a:ATree),TreeAt w0 Bt a→a.kind=k→a.text=s→a.n=n→Zr a.kids=ks→RV w0 a (toB (vbT (.mk k s n ks)))):DG w0 c [.mk k s n ks]:=
 DG.ofV hc fun hm Bt a ha hT=>by
  obtain ⟨k1,k2,k3,k4⟩:=Z0p ha;exact h (by simp only [Tree.many] at hm; omega) Bt a hT k1 k2 k3 k4
theorem DG.ms {k n:Int} {s:ByteArray} {ks:List Tree} (hc:c.st=true) (h:Zv ks + 1≤1500→∀ (Bt:Nat) (a:ATree),TreeAt w0 Bt a→a.kind=k→a.text=s→a.n=n→Zr a.kids=ks→RS' w0 a (toB (sP (.mk k s n ks)))):DG w0 c [.mk k s n ks]:=
 DG.ofS hc fun hm Bt a ha hT=>by
  obtain ⟨k1,k2,k3,k4⟩:=Z0p ha;exact h (by simp only [Tree.many] at hm; omega) Bt a hT k1 k2 k3 k4
theorem DG.cons {c':Srt} (hc:c'.st=c.st) (h1:DG w0 c' [t]) (h2:DG w0 c l):DG w0 c (t :: l):=by
 intro hm Bt L hL hT x hx;simp only [Zv] at hm;obtain ⟨a,L',rfl,ha,e2⟩:=Zg hL;rcases List.mem_cons.1 hx with rfl | hx2
 ·have:=h1 (by rw [Z42]; omega) Bt [x] (by rw [← ha]; rfl) (by simpa using hT x (by simp)) x (by simp);rwa [hc] at this
 ·exact h2 (by omega) Bt L' e2 (fun y hy=>hT y (by simp [hy])) x hx2
theorem DG.nil:DG w0 c []:=by
 intro hm Bt L hL hT x hx;have h3:=Zy hL;subst h3;cases hx
theorem DG.as {c':Srt} (hc:c'.st=c.st) (h:DG w0 c' l):DG w0 c l:=by
 intro hm Bt L hL hT x hx;have:=h hm Bt L hL hT x hx;rwa [hc] at this
theorem Zby {t:Tree} (h:Wf .v [t]) (need:Int):(toB (vP t need)).size≤2000 * t.many:=by have:=Z4x h t rfl need; rw [Z2q]; omega
theorem Z5o {t:Tree} (h:Wf .v [t]):(toB (vbT t)).size≤2000 * t.many:=by have:=Z4x h t rfl 0; rw [Z3e] at this; rw [Z2q]; omega
theorem Z5b {c:Srt} {t:Tree} (hc:c=.s∨c=.b∨c=.k) (h:Wf c [t]):(toB (sP t)).size≤2000 * t.many:=by
 have:=Z4x h;rw [Z2q];rcases hc with rfl | rfl | rfl;all_goals (have:=this t rfl; omega)
theorem DG.av (h:DG w0 c [t]) (hw:Wf .v [t]) (e:a.tree=t) (hT:TreeAt w0 Bt a) (hm:t.many≤1500) (hc:c.st=false) (need:Int):RA w0 a need (toB (vP t need)):=by
 have hv:=h.v e hT hm hc;have hk:a.kind=t.kind:=by rw [← e]; cases a; rfl
 rw [Zm7];by_cases hn:Zo t.kind < need
 ·have:=Zir a hT need _ hv (by rw [hk]; exact hn) (by have:=Z5o hw; omega);rw [decide_eq_true hn];exact this.cast (by simp [Zm,Z9j,Z4,Z7,Zj,Pc.bytes])
 ·rw [decide_eq_false hn];exact Zf8 a hT need _ hv (by rw [hk]; exact hn)
theorem DG.lv (h:DG w0 c l) (hc:c.st=false) (hm:Zv l≤1500) {L:List ATree} (e:Zr L=l) (hT:∀ x∈L,TreeAt w0 Bt x) (hl:lenP (lP true l)≤2000 * Zv l) (v:Value) (hV:Z4d w0 v L):RL w0 v (toB (lP true l)):=by
 have hE:Each (RV w0) L (L.map fun x=>toB (vbT x.tree)):=Zaq fun x hx=>(h (by omega) Bt L e hT x hx).2 hc;have hll:L.length≤1500:=by have:=Z2y l; have h2:l.length=L.length:=(by rw [← e,Z2p]); omega
 have hr:=Zmj L _ hE hll (by rw [Zgk,e,Z2q]; omega) v hV;rwa [Zgk,e] at hr
end
theorem Z4p {s:ByteArray} (h:Z3r s):s.size≤100000000:=by have:=h.2.1; omega
theorem Zeo {t:Tree} (h:Wf .v [t]):Zd (vbT t)≠[]:=by
 cases h with
 | num h1 h2 =>
   rw [vbT,Zdi];have:∀ n:Int,Lib.itoa n≠[]:=fun n=>by
    have hd:∀ u,Lib.decDigits u≠[]:=fun u=>by rw [Lib.decDigits]; split <;> simp
    unfold Lib.itoa;split;·simp
    ·exact hd _
   simpa [Z4,Zj,Pc.bytes] using this _
 | str h1=>rw [vbT,Zdx]; simp [Z4,Zj,Pc.bytes,Z58]
 | con h1 h2 =>
   rw [vbT,Z90 h1 h2];unfold Z9w;repeat' split
   all_goals simp [Z4,Zj,Pc.bytes,Z45,Z36,Z4q,Z1o]
 | name h1 =>
   rw [vbT,Z7p];intro e;have h0:=h1.1;rename_i s;have hl:(Zd [nm s]).length=s.size:=by simp [Z4,Zj,Pc.bytes]
   have:s.size=0:=by rw [← hl,e]; rfl
   omega
 | set h0 h1 h2=>rw [vbT,Zdf]; simp [Z4,Z7,Pc.bytes]
 | two h1 h2 g1 g2 =>
   rename_i k x y;rw [vbT,Ze0 h1 h2];have hs:Zd (sgnP k)≠[]:=by
    have:k=25∨k=26∨k=27∨k=28∨k=29∨k=30∨k=31:=by omega
    rcases this with rfl | rfl | rfl | rfl | rfl | rfl | rfl <;> simp [sgnP,Z4,Pc.bytes]
   simp [Z7,hs]
 | one h1 h2 g1 =>
   rename_i k x;rw [vbT,Za8 h1 h2];have hs:Zd (sgnP k)≠[]:=by
    have:k=32∨k=33∨k=34:=by omega
    rcases this with rfl | rfl | rfl <;> simp [sgnP,Z4,Zj,Pc.bytes,Z1l,Z1t]
   simp [Z7,hs]
 | mem h1 g1=>rw [vbT,Zdt]; simp [Z4,Z7,Pc.bytes]
 | call g1 g2=>rw [vbT,Z8o]; simp [Z4,Z7,Pc.bytes]
 | lam h1 g1 g2=>rw [vbT,Zc4]; simp [fnP,Z4,Pc.bytes,Ze]
 | obj g1=>rw [vbT,Zdh]; simp [Z4,Pc.bytes]
theorem Zml {w0:World} (hP:Pow w0) {c:Srt} {l:List Tree} (h:Wf c l):DG w0 c l:=by
 induction h with
 | @num n h1 h2 =>
   refine DG.mv rfl fun hm Bt a hT k1 k2 k3 k4=>?_;try simp only [Tree.many,Zv] at hm
   have h:=Zms a hT k1 (by rw [k3]; exact h1) (by rw [k3]; exact h2) hP;exact h.cast (by rw [k3]; simp [Zm,vbT,Zdi,Z4,Zj,Pc.bytes])
 | str h1 =>
   refine DG.mv rfl fun hm Bt a hT k1 k2 k3 k4=>?_;try simp only [Tree.many,Zv] at hm
   have h:=Zmq a hT k1 (by rw [k2]; exact h1);exact h.cast (by rw [k2]; simp [Zm,vbT,Zdx,Z4,Zj,Pc.bytes])
 | @con k h1 h2 =>
   refine DG.mv rfl fun hm Bt a hT k1 k2 k3 k4=>?_;try simp only [Tree.many,Zv] at hm
   have:k=19∨k=20∨k=21∨k=22:=by omega
   rcases this with rfl | rfl | rfl | rfl;·exact (Ziu a hT k1).cast (by rw [Zm,vbT,Z90 (by omega) (by omega)]; rfl)
   ·exact (Zi5 a hT k1).cast (by rw [Zm,vbT,Z90 (by omega) (by omega)]; rfl)
   ·exact (Zio a hT k1).cast (by rw [Zm,vbT,Z90 (by omega) (by omega)]; rfl)
   ·exact (Zii a hT k1).cast (by rw [Zm,vbT,Z90 (by omega) (by omega)]; rfl)
 | name h1 =>
   refine DG.mv rfl fun hm Bt a hT k1 k2 k3 k4=>?_;try simp only [Tree.many,Zv] at hm
   exact (Zgq a hT k1).cast (by rw [k2]; simp [Zm,vbT,Z7p,Z4,Zj,Pc.bytes])
 | @set x0 y0 h0 h1 h2 i1 i2 =>
   refine DG.mv rfl fun hm Bt a hT k1 k2 k3 k4=>?_;try simp only [Tree.many,Zv] at hm
   obtain ⟨x,r0,e0,t0,k4⟩:=Zg k4;obtain ⟨y,r1,e1,t1,k4⟩:=Zg k4;have k4:=Zy k4;subst k4;subst e1;have hk:=e0;have Tx:TreeAt w0 Bt x:=hT.kid (by rw [hk]; simp);have Ty:TreeAt w0 Bt y:=hT.kid (by rw [hk]; simp);exact (Zm1 a hT k1 x y hk _ _ (i1.av h1 t0 Tx (by omega) rfl 8) (i2.v t1 Ty (by omega) rfl) (by have:=Zby h1 8; omega) (by have:=Z5o h2; omega)).cast (by rw [Zm,vbT,Zdf,Z3e y0]; simp [Zm,Z4,Z7,Zj,Pc.bytes])
 | @two k x0 y0 h1 h2 g1 g2 i1 i2 =>
   refine DG.mv rfl fun hm Bt a hT k1 k2 k3 k4=>?_;try simp only [Tree.many,Zv] at hm
   obtain ⟨x,r0,e0,t0,k4⟩:=Zg k4;obtain ⟨y,r1,e1,t1,k4⟩:=Zg k4;have k4:=Zy k4;subst k4;subst e1;have hk:=e0;have Tx:TreeAt w0 Bt x:=hT.kid (by rw [hk]; simp);have Ty:TreeAt w0 Bt y:=hT.kid (by rw [hk]; simp);have:k=25∨k=26∨k=27∨k=28∨k=29∨k=30∨k=31:=by omega
   obtain ⟨L,sg,hK,hsg,hL⟩:∃ (L:Int) (sg:ByteArray),((k=25∧L=1∧sg=⟨#[124,124]⟩)∨(k=26∧L=2∧sg=⟨#[38,38]⟩)∨(k=27∧L=3∧sg=⟨#[61,61,61]⟩)∨(k=28∧L=4∧sg=⟨#[60]⟩)∨(k=29∧L=5∧sg=⟨#[43]⟩)∨(k=30∧L=5∧sg=⟨#[45]⟩)∨(k=31∧L=6∧sg=⟨#[42]⟩))∧Zd (sgnP k)=32 :: (sg.data.toList ++ [32])∧Zo k=L:=by
    rcases this with rfl | rfl | rfl | rfl | rfl | rfl | rfl;all_goals exact ⟨_,_,by simp; exact ⟨rfl,rfl⟩,by simp [sgnP,Z4,Zj,Pc.bytes,s_or,Z5n,Z3h],by decide⟩
   refine (Zlv a hT k L sg hK k1 x y hk _ _ (i1.av g1 t0 Tx (by omega) rfl L) (i2.av g2 t1 Ty (by omega) rfl (L + 1)) (by have:=Zby g1 L; omega) (by have:=Zby g2 (L + 1); omega)).cast ?_;rw [Zm,vbT,Ze0 (by omega) (by omega),hL,Z7,Z7,hsg];simp [Zm]
 | @one k x0 h1 h2 g1 i1 =>
   refine DG.mv rfl fun hm Bt a hT k1 k2 k3 k4=>?_;try simp only [Tree.many,Zv] at hm
   obtain ⟨x,r0,e0,t0,k4⟩:=Zg k4;have k4:=Zy k4;subst k4;have hk:=e0;have Tx:TreeAt w0 Bt x:=hT.kid (by rw [hk]; simp);have:k=32∨k=33∨k=34:=by omega
   rcases this with rfl | rfl | rfl;·exact (Zmk a hT k1 x hk _ (i1.av g1 t0 Tx (by omega) rfl 7) (by have:=Zby g1 7; omega)).cast (by rw [Zm,vbT,Za8 (by omega) (by omega)]; simp [Zm,Z4,Z7,Zj,Pc.bytes,sgnP,Z1l,Z1t])
   ·exact (Zg4 a hT k1 x hk _ (i1.av g1 t0 Tx (by omega) rfl 7) (by have:=Zby g1 7; omega)).cast (by rw [Zm,vbT,Za8 (by omega) (by omega)]; simp [Zm,Z4,Z7,Zj,Pc.bytes,sgnP,Z1l,Z1t])
   ·exact (Zfk a hT k1 x hk _ (i1.av g1 t0 Tx (by omega) rfl 7) (by have:=Zby g1 7; omega)).cast (by rw [Zm,vbT,Za8 (by omega) (by omega)]; simp [Zm,Z4,Z7,Zj,Pc.bytes,sgnP,Z1l,Z1t])
 | @mem s x0 h1 g1 i1 =>
   refine DG.mv rfl fun hm Bt a hT k1 k2 k3 k4=>?_;try simp only [Tree.many,Zv] at hm
   obtain ⟨x,r0,e0,t0,k4⟩:=Zg k4;have k4:=Zy k4;subst k4;have hk:=e0;have Tx:TreeAt w0 Bt x:=hT.kid (by rw [hk]; simp);exact (Zmm a hT k1 x hk _ (i1.av g1 t0 Tx (by omega) rfl 8) (by have:=Zby g1 8; omega) (by rw [k2]; exact Z4p h1)).cast (by rw [k2,Zm,vbT,Zdt]; simp [Zm,Z4,Z7,Zj,Pc.bytes])
 | @call x0 l g1 g2 i1 i2 =>
   refine DG.mv rfl fun hm Bt a hT k1 k2 k3 k4=>?_;try simp only [Tree.many,Zv] at hm
   obtain ⟨x,L,hk,t0,k4⟩:=Zg k4;have Tx:TreeAt w0 Bt x:=hT.kid (by rw [hk]; simp);have hLl:L.length≤1500:=by
    have:=Z2y l;have h2:l.length=L.length:=by rw [← k4,Z2p]
    omega
   have hl:∀ v,Z4d w0 v L→RL w0 v (toB (lP true l)):=fun v hv=>i2.lv rfl (by omega) k4 (fun y hy=>hT.kid (by rw [hk]; simp [hy])) (Z4x g2 true) v hv;exact (Zlj a hT k1 x L hk _ _ (i1.av g1 t0 Tx (by omega) rfl 8) hl (by have:=Zby g1 8; omega) (by have:=Z4x g2 true; rw [Z2q]; omega) hLl).cast (by rw [Zm,vbT,Z8o]; simp [Zm,Z4,Z7,Zj,Pc.bytes])
 | @lam s l b h1 g1 g2 i1 i2 =>
   refine DG.mv rfl fun hm Bt a hT k1 k2 k3 k4=>?_;try simp only [Tree.many,Zv] at hm
   obtain ⟨p,r0,e0,t0,k4⟩:=Zg k4;obtain ⟨q,r1,e1,t1,k4⟩:=Zg k4;have k4:=Zy k4;subst k4;subst e1;have hk:=e0;have Tp:TreeAt w0 Bt p:=hT.kid (by rw [hk]; simp);have Tq:TreeAt w0 Bt q:=hT.kid (by rw [hk]; simp);obtain ⟨p1,p2,p3,p4⟩:=Z0p t0;have hl:RL w0 p.v (toB (lP true l)):=i1.lv rfl (by omega) p4 (fun y hy=>Tp.kid hy) (Z4x g1 true) _ (Z4k Tp);have hs:=i2.s t1 Tq (by omega) rfl;have z1:(toB (lP true l)).size≤100000000:=by have:=Z4x g1 true; rw [Z2q]; omega
   have z2:(toB (sP b)).size≤100000000:=by have:=Z5b (.inr (.inl rfl)) g2; omega
   by_cases hz:s.size=0
   ·have hse:s=ByteArray.empty:=ByteArray.size_eq_zero_iff.1 hz;subst hse;exact (Zln a hT k1 p q hk _ _ hl hs Tp z1 z2 k2).cast (by rw [Zm,vbT,Zc4]; simp [Zm,Z4,Z7,Zj,Pc.bytes,fnP,Ze])
   ·have hn:Z3r s:=by
     rcases h1 with rfl | h1;·exact absurd rfl hz
     ·exact h1
    exact (Zi7 a hT k1 p q hk _ _ hl hs Tp z1 z2 (by rw [k2]; exact hz) (by rw [k2]; exact Z4p hn)).cast (by rw [k2,Zm,vbT,Zc4]; unfold fnP; rw [Y9 hz]; simp [Zm,Z4,Z7,Zj,Pc.bytes,Ze])
 | @obj l g1 i1 =>
   refine DG.mv rfl fun hm Bt a hT k1 k2 k3 k4=>?_;try simp only [Tree.many,Zv] at hm
   have hl:RL w0 a.v (toB (lP true l)):=i1.lv rfl (by omega) k4 (fun y hy=>hT.kid hy) (Z4x g1 true) _ (Z4k hT);exact (Zmr a hT k1 _ hl (by have:=Z4x g1 true; rw [Z2q]; omega)).cast (by rw [Zm,vbT,Zdh]; simp [Zm,Z4,Z7,Zj,Pc.bytes])
 | vnil=>exact DG.nil
 | vcons _ _ i1 i2=>exact i1.cons rfl i2
 | onil=>exact DG.nil
 | @ocons s x0 l h1 g1 g2 i1 i2 =>
   refine DG.cons (c':=.v) rfl ?_ i2;refine DG.mv rfl fun hm Bt a hT k1 k2 k3 k4=>?_;try simp only [Tree.many,Zv] at hm
   obtain ⟨x,r0,e0,t0,k4⟩:=Zg k4;have k4:=Zy k4;subst k4;have hk:=e0;have Tx:TreeAt w0 Bt x:=hT.kid (by rw [hk]; simp);exact (Zlg a hT k1 x hk _ (i1.v t0 Tx (by omega) rfl) (by have:=Z5o g1; omega) (by rw [k2]; exact Z4p h1)).cast (by rw [k2,Zm,vbT,Zcx,Z3e]; simp [Zm,Z4,Z7,Zj,Pc.bytes])
 | pnil=>exact DG.nil
 | pcons h1 _ i2 =>
   refine DG.cons (c':=.v) rfl ?_ i2;refine DG.mv rfl fun hm Bt a hT k1 k2 k3 k4=>?_;try simp only [Tree.many,Zv] at hm
   exact (Zgq a hT k1).cast (by rw [k2]; simp [Zm,vbT,Z7p,Z4,Zj,Pc.bytes])
 | @body l g1 i1 =>
   refine DG.ms rfl fun hm Bt a hT k1 k2 k3 k4=>?_;try simp only [Tree.many,Zv] at hm
   have hE:Each (RS' w0) a.kids (a.kids.map fun x=>toB (sP x.tree)):=Zaq fun x hx=>(i1 (by omega) Bt a.kids k4 (fun y hy=>hT.kid hy) x hx).1 rfl;have hll:a.kids.length≤1500:=by have:=Z2y l; have h2:l.length=a.kids.length:=(by rw [← k4,Z2p]); omega
   exact (Ze2 a hT k1 a.kids rfl _ hE hll (by rw [Zao,k4,Z2q]; have:=(Z4x g1).1 true; omega)).cast (by rw [Zao,k4,Zm,Z8p]; simp [Zm,Z4,Z7,Zj,Pc.bytes])
 | @block l g1 i1 =>
   refine DG.ms rfl fun hm Bt a hT k1 k2 k3 k4=>?_;try simp only [Tree.many,Zv] at hm
   have hE:Each (RS' w0) a.kids (a.kids.map fun x=>toB (sP x.tree)):=Zaq fun x hx=>(i1 (by omega) Bt a.kids k4 (fun y hy=>hT.kid hy) x hx).1 rfl;have hll:a.kids.length≤1500:=by have:=Z2y l; have h2:l.length=a.kids.length:=(by rw [← k4,Z2p]); omega
   exact (Ze2 a hT k1 a.kids rfl _ hE hll (by rw [Zao,k4,Z2q]; have:=(Z4x g1).1 true; omega)).cast (by rw [Zao,k4,Zm,Z8p]; simp [Zm,Z4,Z7,Zj,Pc.bytes])
 | @decl0 k s h0 h1 =>
   refine DG.ms rfl fun hm Bt a hT k1 k2 k3 k4=>?_;try simp only [Tree.many,Zv] at hm
   have k4:=Zy k4;have hk:=k4;rcases h0 with rfl | rfl;·exact (Zfj a hT _ ⟨#[118,97,114,32]⟩ (by simp) k1 hk (by rw [k2]; exact Z4p h1)).cast (by rw [k2,Zm,Zan (by omega)]; simp [Zm,Z4,Z7,Zj,Pc.bytes,Z2w,Z19,Z1c,Z06,s_if,Zz,Z0d,Z08,Z0s,Z1y,Z1j,Z0t,Zt])
   ·exact (Zfj a hT _ ⟨#[108,101,116,32]⟩ (by simp) k1 hk (by rw [k2]; exact Z4p h1)).cast (by rw [k2,Zm,Zan (by omega)]; simp [Zm,Z4,Z7,Zj,Pc.bytes,Z2w,Z19,Z1c,Z06,s_if,Zz,Z0d,Z08,Z0s,Z1y,Z1j,Z0t,Zt])
 | @decl1 k s x0 h0 h1 g1 i1 =>
   refine DG.ms rfl fun hm Bt a hT k1 k2 k3 k4=>?_;try simp only [Tree.many,Zv] at hm
   obtain ⟨x,r0,e0,t0,k4⟩:=Zg k4;have k4:=Zy k4;subst k4;have hk:=e0;have Tx:TreeAt w0 Bt x:=hT.kid (by rw [hk]; simp);rcases h0 with rfl | rfl | rfl;·exact (Zap a hT _ ⟨#[118,97,114,32]⟩ (by simp) k1 x hk _ (rval a hT x 0 (by rw [hk]; rfl) _ (i1.v t0 Tx (by omega) rfl) (by rw [hk]; simp)) (by have:=Z5o g1; omega) (by rw [k2]; exact Z4p h1)).cast (by rw [k2,Zm,Z9c (by omega),Z3e]; simp [Zm,Z4,Z7,Zj,Pc.bytes,Z2w,Z19,Z1c,Z06,s_if,Zz,Z0d,Z08,Z0s,Z1y,Z1j,Z0t,Zt])
   ·exact (Zap a hT _ ⟨#[108,101,116,32]⟩ (by simp) k1 x hk _ (rval a hT x 0 (by rw [hk]; rfl) _ (i1.v t0 Tx (by omega) rfl) (by rw [hk]; simp)) (by have:=Z5o g1; omega) (by rw [k2]; exact Z4p h1)).cast (by rw [k2,Zm,Z9c (by omega),Z3e]; simp [Zm,Z4,Z7,Zj,Pc.bytes,Z2w,Z19,Z1c,Z06,s_if,Zz,Z0d,Z08,Z0s,Z1y,Z1j,Z0t,Zt])
   ·exact (Zap a hT _ ⟨#[99,111,110,115,116,32]⟩ (by simp) k1 x hk _ (rval a hT x 0 (by rw [hk]; rfl) _ (i1.v t0 Tx (by omega) rfl) (by rw [hk]; simp)) (by have:=Z5o g1; omega) (by rw [k2]; exact Z4p h1)).cast (by rw [k2,Zm,Z9c (by omega),Z3e]; simp [Zm,Z4,Z7,Zj,Pc.bytes,Z2w,Z19,Z1c,Z06,s_if,Zz,Z0d,Z08,Z0s,Z1y,Z1j,Z0t,Zt])
 | @func s l b h1 g1 g2 i1 i2 =>
   refine DG.ms rfl fun hm Bt a hT k1 k2 k3 k4=>?_;try simp only [Tree.many,Zv] at hm
   obtain ⟨p,r0,e0,t0,k4⟩:=Zg k4;obtain ⟨q,r1,e1,t1,k4⟩:=Zg k4;have k4:=Zy k4;subst k4;subst e1;have hk:=e0;have Tp:TreeAt w0 Bt p:=hT.kid (by rw [hk]; simp);have Tq:TreeAt w0 Bt q:=hT.kid (by rw [hk]; simp);obtain ⟨p1,p2,p3,p4⟩:=Z0p t0;have hl:RL w0 p.v (toB (lP true l)):=i1.lv rfl (by omega) p4 (fun y hy=>Tp.kid hy) (Z4x g1 true) _ (Z4k Tp);have hs:=i2.s t1 Tq (by omega) rfl;have z1:(toB (lP true l)).size≤100000000:=by have:=Z4x g1 true; rw [Z2q]; omega
   have z2:(toB (sP b)).size≤100000000:=by have:=Z5b (.inr (.inl rfl)) g2; omega
   have hz:s.size≠0:=by have:=h1.1; omega
   refine Zlo a hT k1 _ ((Zkz a hT k1 p q hk _ _ hl hs Tp z1 z2 (by rw [k2]; exact hz) (by rw [k2]; exact Z4p h1)).cast (Y:=toB (sP _)) ?_);rw [k2,Zm,Zhp];unfold fnP;rw [Y9 hz];simp [Zm,Z4,Z7,Zj,Pc.bytes,Ze]
 | blk g1 i1=>exact i1.as rfl
 | @if2 x0 y0 g1 g2 i1 i2 =>
   refine DG.ms rfl fun hm Bt a hT k1 k2 k3 k4=>?_;try simp only [Tree.many,Zv] at hm
   obtain ⟨x,r0,e0,t0,k4⟩:=Zg k4;obtain ⟨y,r1,e1,t1,k4⟩:=Zg k4;have k4:=Zy k4;subst k4;subst e1;have hk:=e0;have Tx:TreeAt w0 Bt x:=hT.kid (by rw [hk]; simp);have Ty:TreeAt w0 Bt y:=hT.kid (by rw [hk]; simp);exact (Zmi a hT k1 x y hk _ _ (rval a hT x 0 (by rw [hk]; rfl) _ (i1.v t0 Tx (by omega) rfl) (by rw [hk]; simp)) (i2.s t1 Ty (by omega) rfl) (by have:=Z5o g1; omega) (by have:=Z5b (.inl rfl) g2; omega)).cast (by rw [Zm,Zbf (by omega),Z3e]; simp [Zm,Z4,Z7,Zj,Pc.bytes,Z2w,Z19,Z1c,Z06,s_if,Zz,Z0d,Z08,Z0s,Z1y,Z1j,Z0t,Zt])
 | @if3 x0 y0 z0 g1 g2 g3 hd i1 i2 i3 =>
   refine DG.ms rfl fun hm Bt a hT k1 k2 k3 k4=>?_;try simp only [Tree.many,Zv] at hm
   obtain ⟨x,r0,e0,t0,k4⟩:=Zg k4;obtain ⟨y,r1,e1,t1,k4⟩:=Zg k4;obtain ⟨z,r2,e2,t2,k4⟩:=Zg k4;have k4:=Zy k4;subst k4;subst e2;subst e1;have hk:=e0;have Tx:TreeAt w0 Bt x:=hT.kid (by rw [hk]; simp);have Ty:TreeAt w0 Bt y:=hT.kid (by rw [hk]; simp);have Tz:TreeAt w0 Bt z:=hT.kid (by rw [hk]; simp)
   exact (Zm2 a hT k1 x y z hk _ _ _ (rval a hT x 0 (by rw [hk]; rfl) _ (i1.v t0 Tx (by omega) rfl) (by rw [hk]; simp)) (i2.s t1 Ty (by omega) rfl) (i3.s t2 Tz (by omega) rfl) (by have:=Z5o g1; omega) (by have:=Z5b (.inl rfl) g2; omega) (by have:=Z5b (.inl rfl) g3; omega)).cast (by rw [Zm,Zlp,Z3e]; simp [Zm,Z4,Z7,Zj,Pc.bytes,Z2w,Z19,Z1c,Z06,s_if,Zz,Z0d,Z08,Z0s,Z1y,Z1j,Z0t,Zt])
 | @loop k x0 y0 h0 g1 g2 i1 i2 =>
   refine DG.ms rfl fun hm Bt a hT k1 k2 k3 k4=>?_;try simp only [Tree.many,Zv] at hm
   obtain ⟨x,r0,e0,t0,k4⟩:=Zg k4;obtain ⟨y,r1,e1,t1,k4⟩:=Zg k4;have k4:=Zy k4;subst k4;subst e1;have hk:=e0;have Tx:TreeAt w0 Bt x:=hT.kid (by rw [hk]; simp);have Ty:TreeAt w0 Bt y:=hT.kid (by rw [hk]; simp);rcases h0 with rfl | rfl;·exact (Zjl a hT k1 x y hk _ _ (rval a hT x 0 (by rw [hk]; rfl) _ (i1.v t0 Tx (by omega) rfl) (by rw [hk]; simp)) (i2.s t1 Ty (by omega) rfl) (by have:=Z5o g1; omega) (by have:=Z5b (.inl rfl) g2; omega)).cast (by rw [Zm,Zbf (by omega),Z3e]; simp [Zm,Z4,Z7,Zj,Pc.bytes,Z2w,Z19,Z1c,Z06,s_if,Zz,Z0d,Z08,Z0s,Z1y,Z1j,Z0t,Zt])
   ·exact (Zkb a hT k1 x y hk _ _ (rval a hT x 0 (by rw [hk]; rfl) _ (i1.v t0 Tx (by omega) rfl) (by rw [hk]; simp)) (i2.s t1 Ty (by omega) rfl) (by have:=Z5o g1; omega) (by have:=Z5b (.inl rfl) g2; omega)).cast (by rw [Zm,Zbf (by omega),Z3e]; simp [Zm,Z4,Z7,Zj,Pc.bytes,Z2w,Z19,Z1c,Z06,s_if,Zz,Z0d,Z08,Z0s,Z1y,Z1j,Z0t,Zt])
 | ret0 =>
   refine DG.ms rfl fun hm Bt a hT k1 k2 k3 k4=>?_;try simp only [Tree.many,Zv] at hm
   have k4:=Zy k4;have hk:=k4;exact (Zku a hT k1 hk).cast (by rw [Zm,Zga (by omega)]; simp [Zm,Z4,Z7,Zj,Pc.bytes,Z2w,Z19,Z1c,Z06,s_if,Zz,Z0d,Z08,Z0s,Z1y,Z1j,Z0t,Zt])
 | @ret1 k x0 h0 g1 i1 =>
   refine DG.ms rfl fun hm Bt a hT k1 k2 k3 k4=>?_;try simp only [Tree.many,Zv] at hm
   obtain ⟨x,r0,e0,t0,k4⟩:=Zg k4;have k4:=Zy k4;subst k4;have hk:=e0;have Tx:TreeAt w0 Bt x:=hT.kid (by rw [hk]; simp);rcases h0 with rfl | rfl;·exact (Zl9 a hT k1 x hk _ (rval a hT x 0 (by rw [hk]; rfl) _ (i1.v t0 Tx (by omega) rfl) (by rw [hk]; simp)) (by have:=Z5o g1; omega)).cast (by rw [Zm,Zbr (by omega),Z3e]; simp [Zm,Z4,Z7,Zj,Pc.bytes,Z2w,Z19,Z1c,Z06,s_if,Zz,Z0d,Z08,Z0s,Z1y,Z1j,Z0t,Zt])
   ·exact (Zi8 a hT k1 x hk _ (rval a hT x 0 (by rw [hk]; rfl) _ (i1.v t0 Tx (by omega) rfl) (by rw [hk]; simp)) (by have:=Z5o g1; omega)).cast (by rw [Zm,Zbr (by omega),Z3e]; simp [Zm,Z4,Z7,Zj,Pc.bytes,Z2w,Z19,Z1c,Z06,s_if,Zz,Z0d,Z08,Z0s,Z1y,Z1j,Z0t,Zt])
 | @tryc s b c g1 h1 g2 i1 i2 =>
   refine DG.ms rfl fun hm Bt a hT k1 k2 k3 k4=>?_;try simp only [Tree.many,Zv] at hm
   obtain ⟨x,r0,e0,t0,k4⟩:=Zg k4;obtain ⟨y,r1,e1,t1,k4⟩:=Zg k4;have k4:=Zy k4;subst k4;subst e1;have hk:=e0;have Tx:TreeAt w0 Bt x:=hT.kid (by rw [hk]; simp);have Ty:TreeAt w0 Bt y:=hT.kid (by rw [hk]; simp);obtain ⟨yk,yt,_,y4⟩:=Z0p t1;obtain ⟨cc,ry,ecc,tcc,y4⟩:=Zg y4;have y5:=Zy y4;subst y5;have Hy:RH w0 Bt y (⟨#[32,99,97,116,99,104,32,40]⟩ ++ s ++ ⟨#[41,32]⟩ ++ toB (sP c)):=⟨Ty,cc,_,ecc,i2.s tcc (Ty.kid (by rw [ecc]; simp)) (by omega) rfl,(by have:=Z5b (.inr (.inr rfl)) g2; omega),(by rw [yt]; exact Z4p h1),(.inl ⟨yk,by rw [yt]⟩)⟩
   have hE:Each (RH w0 Bt) [y] [⟨#[32,99,97,116,99,104,32,40]⟩ ++ s ++ ⟨#[41,32]⟩ ++ toB (sP c)]:=⟨rfl,fun i z hz=>by
    rcases i with _ | i;·(simp at hz; subst hz; exact ⟨_,rfl,Hy⟩)
    ·simp at hz⟩
   have hX:=i1.s t0 Tx (by omega) rfl;refine (Zh6 a hT k1 x [y] hk _ hX _ hE (by simp) (by simp) (by have:=Z5b (.inr (.inr rfl)) g1; omega) (fun k=>?_)).cast (by rw [Zm,Z8m,Z96,Z9p]; simp [Zm,Z4,Z7,Zj,Pc.bytes,Z2w,Z19,Z1c,Z06,s_if,Zz,Z0d,Z08,Z0s,Z1y,Z1j,Z0t,Zt]);have z0:=Z5b (.inr (.inr rfl)) g1;have z1:=Z5b (.inr (.inr rfl)) g2;have zn:=h1.2.1;rcases k with _ | k
   all_goals
    have l1:(⟨#[116,114,121,32]⟩:ByteArray).size=4:=rfl;have l2:(⟨#[32,99,97,116,99,104,32,40]⟩:ByteArray).size=8:=rfl;have l3:(⟨#[41,32]⟩:ByteArray).size=2:=rfl;have l4:(⟨#[32,102,105,110,97,108,108,121,32]⟩:ByteArray).size=9:=rfl;simp [ByteArray.size_append,l1,l2,l3,l4];omega
 | @tryf b c g1 g2 i1 i2 =>
   refine DG.ms rfl fun hm Bt a hT k1 k2 k3 k4=>?_;try simp only [Tree.many,Zv] at hm
   obtain ⟨x,r0,e0,t0,k4⟩:=Zg k4;obtain ⟨y,r1,e1,t1,k4⟩:=Zg k4;have k4:=Zy k4;subst k4;subst e1;have hk:=e0;have Tx:TreeAt w0 Bt x:=hT.kid (by rw [hk]; simp);have Ty:TreeAt w0 Bt y:=hT.kid (by rw [hk]; simp);obtain ⟨yk,yt,_,y4⟩:=Z0p t1;obtain ⟨cc,ry,ecc,tcc,y4⟩:=Zg y4;have y5:=Zy y4;subst y5;have Hy:RH w0 Bt y (⟨#[32,102,105,110,97,108,108,121,32]⟩ ++ toB (sP c)):=⟨Ty,cc,_,ecc,i2.s tcc (Ty.kid (by rw [ecc]; simp)) (by omega) rfl,(by have:=Z5b (.inr (.inr rfl)) g2; omega),(by rw [yt]; exact Yp _),(.inr ⟨yk,rfl⟩)⟩
   have hE:Each (RH w0 Bt) [y] [⟨#[32,102,105,110,97,108,108,121,32]⟩ ++ toB (sP c)]:=⟨rfl,fun i z hz=>by
    rcases i with _ | i;·(simp at hz; subst hz; exact ⟨_,rfl,Hy⟩)
    ·simp at hz⟩
   have hX:=i1.s t0 Tx (by omega) rfl;refine (Zh6 a hT k1 x [y] hk _ hX _ hE (by simp) (by simp) (by have:=Z5b (.inr (.inr rfl)) g1; omega) (fun k=>?_)).cast (by rw [Zm,Z8m,Z62,Z9p]; simp [Zm,Z4,Z7,Zj,Pc.bytes,Z2w,Z19,Z1c,Z06,s_if,Zz,Z0d,Z08,Z0s,Z1y,Z1j,Z0t,Zt]);have z0:=Z5b (.inr (.inr rfl)) g1;have z1:=Z5b (.inr (.inr rfl)) g2;rcases k with _ | k
   all_goals
    have l1:(⟨#[116,114,121,32]⟩:ByteArray).size=4:=rfl;have l2:(⟨#[32,99,97,116,99,104,32,40]⟩:ByteArray).size=8:=rfl;have l3:(⟨#[41,32]⟩:ByteArray).size=2:=rfl;have l4:(⟨#[32,102,105,110,97,108,108,121,32]⟩:ByteArray).size=9:=rfl;simp [ByteArray.size_append,l1,l2,l3,l4];omega
 | @trycf s b c e g1 h1 g2 g3 i1 i2 i3 =>
   refine DG.ms rfl fun hm Bt a hT k1 k2 k3 k4=>?_;try simp only [Tree.many,Zv] at hm
   obtain ⟨x,r0,e0,t0,k4⟩:=Zg k4;obtain ⟨y,r1,e1,t1,k4⟩:=Zg k4;obtain ⟨z,r2,e2,t2,k4⟩:=Zg k4;have k4:=Zy k4;subst k4;subst e2;subst e1;have hk:=e0;have Tx:TreeAt w0 Bt x:=hT.kid (by rw [hk]; simp);have Ty:TreeAt w0 Bt y:=hT.kid (by rw [hk]; simp);have Tz:TreeAt w0 Bt z:=hT.kid (by rw [hk]; simp);obtain ⟨yk,yt,_,y4⟩:=Z0p t1;obtain ⟨cc,ry,ecc,tcc,y4⟩:=Zg y4;have y5:=Zy y4;subst y5
   have Hy:RH w0 Bt y (⟨#[32,99,97,116,99,104,32,40]⟩ ++ s ++ ⟨#[41,32]⟩ ++ toB (sP c)):=⟨Ty,cc,_,ecc,i2.s tcc (Ty.kid (by rw [ecc]; simp)) (by omega) rfl,(by have:=Z5b (.inr (.inr rfl)) g2; omega),(by rw [yt]; exact Z4p h1),(.inl ⟨yk,by rw [yt]⟩)⟩
   obtain ⟨zk,zt,_,z4⟩:=Z0p t2;obtain ⟨cd,rz,ecd,tcd,z4⟩:=Zg z4;have z5:=Zy z4;subst z5;have Hz:RH w0 Bt z (⟨#[32,102,105,110,97,108,108,121,32]⟩ ++ toB (sP e)):=⟨Tz,cd,_,ecd,i3.s tcd (Tz.kid (by rw [ecd]; simp)) (by omega) rfl,(by have:=Z5b (.inr (.inr rfl)) g3; omega),(by rw [zt]; exact Yp _),(.inr ⟨zk,rfl⟩)⟩
   have hE:Each (RH w0 Bt) [y,z] [⟨#[32,99,97,116,99,104,32,40]⟩ ++ s ++ ⟨#[41,32]⟩ ++ toB (sP c),⟨#[32,102,105,110,97,108,108,121,32]⟩ ++ toB (sP e)]:=⟨rfl,fun i z hz=>by
    rcases i with _ | _ | i;·(simp at hz; subst hz; exact ⟨_,rfl,Hy⟩)
    ·(simp at hz; subst hz; exact ⟨_,rfl,Hz⟩)
    ·simp at hz⟩
   have hX:=i1.s t0 Tx (by omega) rfl;refine (Zh6 a hT k1 x [y,z] hk _ hX _ hE (by simp) (by simp) (by have:=Z5b (.inr (.inr rfl)) g1; omega) (fun k=>?_)).cast (by rw [Zm,Z8m,Z96,Z62,Z9p]; simp [Zm,Z4,Z7,Zj,Pc.bytes,Z2w,Z19,Z1c,Z06,s_if,Zz,Z0d,Z08,Z0s,Z1y,Z1j,Z0t,Zt]);have z0:=Z5b (.inr (.inr rfl)) g1;have z1:=Z5b (.inr (.inr rfl)) g2;have z2:=Z5b (.inr (.inr rfl)) g3;have zn:=h1.2.1;rcases k with _ | _ | k
   all_goals
    have l1:(⟨#[116,114,121,32]⟩:ByteArray).size=4:=rfl;have l2:(⟨#[32,99,97,116,99,104,32,40]⟩:ByteArray).size=8:=rfl;have l3:(⟨#[41,32]⟩:ByteArray).size=2:=rfl;have l4:(⟨#[32,102,105,110,97,108,108,121,32]⟩:ByteArray).size=9:=rfl;simp [ByteArray.size_append,l1,l2,l3,l4];omega
 | empty =>
   refine DG.ms rfl fun hm Bt a hT k1 k2 k3 k4=>?_;try simp only [Tree.many,Zv] at hm
   exact (Zju a hT k1).cast (by rw [Zm,Zd1]; simp [Zm,Z4,Z7,Zj,Pc.bytes,Z2w,Z19,Z1c,Z06,s_if,Zz,Z0d,Z08,Z0s,Z1y,Z1j,Z0t,Zt])
 | @expr x0 g1 i1 =>
   refine DG.ms rfl fun hm Bt a hT k1 k2 k3 k4=>?_;try simp only [Tree.many,Zv] at hm
   obtain ⟨x,r0,e0,t0,k4⟩:=Zg k4;have k4:=Zy k4;subst k4;have hk:=e0;have Tx:TreeAt w0 Bt x:=hT.kid (by rw [hk]; simp);have hne:0 < (toB (vbT x0)).size:=by
    have:=Zeo g1;rw [Z2q];unfold lenP;exact List.length_pos_iff.2 this
   refine (Zl8 a hT k1 x hk _ (rval a hT x 0 (by rw [hk]; rfl) _ (i1.v t0 Tx (by omega) rfl) (by rw [hk]; simp)) hne (by have:=Z5o g1; omega)).cast ?_;rw [Zm,Zm,Zgm,Z3e];unfold Zhh Z9j;split;·simp [Zm,Z4,Z7,Zj,Pc.bytes,Z2w,Z19,Z1c,Z06,s_if,Zz,Z0d,Z08,Z0s,Z1y,Z1j,Z0t,Zt]
   ·simp [Zm,Z4,Z7,Zj,Pc.bytes,Z2w,Z19,Z1c,Z06,s_if,Zz,Z0d,Z08,Z0s,Z1y,Z1j,Z0t,Zt]
 | snil=>exact DG.nil
 | scons _ _ i1 i2=>exact i1.cons rfl i2
theorem Zhk (w0:World) (hP:Pow w0) (Bt:Nat) (a:ATree) (hT:TreeAt w0 Bt a) (hl:Wf .sl (Zr a.kids)) (hm:Zv (Zr a.kids)≤1500) (W:World) (hB:Below w0.heap.size w0 W) :
 Calls Tryz.prog 9 #[a.ptr] W fun e w'=>e=.returned (.string (Zh5 (Zr a.kids)))∧Below W.heap.size W w':=by
 have hS:∀ x∈a.kids,RS' w0 x (toB (sP x.tree)):=fun x hx=>(Zml hP hl hm Bt a.kids rfl (fun y hy=>hT.kid hy) x hx).1 rfl;have hfit:=(Z4x hl).2;have c3:=hT.c3;obtain ⟨p,cp,hvv,hge,hmx,hk⟩:=Z4k hT;obtain ⟨L,hL⟩:=zX a.kids
 rw [← hL] at hS hfit hge hk hvv hm ⊢;obtain ⟨n,hn⟩:=zX L.length
 have hlen:L.length≤1500:=by have:=Z2y (Zr L); rw [Z2p] at this; omega
 rw [hvv,← hn] at c3;rw [← hn] at hge hlen;unfold maxLen at hmx;have HB0:=lh hB;have HK:=lh hk;have HS:=lh hS;have HN:=lh hn;have x3:=ob hB c3;have HF:Hid (lenP (pP (Zr L))≤3000000):=lh (by omega);unfold Zh5;clear hT hB hk hS hn hvv hL hl hm hfit c3;unfold ATree.ptr;go_enter Tryz.func9,Tryz.ntmps9
 go_wp2_with fail
 go_loopw [3,5,13] (fun s _ i wr=>∃ k:Nat,k≤n∧i=.int .i64 k∧s=.string (toB (pP (Zr (L.take k))))∧Hid (Below W.heap.size W wr)) (fun _ _ i _=>n - (intOf i).toNat)
 case atStart=>exact ⟨0,by omega,rfl,rfl,lh (Y8 _ _)⟩
 case round=>
  obtain ⟨k,hkn,rfl,rfl,HC⟩:=hrel;by_cases hlt:k < n
  ·obtain ⟨x, hx⟩ : ∃ x, L[k]? = some x := ⟨_, Yd (by rw [← HN.out]; exact hlt)⟩
   obtain ⟨g,off,rfl,hc⟩:=HK.out k x hx;have HBk:=lh (HB0.out.trans (HC.out.mono HB0.out.size));have cx:=ob HBk.out hc;have HX:=lh (HS.out x (Yl hx));unfold RS' ATree.ptr at HX;have htk:L.take (k + 1)=L.take k ++ [x]:=by rw [List.take_add_one,hx]; rfl
   have hsn:toB (pP (Zr (L.take (k + 1))))=toB (pP (Zr (L.take k))) ++ (toB (sP x.tree) ++ ⟨#[10]⟩):=by
    rw [htk,Z2k,show Zr [x]=[x.tree] from rfl,Zdr];exact bext (by simp [Zm,pP,Z4,Z7,Zj,Pc.bytes])
   have hpre:(toB (pP (Zr (L.take (k + 1))))).size≤(toB (pP (Zr L))).size:=by
    have h:Zr L=Zr (L.take (k + 1)) ++ Zr (L.drop (k + 1)):=by rw [← Z2k,List.take_append_drop]
    rw [Z2q,Z2q,h,Zdr,Zx]; omega
   rw [hsn,ByteArray.size_append,ByteArray.size_append,Z2q (pP (Zr L))] at hpre;have hf:=HF.out;have HSN:=lh hsn;unfold ATree.ptr at cx;have hkI:((k:Nat):Int) < (n:Int):=by omega
   obtain ⟨P,hP⟩:=zX (toB (pP (Zr (L.take k))))
   obtain ⟨X,hX⟩:=zX (toB (sP x.tree))
   rw [← hP,← hX] at hpre HSN;rw [← hP];rw [← hX] at HX;have h1:(⟨#[10]⟩:ByteArray).size=1:=rfl;have q1:¬ 9223372036854775807 < X.size + 1:=by omega
   have q2:¬ 9223372036854775807 < P.size + (X.size + 1):=by omega
   clear hc hx htk hsn hpre hf hP hX h1;go_wp2_with fail
   refine (HX.out _ HBk.out).mono ?_;rintro e w2 ⟨rfl,hb2⟩;have HC2:=zT HC hb2;clear hb2 HX;go_wp2;go_roundw
   case rel=>exact ⟨k + 1,by omega,by go_num,by rw [HSN.out],HC2⟩
   case measure=>simp [intOf]; omega
  ·have hk2 : k = n := by omega
   subst hk2;have htk:L.take k=L:=Ym (by rw [← HN.out]; exact Y5 _);rw [htk];clear htk;go_wp2;go_ret;exact ⟨rfl,HC.out⟩
structure QC where
 rb:Nat
 tb:Nat
 off:Nat
 cap:Nat
 L:List Tok
def fE:Option (Int×Nat)→Int
 | none=>0
 | some x=>x.1
def fP:Option (Int×Nat)→Int
 | none=>-1
 | some x=>x.2
structure QAt (w:World) (C:QC) (i:Nat) (f:Option (Int×Nat)):Prop where
 blk:w.heap[C.rb]?=some (.cells #[.slice (some ⟨C.tb,C.off,none⟩) C.L.length C.cap,.int .i64 i,.int .i64 (fE f),.int .i64 (fP f)] 45 (0,0))
 le:C.L.length≤C.cap
 most:C.cap≤9223372036854775807
 ord:C.tb < C.rb
 cells:∀ k t j x,C.L[k]?=some t→t.cells[j]?=some x→w.cell? ⟨C.tb,C.off + k * 4 + j,none⟩=some x
 last:∃ l e,C.L=l ++ [e]∧e.kind=6∧∀ t∈l,t.kind≠6
 lt:i < C.L.length
 few:C.L.length≤4000
 code:∀ c p,f=some (c,p)→c≠0
 pm:∀ t∈C.L,t.kind=5→t.text≠⟨#[43,45]⟩
 sm:∀ t∈C.L,t.text.size≤maxLen
def QS (w:World) (C:QC) (σ:RS):Prop:=∃ i,σ.ts=C.L.drop i∧QAt w C i σ.f
section
variable {w w':World} {C:QC} {i:Nat} {f:Option (Int×Nat)} {σ:RS}
theorem QAt.rlt (h:QAt w C i f):C.rb < w.heap.size:=(Y6.1 h.blk).1
theorem QAt.keep (h:QAt w C i f) (hk:∀ k,k≤C.rb→w'.heap[k]?=w.heap[k]?):QAt w' C i f:=
 ⟨(hk _ (Y5 _)).trans h.blk,h.le,h.most,h.ord,fun k t j x h1 h2=>(Yj (hk _ (Nat.le_of_lt h.ord))).trans (h.cells k t j x h1 h2),h.last,h.lt,h.few,h.code,h.pm,h.sm⟩
theorem QAt.below (h:QAt w C i f) (hB:Below w.heap.size w w'):QAt w' C i f:=h.keep fun k hk=>hB.block k (Nat.lt_of_le_of_lt hk h.rlt)
theorem QAt.drew (h:QAt w C i f):QAt w.drew C i f:=h.keep fun _ _=>rfl
theorem QS.below (h:QS w C σ) (hB:Below w.heap.size w w'):QS w' C σ:=by
 obtain ⟨i,e,h⟩:=h;exact ⟨i,e,h.below hB⟩
theorem QS.drew (h:QS w C σ):QS w.drew C σ:=h.below (Y8 _ _).drew
theorem QS.rlt (h:QS w C σ):C.rb < w.heap.size:=by obtain ⟨i,e,h⟩:=h; exact h.rlt
theorem QAt.c0 (h:QAt w C i f):w.cell? ⟨C.rb,0,none⟩=some (.slice (some ⟨C.tb,C.off,none⟩) C.L.length C.cap):=by simp [World.cell?,h.blk]
theorem QAt.c1 (h:QAt w C i f):w.cell? ⟨C.rb,1,none⟩=some (.int .i64 i):=by simp [World.cell?,h.blk]
theorem QAt.c2 (h:QAt w C i f):w.cell? ⟨C.rb,2,none⟩=some (.int .i64 (fE f)):=by simp [World.cell?,h.blk]
theorem QAt.c3 (h:QAt w C i f):w.cell? ⟨C.rb,3,none⟩=some (.int .i64 (fP f)):=by simp [World.cell?,h.blk]
theorem QAt.fz (h:QAt w C i f) (j:Nat):w.frozen? ⟨C.rb,j,none⟩=false:=by simp [World.frozen?,h.blk]
theorem QAt.hdEq (h:QAt w C i f):C.L[i]?=some (hdT (C.L.drop i)):=by
 have:=h.lt;rw [List.drop_eq_getElem_cons this,Yd this];rfl
theorem QAt.hd (h:QAt w C i f) {j:Nat} {x:Value} (hj:(hdT (C.L.drop i)).cells[j]?=some x):w.cell? ⟨C.tb,C.off + i * 4 + j,none⟩=some x:=h.cells i _ j x h.hdEq hj
theorem QAt.more (h:QAt w C i f) (hk:(hdT (C.L.drop i)).kind≠6):i + 1 < C.L.length:=by
 obtain ⟨l,e,h1,h2,_⟩:=h.last;have hi:=h.lt;have hh:=h.hdEq;rw [h1] at hh hi ⊢;rw [Yq,List.length_singleton] at hi ⊢;by_cases hl:i < l.length;·omega
 ·exfalso;have e1 : i = l.length := by omega
  subst e1;rw [List.getElem?_append_right (Y5 _)] at hh;simp only [Nat.sub_self,List.getElem?_cons_zero,Option.some.injEq] at hh;rw [h1,← hh] at hk;exact hk h2
theorem QAt.at (h:QAt w C i f) {j:Nat} (hj:j < C.L.length) {x:Int} (hx:x=j):QAt (w.setCell ⟨C.rb,1,none⟩ (.int .i64 x)) C j f:=by
 subst hx;have hb:=Yg w ⟨C.rb,1,none⟩ (.int .i64 (j:Int)) C.tb (by have:=h.ord; simp only; omega);exact ⟨Z07 (o:=1) (.int .i64 (j:Int)) h.blk,h.le,h.most,h.ord,fun k t j' x h3 h4=>(Yj hb).trans (h.cells k t j' x h3 h4),h.last,hj,h.few,h.code,h.pm,h.sm⟩
theorem QAt.fault (h:QAt w C i f) {c:Int} {p:Nat} (hc:c≠0) {x:Int} (hx:x=p):QAt ((w.setCell ⟨C.rb,2,none⟩ (.int .i64 c)).setCell ⟨C.rb,3,none⟩ (.int .i64 x)) C i (some (c,p)):=by
 subst hx;have hb:((w.setCell ⟨C.rb,2,none⟩ (.int .i64 c)).setCell ⟨C.rb,3,none⟩ (.int .i64 (p:Int))).heap[C.tb]?=w.heap[C.tb]?:=by
  have:=h.ord;rw [Yg _ _ _ _ (by simp only; omega),Yg _ _ _ _ (by simp only; omega)]
 exact ⟨Z07 (o:=3) _ (Z07 (o:=2) _ h.blk),h.le,h.most,h.ord,fun k t j' x h3 h4=>(Yj hb).trans (h.cells k t j' x h3 h4),h.last,h.lt,h.few,fun c' p' e=>by
  simp only [Option.some.injEq,Prod.mk.injEq] at e;rw [← e.1]; exact hc,h.pm,h.sm⟩
theorem Zbp {α:Type} (l:List α) (i:Nat):(l.drop i).tail=l.drop (i + 1):=by rw [List.tail_drop]
theorem QS.adv {w:World} (h:QAt w C i f) (hk:(hdT (C.L.drop i)).kind≠6) {x:Int} (hx:x=(i:Int) + 1):QS (w.setCell ⟨C.rb,1,none⟩ (.int .i64 x)) C (advR ⟨C.L.drop i,f⟩):=
 ⟨i + 1,Zbp _ _,h.at (h.more hk) (by rw [hx]; rfl)⟩
theorem Zha (h:QAt w C i f):Calls Tryz.prog 12 #[.pointer (some ⟨C.rb,0,none⟩)] w fun e w'=>e=.returned (.bool f.isNone)∧w=w':=by
 have hc:=h.c2;have hcode:=h.code;rcases f with _ | ⟨c,p⟩
 ·simp only [fE] at hc;clear h hcode;go_enter Tryz.func12, Tryz.ntmps12
  go_wp2;go_ret;exact ⟨rfl,rfl⟩
 ·have h0 : (c == 0) = false := by simpa using hcode c p rfl
  simp only [fE] at hc;clear h hcode;go_enter Tryz.func12,Tryz.ntmps12
  go_wp2;go_ret;exact ⟨rfl,rfl⟩
theorem Z2f (h:QS w C σ):Calls Tryz.prog 12 #[.pointer (some ⟨C.rb,0,none⟩)] w fun e w'=>e=.returned (.bool σ.f.isNone)∧w=w':=by
 obtain ⟨i,_,h⟩:=h;exact Zha h
theorem Zkm (s:ByteArray) (t:Tok):((decide (t.kind=5) || decide (t.kind=2)) && Z15 t.text s)=((t.kind == 2 || t.kind == 5) && (t.text.toList == s.toList)):=by
 rw [Z3x,Bool.or_comm]; rfl
theorem Zk (h:QS w C σ) (s:ByteArray):Calls Tryz.prog 33 #[.pointer (some ⟨C.rb,0,none⟩),.string s] w fun e w'=>e=.returned (.bool (Zl s σ))∧Below w.heap.size w w':=by
 obtain ⟨i,e,h⟩:=h;obtain ⟨ts,f⟩:=σ;simp only at e h;subst e;have HOK:=lh (fun w1 (hB:Below w.heap.size w w1)=>Zha (h.below hB));have c0:=h.c0;have c1:=h.c1;have t0:=h.hd (j:=0) rfl;have t1:=h.hd (j:=1) rfl;have t2:=h.hd (j:=2) rfl;have t3:=h.hd (j:=3) rfl;have hi:=h.lt;have hle:=h.le;have hm:=h.most;have hr:=h.rlt;have ht:C.tb < w.heap.size:=Nat.lt_trans h.ord hr;obtain ⟨n,hn⟩:=zX C.L.length
 rw [← hn] at c0 hi hle;obtain ⟨X,hX⟩:=zX (Zl s ⟨C.L.drop i,f⟩)
 rw [← hX];unfold Zl isT at hX;rw [Zkm] at hX;obtain ⟨⟨k,tx,tn,ta⟩,htok⟩:∃ t,t=hdT (C.L.drop i):=⟨_,rfl⟩
 simp only [← htok] at t0 t1 t2 t3 hX;rw [Nat.add_zero] at t0;generalize C.tb=tb at *;generalize C.off=off at *;generalize C.cap=cap at *;generalize f.isNone=b at *;have HX:=lh hX;generalize C.rb=rb at *;clear h hn htok hX;cases b with
 | false =>
   go_enter Tryz.func33,Tryz.ntmps33
   go_wp2_with fail
   refine Zf [0,2,4,6,8,10,12,14,16,18,21] [11] (fun W=>W.cell? ⟨rb,0,none⟩=some (.slice (some ⟨tb,off,none⟩) n cap)∧W.cell? ⟨rb,1,none⟩=some (.int .i64 i)∧W.cell? ⟨tb,off + i * 4,none⟩=some (.int .i64 k)∧W.cell? ⟨tb,off + i * 4 + 1,none⟩=some (.string tx)∧W.cell? ⟨tb,off + i * 4 + 2,none⟩=some (.int .i64 tn)∧W.cell? ⟨tb,off + i * 4 + 3,none⟩=some (.int .i64 ta)) ⟨c0,c1,t0,t1,t2,t3⟩ fun _=>?_
   simp only [Zh,pD,zD,zE,zF,zG,zH,zI,zJ,zK]
   iterate 10
    first | refine Zb _ ?_ | refine Za ?_
    simp only [Act.put,zA,zB,zC]
   refine Z5 (fun K hK=>?_);go_simp
   refine hK _ _ ⟨(Z8 hr).trans c0,(Z8 hr).trans c1,(Z8 ht).trans t0,(Z8 ht).trans t1,(Z8 ht).trans t2,(Z8 ht).trans t3⟩ ?_;clear hK K;refine Z6 ?_;go_wp2_with fail
   refine (HOK.out _ ?_).mono ?_;·repeat (first | exact Y8 _ _ | (refine Below.setCell ?_ (by simp) _) | (refine Below.alloc ?_ (by simp) _) | (refine Below.drew ?_))
   rintro e w1 ⟨rfl,rfl⟩;go_wp2;go_ret;refine ⟨Z7b (by rw [HX.out]; rfl),?_⟩;repeat (first | exact Y8 _ _ | (refine Below.setCell ?_ (by simp) _) | (refine Below.alloc ?_ (by simp) _) | (refine Below.drew ?_))
 | true =>
   by_cases k2:(k == 2)=true
   ·go_enter Tryz.func33, Tryz.ntmps33
    go_wp2_with fail
    refine Zf [0,2,4,6,8,10,12,14,16,18,21] [11] (fun W=>W.cell? ⟨rb,0,none⟩=some (.slice (some ⟨tb,off,none⟩) n cap)∧W.cell? ⟨rb,1,none⟩=some (.int .i64 i)∧W.cell? ⟨tb,off + i * 4,none⟩=some (.int .i64 k)∧W.cell? ⟨tb,off + i * 4 + 1,none⟩=some (.string tx)∧W.cell? ⟨tb,off + i * 4 + 2,none⟩=some (.int .i64 tn)∧W.cell? ⟨tb,off + i * 4 + 3,none⟩=some (.int .i64 ta)) ⟨c0,c1,t0,t1,t2,t3⟩ fun _=>?_
    simp only [Zh,pD,zD,zE,zF,zG,zH,zI,zJ,zK]
    iterate 10
     first | refine Zb _ ?_ | refine Za ?_
     simp only [Act.put,zA,zB,zC]
    refine Z5 (fun K hK=>?_);go_simp
    refine hK _ _ ⟨(Z8 hr).trans c0,(Z8 hr).trans c1,(Z8 ht).trans t0,(Z8 ht).trans t1,(Z8 ht).trans t2,(Z8 ht).trans t3⟩ ?_;clear hK K;refine Z6 ?_;go_wp2_with fail
    refine (HOK.out _ ?_).mono ?_;·repeat (first | exact Y8 _ _ | (refine Below.setCell ?_ (by simp) _) | (refine Below.alloc ?_ (by simp) _) | (refine Below.drew ?_))
    rintro e w1 ⟨rfl,rfl⟩;go_wp2;go_ret;refine ⟨Z7b (by rw [HX.out,k2]; rfl),?_⟩;repeat (first | exact Y8 _ _ | (refine Below.setCell ?_ (by simp) _) | (refine Below.alloc ?_ (by simp) _) | (refine Below.drew ?_))
   ·have k2' : (k == 2) = false := by simpa using k2
    by_cases k5:(k == 5)=true
    ·go_enter Tryz.func33, Tryz.ntmps33
     go_wp2_with fail
     refine Zf [0,2,4,6,8,10,12,14,16,18,21] [11] (fun W=>W.cell? ⟨rb,0,none⟩=some (.slice (some ⟨tb,off,none⟩) n cap)∧W.cell? ⟨rb,1,none⟩=some (.int .i64 i)∧W.cell? ⟨tb,off + i * 4,none⟩=some (.int .i64 k)∧W.cell? ⟨tb,off + i * 4 + 1,none⟩=some (.string tx)∧W.cell? ⟨tb,off + i * 4 + 2,none⟩=some (.int .i64 tn)∧W.cell? ⟨tb,off + i * 4 + 3,none⟩=some (.int .i64 ta)) ⟨c0,c1,t0,t1,t2,t3⟩ fun _=>?_
     simp only [Zh,pD,zD,zE,zF,zG,zH,zI,zJ,zK]
     iterate 10
      first | refine Zb _ ?_ | refine Za ?_
      simp only [Act.put,zA,zB,zC]
     refine Z5 (fun K hK=>?_);go_simp
     refine hK _ _ ⟨(Z8 hr).trans c0,(Z8 hr).trans c1,(Z8 ht).trans t0,(Z8 ht).trans t1,(Z8 ht).trans t2,(Z8 ht).trans t3⟩ ?_;clear hK K;refine Z6 ?_;go_wp2_with fail
     refine (HOK.out _ ?_).mono ?_;·repeat (first | exact Y8 _ _ | (refine Below.setCell ?_ (by simp) _) | (refine Below.alloc ?_ (by simp) _) | (refine Below.drew ?_))
     rintro e w1 ⟨rfl,rfl⟩;go_wp2;go_ret;refine ⟨Z7b (by rw [HX.out,k5,Bool.or_true]; rfl),?_⟩;repeat (first | exact Y8 _ _ | (refine Below.setCell ?_ (by simp) _) | (refine Below.alloc ?_ (by simp) _) | (refine Below.drew ?_))
    ·have k5' : (k == 5) = false := by simpa using k5
     go_enter Tryz.func33,Tryz.ntmps33
     go_wp2_with fail
     refine Zf [0,2,4,6,8,10,12,14,16,18,21] [11] (fun W=>W.cell? ⟨rb,0,none⟩=some (.slice (some ⟨tb,off,none⟩) n cap)∧W.cell? ⟨rb,1,none⟩=some (.int .i64 i)∧W.cell? ⟨tb,off + i * 4,none⟩=some (.int .i64 k)∧W.cell? ⟨tb,off + i * 4 + 1,none⟩=some (.string tx)∧W.cell? ⟨tb,off + i * 4 + 2,none⟩=some (.int .i64 tn)∧W.cell? ⟨tb,off + i * 4 + 3,none⟩=some (.int .i64 ta)) ⟨c0,c1,t0,t1,t2,t3⟩ fun _=>?_
     simp only [Zh,pD,zD,zE,zF,zG,zH,zI,zJ,zK]
     iterate 10
      first | refine Zb _ ?_ | refine Za ?_
      simp only [Act.put,zA,zB,zC]
     refine Z5 (fun K hK=>?_);go_simp
     refine hK _ _ ⟨(Z8 hr).trans c0,(Z8 hr).trans c1,(Z8 ht).trans t0,(Z8 ht).trans t1,(Z8 ht).trans t2,(Z8 ht).trans t3⟩ ?_;clear hK K;refine Z6 ?_;go_wp2_with fail
     refine (HOK.out _ ?_).mono ?_;·repeat (first | exact Y8 _ _ | (refine Below.setCell ?_ (by simp) _) | (refine Below.alloc ?_ (by simp) _) | (refine Below.drew ?_))
     rintro e w1 ⟨rfl,rfl⟩;go_wp2;go_ret;refine ⟨Z7b (by rw [HX.out,k2',k5']; rfl),?_⟩;repeat (first | exact Y8 _ _ | (refine Below.setCell ?_ (by simp) _) | (refine Below.alloc ?_ (by simp) _) | (refine Below.drew ?_))
theorem RFr.of_set {w:World} {rb:Nat} (o:Nat) (x:Value):RFr w (w.setCell ⟨rb,o,none⟩ x) rb:=(RFr.refl w rb).set o x
def Z26 (w:World) (C:QC) (B:Nat) (t:Tree) (σ':RS) (e:Ending) (w':World):Prop:=
 ∃ a,e=.returned (.pointer (some ⟨a.b,0,none⟩))∧Got w B w' a t∧QS w' C σ'∧RFr w w' C.rb
theorem Z31 (h:QS w C σ) (c:Int) (hc:c≠0) (B:Nat) (hB:C.rb < B) (hBw:B≤w.heap.size) :
 Calls Tryz.prog 32 #[.pointer (some ⟨C.rb,0,none⟩),.int .i64 c] w (Z26 w C B gT (Z39 c σ)):=by
 obtain ⟨i,e,h⟩:=h;obtain ⟨ts,f⟩:=σ;simp only at e h;subst e;have HOK:=lh (Zha h);have HH:=lh h;cases hf:f.isNone with
 | false =>
   rw [hf] at HOK;have hR:Z39 c ⟨C.L.drop i,f⟩=⟨C.L.drop i,f⟩:=by simp [Z39,hf]
   rw [hR];clear h hf hR;go_enter Tryz.func32,Tryz.ntmps32
   go_wp2_with fail
   refine HOK.out.mono ?_;rintro e w1 ⟨rfl,rfl⟩;go_wp2;go_ret;exact ⟨_,rfl,Got.leaf hBw (RFr.refl w C.rb),⟨i,rfl,HH.out.below ((Y8 _ _).alloc (Y5 _) _)⟩,RFr.below ((Y8 _ _).alloc (Y5 _) _)⟩
 | true =>
   rw [hf] at HOK;obtain rfl:f=none:=by cases f <;> simp_all
   have hR:Z39 c ⟨C.L.drop i,none⟩=⟨C.L.drop i,some (c,(hdT (C.L.drop i)).at')⟩:=by simp [Z39]
   rw [hR];have c0:=h.c0;have c1:=h.c1;have c2:=h.c2;have c3:=h.c3;have t3:=h.hd (j:=3) rfl;have z2:=h.fz 2;have z3:=h.fz 3;have hi:=h.lt;have hle:=h.le;have hm:=h.most;obtain ⟨p,hp⟩:=zX ((hdT (C.L.drop i)).at')
   rw [← hp] at t3 ⊢;obtain ⟨n,hn⟩:=zX C.L.length
   rw [← hn] at c0 hi hle;clear h hf hR hp hn;obtain ⟨rb,tb,off,cap,L⟩:=C;simp only at *;go_enter Tryz.func32,Tryz.ntmps32
   go_wp2_with fail
   refine HOK.out.mono ?_;rintro e w1 ⟨rfl,rfl⟩;go_wp2_with fail
   refine Zf [0,2,4,6,8,10,12,14,16,18,20,22,24,26] [14,15,16] (fun W=>W.cell? ⟨rb,0,none⟩=some (.slice (some ⟨tb,off,none⟩) n cap)∧W.cell? ⟨rb,1,none⟩=some (.int .i64 i)∧W.cell? ⟨tb,off + i * 4 + 3,none⟩=some (.int .i64 p)) ⟨c0,c1,t3⟩ fun _=>?_;simp only [Zh,pD,zD,zE,zF,zG,zH,zI,zJ,zK]
   iterate 14
    first | refine Zb _ ?_ | refine Za ?_
    simp only [Act.put,zA,zB,zC]
   refine Z6 ?_;go_wp2;go_ret;have h2:QAt ((w.setCell ⟨rb,2,none⟩ (.int .i64 c)).setCell ⟨rb,3,none⟩ (.int .i64 p)) ⟨rb,tb,off,cap,L⟩ i (some (c,p)):=HH.out.fault hc rfl;have h3:RFr w ((w.setCell ⟨rb,2,none⟩ (.int .i64 c)).setCell ⟨rb,3,none⟩ (.int .i64 p)) rb:=((RFr.refl w rb).set 2 _).set 3 _;have h4:=Got.leaf (w0:=w) (rb:=rb) (B:=B) (k:=0) (t:=⟨#[]⟩) (n:=0) hBw h3;refine ⟨_,?pt,h4.rfr hB (RFr.refl _ rb).drew,⟨i,rfl,(h2.below ((Y8 _ _).alloc (Y5 _) _)).drew⟩,(h3.trans (RFr.below ((Y8 _ _).alloc (Y5 _) _))).drew⟩
   case pt=>simp [ATree.b]
theorem Z33 {s:ByteArray} {σ:RS} (h:Zl s σ=true):isT s σ.ts=true:=by
 unfold Zl at h;simp only [Bool.and_eq_true] at h;exact h.2
theorem Z1h (h:QS w C σ) (s:ByteArray):Calls Tryz.prog 35 #[.pointer (some ⟨C.rb,0,none⟩),.string s] w fun e w'=>
 e=.returned (.bool (Zl s σ))∧QS w' C (if Zl s σ then advR σ else σ)∧RFr w w' C.rb:=by
 have HN:=Zk h s;have HH:=lh h;obtain ⟨rb,tb,off,cap,L⟩:=C;by_cases hs:Zl s σ=true
 ·rw [hs] at HN;have HN := lh HN;have HS := lh hs;rw [Yb hs];clear h hs;go_enter Tryz.func35, Tryz.ntmps35
  go_wp2_with fail
  refine HN.out.mono ?_;rintro e w1 ⟨rfl,hB1⟩;have h1:=HH.out.below hB1;have HB:=lh hB1;obtain ⟨i,e,h⟩:=h1;have c1:=h.c1;have z1:=h.fz 1;have hi:=h.lt;have hf:=h.few;simp only at c1 z1;have H1:=lh h;have E1:=lh e;clear hB1 h e;go_wp2;go_ret;have hk:=Z56 (Z33 HS.out);rw [E1.out] at hk;have h2:=QS.adv H1.out (x:=(i:Int) + 1) hk rfl;have h3:(⟨List.drop i L,σ.f⟩:RS)=σ:=by rw [← E1.out]
  simp only at h2;rw [h3] at h2;refine ⟨by rw [HS.out]; rfl,h2,(RFr.below HB.out).set 1 _⟩
 ·have hs : Zl s σ = false := by simpa using hs
  rw [hs] at HN;have HN:=lh HN;simp only [hs,if_false,Bool.false_eq_true];clear h hs;go_enter Tryz.func35,Tryz.ntmps35
  go_wp2_with fail
  refine HN.out.mono ?_;rintro e w1 ⟨rfl,hB1⟩;have HB:=lh hB1;clear hB1;go_wp2;go_ret;exact ⟨rfl,HH.out.below HB.out,RFr.below HB.out⟩
theorem Z0w (h:QS w C σ) (s:ByteArray) (B:Nat) (hB:C.rb < B) (hBw:B≤w.heap.size):Calls Tryz.prog 40 #[.pointer (some ⟨C.rb,0,none⟩),.string s] w fun e w'=>
 e=.returned (.tuple #[])∧QS w' C (Z0z s σ)∧RFr w w' C.rb:=by
 have HO:=Z2f h;have HH:=lh h;have HBB:=lh hB;have HBW:=lh hBw;obtain ⟨X,hX⟩:=zX (Z0z s σ)
 rw [← hX];unfold Z0z at hX;by_cases hf:σ.f.isNone=true
 ·rw [hf] at HO;rw [Yb hf] at hX;have HS := Z1h h s;have hns : Zl s σ = isT s σ.ts := by simp [Zl, hf]
  rw [hns] at HS;have HO:=lh HO;by_cases hs:isT s σ.ts=true
  ·rw [Yb hs] at hX;rw [hs] at HS;rw [Yb rfl, ← hX] at HS;have HS := lh HS;clear h hX hf hns hs hB hBw;go_enter Tryz.func40, Tryz.ntmps40
   go_wp2_with fail
   refine HO.out.mono ?_;rintro e w1 ⟨rfl,rfl⟩;go_wp2_with fail
   refine HS.out.mono ?_;rintro e w1 ⟨rfl,h1⟩;have H1:=lh h1;clear h1;go_wp2;go_end0
   exact ⟨rfl,H1.out⟩
  ·rw [Y9 hs] at hX;have hs : isT s σ.ts = false := by simpa using hs
   rw [hs] at HS;simp only [Bool.false_eq_true,if_false] at HS;have HS:=lh HS;have HX:=lh hX;clear h hX hf hns hs hB hBw;go_enter Tryz.func40,Tryz.ntmps40
   go_wp2_with fail
   refine HO.out.mono ?_;rintro e w1 ⟨rfl,rfl⟩;go_wp2_with fail
   refine HS.out.mono ?_;rintro e w2 ⟨rfl,h2⟩;have H2:=lh h2;clear h2;go_wp2_with fail
   refine (Z31 H2.out.1 3 (by decide) B HBB.out (Ya HBW.out H2.out.2.size)).mono ?_;rintro e w3 ⟨a,rfl,_,h3,h4⟩;have H3:=lh h3;have H4:=lh h4;clear h3 h4;go_wp2;go_end0
   refine ⟨rfl,?_,H2.out.2.trans H4.out⟩;rw [HX.out];exact H3.out
 ·have hf : σ.f.isNone = false := Bool.eq_false_iff.2 hf;rw [hf] at HO;rw [Y9 (by rw [hf]; decide)] at hX;have HO := lh HO;have HX := lh hX;clear h hX hf hB hBw;go_enter Tryz.func40, Tryz.ntmps40
  go_wp2_with fail
  refine HO.out.mono ?_;rintro e w1 ⟨rfl,rfl⟩;go_wp2;go_end0
  exact ⟨rfl,by rw [HX.out]; exact HH.out,RFr.refl _ _⟩
theorem Z35 (h:QS w C σ) (B:Nat) (hB:C.rb < B) (hBw:B≤w.heap.size):Calls Tryz.prog 36 #[.pointer (some ⟨C.rb,0,none⟩)] w fun e w'=>
 e=.returned (.string (Zw σ).1)∧QS w' C (Zw σ).2∧RFr w w' C.rb:=by
 have HO:=Z2f h;have HH:=lh h;have HBB:=lh hB;have HBW:=lh hBw;obtain ⟨X,hX⟩:=zX (Zw σ)
 rw [← hX];unfold Zw at hX;by_cases hf:σ.f.isNone=true
 ·rw [hf] at HO;rw [Yb hf] at hX;have HO := lh HO;obtain ⟨i, e, h⟩ := h;obtain ⟨ts, f⟩ := σ;simp only at e hf hX;subst e;have c0 := h.c0;have c1 := h.c1;have t0 := h.hd (j := 0) (x := .int .i64 (hdT (C.L.drop i)).kind) rfl;have t1 := h.hd (j := 1) (x := .string (hdT (C.L.drop i)).text) rfl;have z1 := h.fz 1;have hi := h.lt;have hle := h.le;have hm := h.most;have hr := h.rlt;have ho := h.ord;have hfew := h.few;have HA := lh h;rw [Nat.add_zero] at t0;obtain ⟨rb, tb, off, cap, L⟩ := C;simp only at *;obtain ⟨n, hn⟩ := zX L.length
  rw [← hn] at c0 hi hle hfew;by_cases hk:(hdT (L.drop i)).kind=1
  ·rw [Yb hk] at hX;rw [hk] at t0;have hk6 : (hdT (L.drop i)).kind ≠ 6 := by rw [hk]; decide
   have HK6:=lh hk6;have HX:=lh hX;have hrt:¬ rb=tb:=by omega
   obtain ⟨tx,htx⟩:=zX ((hdT (L.drop i)).text)
   rw [← htx] at t1;have HTX:=lh htx;clear h hX hf hk hB hBw hk6 hn htx;go_enter Tryz.func36,Tryz.ntmps36
   go_wp2_with fail
   refine HO.out.mono ?_;rintro e w1 ⟨rfl,rfl⟩;go_wp2_with fail
   refine Zf [0,2,4,6,8,10,12,14] [8,9,10,11] (fun W=>W.cell? ⟨rb,0,none⟩=some (.slice (some ⟨tb,off,none⟩) n cap)∧W.cell? ⟨rb,1,none⟩=some (.int .i64 i)∧W.cell? ⟨tb,off + i * 4,none⟩=some (.int .i64 1)) ⟨c0,c1,t0⟩ fun _=>?_;simp only [Zh,pD,zD,zE,zF,zG,zH,zI,zJ,zK]
   iterate 8
    first | refine Zb _ ?_ | refine Za ?_
    simp only [Act.put,zA,zB,zC]
   refine Z6 ?_;have h2:=HA.out.drew.at (j:=i + 1) (x:=(i:Int) + 1) (HA.out.more HK6.out) rfl;have d0:=h2.c0;have d1:=h2.c1;have e1:=h2.cells i _ 1 (.string (hdT (L.drop i)).text) HA.out.hdEq rfl;simp only [← HTX.out] at d0 d1 e1;obtain ⟨m,hm'⟩:=zX L.length
   rw [← hm'] at d0;have hm2:=HA.out.more HK6.out;simp only [← hm'] at hm2;have H2:=lh h2;clear h2 hm';go_wp2_with fail
   refine Zf [0,2,4,6,8,10,12,14,16] [9,10,11,12] (fun W=>W.cell? ⟨rb,0,none⟩=some (.slice (some ⟨tb,off,none⟩) m cap)∧W.cell? ⟨rb,1,none⟩=some (.int .i64 ((i:Int) + 1))∧W.cell? ⟨tb,off + i * 4 + 1,none⟩=some (.string tx)) ⟨d0,d1,e1⟩ fun _=>?_;simp only [Zh,pD,zD,zE,zF,zG,zH,zI,zJ,zK]
   iterate 9
    first | refine Zb _ ?_ | refine Za ?_
    simp only [Act.put,zA,zB,zC]
   refine Z6 ?_;go_wp2;go_ret;refine ⟨by rw [HX.out,HTX.out]; rfl,?_,((RFr.refl _ _).drew.set 1 _).drew⟩;rw [HX.out];exact QS.drew ⟨i + 1,Zbp _ _,H2.out⟩
  ·rw [Y9 hk] at hX;have hk1 : ((hdT (L.drop i)).kind != 1) = true := by simpa using hk
   obtain ⟨k,hkk⟩:=zX ((hdT (L.drop i)).kind)
   rw [← hkk] at t0 hk1;have HX:=lh hX;clear h hX hf hk hB hBw hn hkk t1;go_enter Tryz.func36,Tryz.ntmps36
   go_wp2_with fail
   refine HO.out.mono ?_;rintro e w1 ⟨rfl,rfl⟩;go_wp2_with fail
   refine Zf [0,2,4,6,8,10,12,14] [8,9,10,11] (fun W=>W.cell? ⟨rb,0,none⟩=some (.slice (some ⟨tb,off,none⟩) n cap)∧W.cell? ⟨rb,1,none⟩=some (.int .i64 i)∧W.cell? ⟨tb,off + i * 4,none⟩=some (.int .i64 k)) ⟨c0,c1,t0⟩ fun _=>?_;simp only [Zh,pD,zD,zE,zF,zG,zH,zI,zJ,zK]
   iterate 8
    first | refine Zb _ ?_ | refine Za ?_
    simp only [Act.put,zA,zB,zC]
   refine Z6 ?_;go_wp2_with fail
   refine (Z31 HH.out.drew 3 (by decide) B HBB.out (by simpa using HBW.out)).mono ?_;rintro e w3 ⟨a,rfl,_,h3,h4⟩;have H3:=lh h3;have H4:=lh h4;clear h3 h4;go_wp2;go_ret;refine ⟨by rw [HX.out]; rfl,?_,(RFr.refl _ _).drew.trans H4.out⟩;rw [HX.out];exact H3.out
 ·have hf : σ.f.isNone = false := Bool.eq_false_iff.2 hf;rw [hf] at HO;rw [Y9 (by rw [hf]; decide)] at hX;have HO := lh HO;have HX := lh hX;clear h hX hf hB hBw;go_enter Tryz.func36, Tryz.ntmps36
  go_wp2_with fail
  refine HO.out.mono ?_;rintro e w1 ⟨rfl,rfl⟩;go_wp2;go_ret;exact ⟨by rw [HX.out]; rfl,by rw [HX.out]; exact HH.out,RFr.refl _ _⟩
end
end Go.Proofs.YtmeiggjboakmpaaGreatDoor
