/- Package plain: Same, of two trees that are the same. -/
import Derived.Test.YtmjfllklcpjddaaGreatDoorJ13
namespace Go.Proofs.YtmjfllklcpjddaaGreatDoor
open Go Go.RowKit
set_option maxRecDepth 100000
set_option maxHeartbeats 20000000
set_option linter.unusedVariables false
theorem Z52 {a b:ATree} (h:a.tree=b.tree):a.kind=b.kind∧a.text=b.text∧a.n=b.n∧Z0r a.kids=Z0r b.kids:=by
 cases a; cases b;simp only [ATree.tree,Tree.mk.injEq] at h;exact h
theorem Zfz {l m:List ATree} (h:Z0r l=Z0r m):l.length=m.length:=by
 have:=congrArg List.length h;rwa [Z21,Z21,Yv,Yv] at this
theorem Zip {l m:List ATree} {k:Nat} {x y:ATree} (h:Z0r l=Z0r m) (hx:l[k]?=some x) (hy:m[k]?=some y):x.tree=y.tree:=by
 rw [Z21,Z21] at h;have:=congrArg (fun r=>r[k]?) h;simp only [List.getElem?_map,hx,hy,Option.map_some,Option.some.injEq] at this;exact this
theorem Ziz (n0:Nat):∀ (a b:ATree),a.many≤n0→a.many≤100000→a.tree=b.tree→∀ (w:World) (B1 B2:Nat),TreeAt w B1 a→TreeAt w B2 b →
 Calls Tryz.prog 10 #[a.ptr,b.ptr] w fun e w'=>e=.returned (.bool true)∧Below w.heap.size w w':=by
 induction n0 with
 | zero=>intro a b h; cases a; simp [ATree.many] at h
 | succ n0 ih=>
 intro a b hn hmx hab w B1 B2 hT1 hT2;have HIH:=lh ih;obtain ⟨e1,e2,e3,e4⟩:=Z52 hab;have e5:=Zfz e4;obtain ⟨p,cp,hv,hge,hgm⟩:=hT1.vOf;obtain ⟨q,cq,hw,hhe,hhm⟩:=hT2.vOf;have a0:=hT1.c0;have a1:=hT1.c1;have a3:=hT1.c3;have b0:=hT2.c0;have b1:=hT2.c1;have b3:=hT2.c3;have a2:w.cell? ⟨a.b,2,none⟩=some (.int .i64 a.n):=by simp [World.cell?,hT1.blkOf]
 have b2:w.cell? ⟨b.b,2,none⟩=some (.int .i64 b.n):=by simp [World.cell?,hT2.blkOf]
 rw [← e1] at b0;rw [← e2] at b1;rw [← e3] at b2;rw [hv] at a3;rw [hw,← e5] at b3;rw [← e5] at hhe;have hkm:=Z22 a;have hlen:a.kids.length≤100000:=by omega
 have HT1:=lh hT1;have HT2:=lh hT2;have HV:=lh hv;have HW:=lh hw;have HE4:=lh e4;have HNN:=lh hn;have HMX:=lh hmx;unfold ATree.ptr;obtain ⟨n,hnn⟩:=zX a.kids.length
 rw [← hnn] at a3 b3 hge hhe hlen e5;have HN:=lh hnn;have HN2:=lh e5;obtain ⟨kd,hkd⟩:=zX a.kind
 obtain ⟨tx,htx⟩:=zX a.text
 obtain ⟨nn,hnv⟩:=zX a.n
 rw [← hkd] at a0 b0;rw [← htx] at a1 b1;rw [← hnv] at a2 b2;have hkk:(kd == kd)=true:=beq_self_eq_true _;have htt:(tx.toList == tx.toList)=true:=beq_self_eq_true _;have hvv:(nn == nn)=true:=beq_self_eq_true _;have hll:((n:Int) == (n:Int))=true:=beq_self_eq_true _;clear hab hn hmx e1 e2 e3 e4 e5 hv hw hkm hnn hkd htx hnv hT1 hT2 ih;go_enter Tryz.func10,Tryz.ntmps10
 go_wp2_with fail
 refine Z1 [(true,0),(true,1),(true,2),(true,3),(true,4),(true,5),(true,6),(true,7),(true,8),(true,9),(true,10),(true,11),(true,12),(true,13),(true,14),(true,15),(true,16),(true,17),(true,18),(true,19),(true,20),(true,21),(true,22),(true,23),(true,24),(true,25),(true,26),(true,27),(true,28),(true,29),(true,30),(true,31),(true,32),(true,33),(true,34),(true,35),(true,36),(true,37),(true,38),(true,39),(true,40),(true,41)] [42,43] (fun W=>W.cell? ⟨a.b,0,none⟩=some (.int .i64 kd)∧W.cell? ⟨b.b,0,none⟩=some (.int .i64 kd)∧W.cell? ⟨a.b,1,none⟩=some (.string tx)∧W.cell? ⟨b.b,1,none⟩=some (.string tx)∧W.cell? ⟨a.b,2,none⟩=some (.int .i64 nn)∧W.cell? ⟨b.b,2,none⟩=some (.int .i64 nn)∧W.cell? ⟨a.b,3,none⟩=some (.slice p n cp)∧W.cell? ⟨b.b,3,none⟩=some (.slice q n cq)) (by kernel_rfl) (by kernel_rfl) (fun _ _ d _ _ h=>by cases d <;> exact h) ⟨a0,b0,a1,b1,a2,b2,a3,b3⟩ (fun hS0=>?_)
 simp only [Zf,zD,zE,zF,zG,zH,zI]
 iterate 42
  first
   | (refine Z2 ?_ (by rfl) (fun w' hS'=>?_) ?_; rotate_left; (obtain ⟨s0,s1,s2,s3,s4,s5,s6,s7⟩:=hS'; go_simp; first | done | with_reducible rfl); simp only [Act.put,zA,zB,zC])
   | (refine Z3 (by rfl) ?_; simp only [Act.put,zA,zB,zC])
 refine Z6 ?_;go_wp2_with fail
 go_loopw [64] (fun i wr=>∃ (k:Nat),k≤n∧i=.int .i64 k∧Hid (Below w.heap.size w wr)) (fun i _=>n - (intOf i).toNat)
 case atStart=>exact ⟨0,Yp _,rfl,lh (by repeat (first | exact Y8 _ _ | refine Below.drew ?_))⟩
 case round=>
  obtain ⟨k,hk,rfl,HB⟩:=hrel;by_cases hkn:k < n
  ·obtain ⟨x, hx⟩ : ∃ x, a.kids[k]? = some x := ⟨_, Yd (by rw [← HN.out]; exact hkn)⟩
   obtain ⟨y,hy⟩:∃ y,b.kids[k]?=some y:=⟨_,Yd (by rw [← HN2.out]; exact hkn)⟩
   have hTa:=HT1.out.bel HB.out;have hTb:=HT2.out.bel HB.out;have hra:=hTa.rowOf;have hrb:=hTb.rowOf;rcases Za hra with ⟨_,h2⟩ | ⟨g0,cap0,hv0,_⟩;·rw [← HN.out] at h2; omega
   rcases Za hrb with ⟨_,h2⟩ | ⟨g1,cap1,hv1,_⟩;·rw [← HN2.out] at h2; omega
   have hp:p=some ⟨g0,0,none⟩:=by
    have:=HV.out.symm.trans hv0;simp only [Value.slice.injEq] at this;exact this.1
   have hq:q=some ⟨g1,0,none⟩:=by
    have:=HW.out.symm.trans hv1;simp only [Value.slice.injEq] at this;exact this.1
   subst hp hq;have cx:=Zl hra (g:=g0) (by rw [hv0]; rfl) (i:=k) (x:=x.ptr) (by rw [Yo,hx]; rfl);have cy:=Zl hrb (g:=g1) (by rw [hv1]; rfl) (i:=k) (x:=y.ptr) (by rw [Yo,hy]; rfl);unfold ATree.ptr at cx cy;have j3:wr.cell? ⟨a.b,3,none⟩=some (.slice (some ⟨g0,0,none⟩) n cp):=(Yj (HB.out.block a.b HT1.out.lt)).trans a3;have l3:wr.cell? ⟨b.b,3,none⟩=some (.slice (some ⟨g1,0,none⟩) n cq):=(Yj (HB.out.block b.b HT2.out.lt)).trans b3;have hxm:=Z1t (Yl hx)
   have HC:=lh (fun (W:World) (hW:Below wr.heap.size wr W)=>HIH.out x y (by have:=HNN.out; omega) (by have:=HMX.out; omega) (Zip HE4.out hx hy) W B1 B2 ((hTa.kid (Yl hx)).bel hW) ((hTb.kid (Yl hy)).bel hW));unfold ATree.ptr at HC;clear hTa hTb hra hrb hv0 hv1 hx hy hxm a0 a1 a2 a3 b0 b1 b2 b3;go_wp2_with fail
   refine Z1 [(true,0),(true,1),(true,2),(true,3),(true,4),(true,5),(true,6),(true,7),(true,8),(true,9),(true,10),(true,11),(true,12),(true,13)] [14,15] (fun W=>W.cell? ⟨a.b,3,none⟩=some (.slice (some ⟨g0,0,none⟩) n cp)∧W.cell? ⟨b.b,3,none⟩=some (.slice (some ⟨g1,0,none⟩) n cq)∧W.cell? ⟨g0,k,none⟩=some (.pointer (some ⟨x.b,0,none⟩))∧W.cell? ⟨g1,k,none⟩=some (.pointer (some ⟨y.b,0,none⟩))) (by kernel_rfl) (by kernel_rfl) (fun _ _ d _ _ h=>by cases d <;> exact h) ⟨j3,l3,cx,cy⟩ (fun hS0=>?_)
   simp only [Zf,zD,zE,zF,zG,zH,zI]
   iterate 14
    first
     | (refine Z2 ?_ (by rfl) (fun w' hS'=>?_) ?_; rotate_left; (obtain ⟨s0,s1,s2,s3⟩:=hS'; go_simp; first | done | with_reducible rfl); simp only [Act.put,zA,zB,zC])
     | (refine Z3 (by rfl) ?_; simp only [Act.put,zA,zB,zC])
   refine Z6 ?_;go_wp2_with fail
   refine (HC.out _ (by repeat (first | exact Y8 _ _ | refine Below.drew ?_))).mono ?_;rintro e w1 ⟨rfl,hb1⟩;have HB1:=lh (show Below w.heap.size w w1 from HB.out.trans (Below.mono (show Below wr.heap.size wr w1 from ((Y8 wr.heap.size wr).drew).trans hb1) HB.out.size));clear hb1 HC;go_wp2;go_roundw
   case rel=>exact ⟨k + 1,by omega,by go_num,HB1⟩
   case measure=>simp [intOf]; omega
  ·have hk2 : k = n := by omega
   subst hk2;go_wp2;go_ret;exact ⟨rfl,HB.out⟩
mutual
theorem Z97:∀ a:ATree,(a.subs.map ATree.b).Sublist a.blocks
 | .mk b v k t n ks => by
   simp only [ATree.subs,List.map_cons,ATree.b,ATree.blocks];exact List.Sublist.cons_cons _ ((Z7z ks).trans (by first | exact List.Sublist.refl _ | exact List.sublist_append_right _ _))
theorem Z7z:∀ l:List ATree,((Z2e l).map ATree.b).Sublist (Zw l)
 | []=>by simp [Z2e]
 | a :: l => by
   simp only [Z2e,Zw,List.map_append];exact List.Sublist.append (Z97 a) (Z7z l)
end
theorem Got.apart {w w':World} {B:Nat} {a:ATree} {t:Tree} (h:Got w B w' a t):(a.subs.map ATree.b).Nodup:=h.nodup.sublist (Z97 a)
def Zg3 (l:List (Nat×Nat)):Prop:=∀ (i:Nat) (x:Nat×Nat),l[i]?=some x→x.2=i
theorem Zg3.push {l:List (Nat×Nat)} (h:Zg3 l) (b:Nat):Zg3 (l ++ [(b,l.length)]):=by
 intro i x hx;rcases Nat.lt_or_ge i l.length with hi | hi
 ·rw [List.getElem?_append_left hi] at hx;exact h i x hx
 ·rw [List.getElem?_append_right hi] at hx;cases hd : i - l.length with
  | zero =>
    rw [hd] at hx;simp only [List.getElem?_cons_zero,Option.some.injEq] at hx;rw [← hx];simp only;omega
  | succ n=>rw [hd] at hx; simp at hx
mutual
theorem Zf6:∀ (a b:ATree),a.tree=b.tree→∀ l,Z5f Z2k a l=Z5f Z2k b l
 | .mk b1 v1 k1 t1 n1 ks1, .mk b2 v2 k2 t2 n2 ks2, h, l => by
   simp only [ATree.tree,Tree.mk.injEq] at h;obtain ⟨rfl,rfl,_,h⟩:=h;rw [Z61,Z61];have e1:Z2q (.mk b1 v1 k1 t1 n1 ks1)=Z2q (.mk b2 v2 k1 t1 n2 ks2):=rfl;have e2:ownV (.mk b1 v1 k1 t1 n1 ks1) l=ownV (.mk b2 v2 k1 t1 n2 ks2) l:=rfl;rw [e1,e2];simp only [ATree.kids];rw [Z6i ks1 ks2 h]
theorem Z6i:∀ (l1 l2:List ATree),Z0r l1=Z0r l2→∀ l,Z20 Z2k l1 l=Z20 Z2k l2 l
 | [],[],_,l=>rfl
 | [],_ :: _,h,_=>by simp [Z0r] at h
 | _ :: _,[],h,_=>by simp [Z0r] at h
 | a :: l1, b :: l2, h, l => by
   simp only [Z0r,List.cons.injEq] at h;simp only [Z20];rw [Zf6 a b h.1,Z6i l1 l2 h.2]
end
theorem Ze9 {a b:ATree} (h:a.tree=b.tree):Z4g a=Z4g b:=Z6i _ _ (Z52 h).2.2.2 _
theorem Z59 (p:ATree→Bool) (hp:∀ a b:ATree,a.kind=b.kind→p a=p b):∀ (l1 l2:List ATree),Z0r l1=Z0r l2→(l1.filter p).map ATree.text=(l2.filter p).map ATree.text
 | [],[],_=>rfl
 | [],_ :: _,h=>by simp [Z0r] at h
 | _ :: _,[],h=>by simp [Z0r] at h
 | a :: l1, b :: l2, h => by
   simp only [Z0r,List.cons.injEq] at h;have ih:=Z59 p hp l1 l2 h.2;obtain ⟨e1,e2,_,_⟩:=Z52 h.1;have e3:=hp a b e1;simp only [List.filter_cons];rw [e3];split;·simp only [List.map_cons,ih,e2]
   ·exact ih
theorem Zcy (a b:ATree) (h:a.kind=b.kind):Z1n a=Z1n b:=by unfold Z1n; rw [h]
theorem Zf3 (a b:ATree) (h:a.kind=b.kind):Z31 a=Z31 b:=by unfold Z31; rw [h]
theorem Z74 (l:List ByteArray) (ks:List ATree):Z0o l ks=(ks.map ATree.text).foldl addL l:=by
 unfold Z0o;rw [List.foldl_map]
theorem Z6p {a b:ATree} (h:a.tree=b.tree) (body:Bool):Z1k body a=Z1k body b:=by
 have hk:=(Z52 h).2.2.2;unfold Z1k;rw [Z74,Z74,Z74,Z74,Z59 Z1n Zcy _ _ hk,Z59 Z31 Zf3 _ _ hk,Ze9 h]
theorem Z0x.parts {w:World} {B:Nat} {v:Value} {l:List ATree} (h:Z0x w B v l):∃ p cp,v=.slice p l.length cp∧l.length≤cp∧cp≤9223372036854775807:=by
 rcases h.form with ⟨h1,h2⟩ | ⟨g,cap,h1,h2,h3⟩;·exact ⟨none,0,by rw [h1,h2]; rfl,by rw [h2]; exact Y5 _,by omega⟩
 ·unfold maxLen at h3; exact ⟨_,_,h1,h2,by omega⟩
theorem Zp.parts {w:World} {B:Nat} {v:Value} {l:List ByteArray} (h:Zp w B v l):∃ p cp,v=.slice p l.length cp∧l.length≤cp∧cp≤9223372036854775807:=by
 rcases h.form with ⟨h1,h2⟩ | ⟨g,cap,h1,h2,h3⟩;·exact ⟨none,0,by rw [h1,h2]; rfl,by rw [h2]; exact Y5 _,by omega⟩
 ·unfold maxLen at h3; exact ⟨_,_,h1,h2,by omega⟩
def Bnd (n:Nat) (p:PR):Prop:=∀ t ts,p=some (.ok (t,ts))→t.many + 2 * ts.length≤n
theorem Bnd.fail {n:Nat} {e:Int} {ts:List Tok}:Bnd n (Z2c e ts):=by intro t ts' h; cases h
theorem Bnd.none {n:Nat}:Bnd n none:=by intro t ts' h; cases h
theorem Bnd.err {n:Nat} {e:Int×Nat}:Bnd n (some (.error e)):=by intro t ts' h; cases h
theorem Bnd.ok {n:Nat} {t:Tree} {ts:List Tok} (h:t.many + 2 * ts.length≤n):Bnd n (okT t ts):=by
 intro t' ts' h';simp only [okT,Option.some.injEq,Except.ok.injEq,Prod.mk.injEq] at h';rw [← h'.1,← h'.2]; exact h
theorem Bnd.bind {n m:Nat} {p:PR} {k:Tree→List Tok→PR} (hp:Bnd m p) (hk:∀ t ts,t.many + 2 * ts.length≤m→Bnd n (k t ts)):Bnd n (Zx p k):=by
 cases p with
 | none=>exact Bnd.none
 | some r =>
   cases r with
   | error e=>exact Bnd.err
   | ok x=>obtain ⟨t,ts⟩:=x; exact hk t ts (hp t ts rfl)
theorem Bnd.want {n:Nat} {s:ByteArray} {ts:List Tok} {k:List Tok→PR} (hk:ts.tail.length < ts.length→Bnd n (k ts.tail)):Bnd n (Z0p s ts k):=by
 unfold Z0p;by_cases h:isT s ts=true;·rw [Yb h]; exact hk (Z00 h)
 ·rw [Y9 h]; exact Bnd.fail
theorem Bnd.name {n:Nat} {ts:List Tok} {k:ByteArray→List Tok→PR} (hk:∀ s,ts.tail.length < ts.length→Bnd n (k s ts.tail)):Bnd n (Z2w ts k):=by
 unfold Z2w;by_cases h:(hdT ts).kind=1;·rw [Yb h]; exact hk _ (Z3b (by omega))
 ·rw [Y9 h]; exact Bnd.fail
theorem Bnd.within {n d:Nat} {ts:List Tok} {p:PR} (h:Bnd n p):Bnd n (Z0e d ts p):=by
 unfold Z0e;by_cases h':30 < d + 1;·rw [Yb h']; exact Bnd.fail
 ·rw [Y9 h']; exact h
theorem Bnd.ite {n:Nat} {c:Prop} [Decidable c] {p q:PR} (hp:c→Bnd n p) (hq:¬ c→Bnd n q):Bnd n (if c then p else q):=by
 by_cases h:c;·rw [Yb h]; exact hp h
 ·rw [Y9 h]; exact hq h
theorem Bnd.comma {n:Nat} {c:Prop} [Decidable c] {ts:List Tok} {k:List Tok→PR} (hk:∀ ts',ts'.length≤ts.length→Bnd n (k ts')):Bnd n ((if c then Z0p Z0l ts else fun k=>k ts) k):=by
 by_cases h:c;·rw [Yb h]; exact Bnd.want fun h'=>hk _ (by omega)
 ·rw [Y9 h]; exact hk _ (Y5 _)
theorem Bnd.end' {n:Nat} {t:Tree} {ts:List Tok} (h:t.many + 2 * ts.length≤n + 2):Bnd n (endT t ts):=Bnd.want fun h'=>Bnd.ok (by omega)
def Job.base:Job→Nat
 | .stmts _ acc=>Z3r acc + 1
 | .params acc=>Z3r acc + 1
 | .try_=>1
 | .binLoop _ x=>x.many
 | .postLoop x=>x.many
 | .args acc=>Z3r acc + 1
 | .object acc=>Z3r acc + 1
 | _=>0
theorem Z5h (l m:List Tree):Z3r (l ++ m)=Z3r l + Z3r m:=by
 induction l with
 | nil=>simp [Z3r]
 | cons x l ih=>simp only [List.cons_append,Z3r,ih]; omega
theorem Z10 (k:Int) (s:ByteArray) (n:Int) (l:List Tree):(Tree.mk k s n l).many=Z3r l + 1:=by simp [Tree.many]
theorem Z1s (x:Tree):Z3r [x]=x.many:=by simp [Z3r]
theorem Z4e (x y:Tree):Z3r [x,y]=x.many + y.many:=by simp [Z3r]
theorem Zdb (x y z:Tree):Z3r [x,y,z]=x.many + y.many + z.many:=by simp [Z3r]; omega
theorem Z2l:Z3r []=0:=by simp [Z3r]
theorem Zhq (x:Tree):x.many=Z3r x.kids + 1:=by cases x; simp [Tree.many,Tree.kids]
theorem Zag:∀ (f:Nat) (job:Job) (d:Nat) (ts:List Tok),Bnd (job.base + 2 * ts.length) (Z0 f job d ts):=by
 intro f;induction f with
 | zero=>intro job d ts; exact Bnd.none
 | succ f ih =>
   intro job d ts;have htl:=Z0m ts;have ih':∀ (job:Job) (d:Nat) (us:List Tok) {n:Nat},job.base + 2 * us.length≤n→Bnd n (Z0 f job d us):=fun job d us n h t vs hp=>Ya (ih job d us t vs hp) h;cases job with
   | stmts kind acc =>
     rw [Z0];refine Bnd.ite (fun _=>Bnd.ok ?_) fun _=>Bnd.bind (Bnd.within (ih .stmt _ _)) fun t us h=>ih' _ _ _ ?_;·rw [Z10]; simp only [Job.base]; omega
     ·simp only [Job.base,Z5h,Z1s] at *; omega
   | block body =>
     rw [Z0];refine Bnd.want fun h1=>Bnd.bind (ih (.stmts 6 []) _ _) fun t us h=>Bnd.want fun h2=>Bnd.ok ?_;simp only [Job.base,Z2l] at *;cases body;·simp only [Bool.false_eq_true,if_false]; rw [Z10]; rw [Zhq] at h; omega
     ·simp only [if_true]; omega
   | func kind text =>
     rw [Z0];refine Bnd.want fun h1=>Bnd.bind (ih (.params []) _ _) fun t us h=>Bnd.want fun h2=>Bnd.bind (ih (.block true) _ _) fun t vs h3=>Bnd.ok ?_;simp only [Job.base,Z2l,Z10,Z4e] at *; omega
   | params acc =>
     rw [Z0];refine Bnd.ite (fun _=>Bnd.ok ?_) fun _=>Bnd.comma fun us h=>Bnd.ite (fun _=>Bnd.fail) fun _=>Bnd.name fun s h2=>ih' _ _ _ ?_;·rw [Z10]; simp only [Job.base]; omega
     ·simp only [Job.base,Z5h,Z1s,Z10,Z2l] at *; omega
   | around =>
     rw [Z0];refine Bnd.want fun h1=>Bnd.bind (ih .value _ _) fun t us h=>Bnd.want fun h2=>Bnd.ok ?_;simp only [Job.base] at *; omega
   | stmt =>
     rw [Z0];refine Bnd.ite (fun h=>ih' _ _ _ (by simp only [Job.base]; omega)) fun _=>?_;refine Bnd.ite (fun h=>Bnd.ok (by have:=Z00 h; simp only [Job.base,Z10,Z2l]; omega)) fun _=>?_;refine Bnd.ite (fun h=>Bnd.bind (ih _ _ _) fun t us h2=>Bnd.end' (by simp only [Job.base] at *; omega)) fun _=>?_;refine Bnd.ite (fun h=>Bnd.bind (ih _ _ _) fun t us h2=>Bnd.end' (by simp only [Job.base] at *; omega)) fun _=>?_;refine Bnd.ite (fun h=>Bnd.bind (ih _ _ _) fun t us h2=>Bnd.end' (by simp only [Job.base] at *; omega)) fun _=>?_
     refine Bnd.ite (fun h=>Bnd.name fun s h2=>ih' _ _ _ (by simp only [Job.base]; omega)) fun _=>?_;refine Bnd.ite (fun h=>?_) fun _=>?_
     ·have:=Z00 h;refine Bnd.bind (ih .around _ _) fun t us h2=>Bnd.bind (Bnd.within (ih .stmt _ _)) fun t vs h3=>?_;have:=Z0m vs;exact Bnd.ite (fun h4=>Bnd.bind (Bnd.within (ih .stmt _ _)) fun t xs h5=>Bnd.ok (by simp only [Job.base,Z10,Zdb] at *; omega)) fun _=>Bnd.ok (by simp only [Job.base,Z10,Z4e] at *; omega)
     refine Bnd.ite (fun h=>?_) fun _=>?_
     ·have:=Z00 h;exact Bnd.bind (ih .around _ _) fun t us h2=>Bnd.bind (Bnd.within (ih .stmt _ _)) fun t vs h3=>Bnd.ok (by simp only [Job.base,Z10,Z4e] at *; omega)
     refine Bnd.ite (fun h=>?_) fun _=>?_
     ·have:=Z00 h;exact Bnd.bind (ih .around _ _) fun t us h2=>Bnd.bind (Bnd.within (ih .stmt _ _)) fun t vs h3=>Bnd.ok (by simp only [Job.base,Z10,Z4e] at *; omega)
     refine Bnd.ite (fun h=>?_) fun _=>?_
     ·have:=Z00 h;exact Bnd.ite (fun h1=>Bnd.end' (by simp only [Job.base,Z10,Z2l] at *; omega)) fun _=>Bnd.bind (ih .value _ _) fun t us h2=>Bnd.end' (by simp only [Job.base,Z10,Z1s] at *; omega)
     refine Bnd.ite (fun h=>?_) fun _=>?_
     ·have:=Z00 h;exact Bnd.bind (ih .value _ _) fun t us h2=>Bnd.end' (by simp only [Job.base,Z10,Z1s] at *; omega)
     refine Bnd.ite (fun h=>ih' _ _ _ (by have:=Z00 h; simp only [Job.base]; omega)) fun _=>?_;exact Bnd.bind (ih .value _ _) fun t us h2=>Bnd.end' (by simp only [Job.base,Z10,Z1s] at *; omega)
   | decl kind must =>
     rw [Z0];refine Bnd.name fun s h=>Bnd.ite (fun _=>Bnd.fail) fun _=>Bnd.ite (fun h2=>Bnd.bind (ih .value _ _) fun t us h3=>Bnd.ok ?_) fun _=>Bnd.ok ?_;·have:=Z0m ts.tail; simp only [Job.base,Z10,Z1s] at *; omega
     ·simp only [Job.base,Z10,Z2l] at *; omega
   | try_ =>
     rw [Z0];refine Bnd.bind (ih (.block false) _ _) fun b us h=>?_;have hk:∀ (l:List Tree) (vs:List Tok),Z3r l + 2 * vs.length≤2 * ts.length→Bnd (1 + 2 * ts.length) (if isT Zy vs then Zx (Z0 f (.block false) d vs.tail) fun c ts=>okT (.mk 12 ByteArray.empty 0 (l ++ [.mk 14 ByteArray.empty 0 [c]])) ts else if l.length=1 then Z2c 3 vs else okT (.mk 12 ByteArray.empty 0 l) vs):=by
      intro l vs h2;refine Bnd.ite (fun h3=>Bnd.bind (ih (.block false) _ _) fun t xs h4=>Bnd.ok ?_) fun _=>Bnd.ite (fun _=>Bnd.fail) fun _=>Bnd.ok ?_;·have:=Z00 h3; simp only [Job.base,Z10,Z5h,Z1s] at *; omega
      ·rw [Z10]; omega
     refine Bnd.ite (fun h1=>?_) fun _=>hk _ _ (by simp only [Job.base,Z1s] at *; omega);have:=Z00 h1;refine Bnd.want fun h2=>Bnd.name fun s h3=>Bnd.want fun h4=>Bnd.bind (ih (.block false) _ _) fun c vs h5=>hk _ _ ?_;simp only [Job.base,Z10,Z1s,Z4e] at *; omega
   | value=>rw [Z0]; exact Bnd.within (ih' _ _ _ (by simp only [Job.base]; omega))
   | assign =>
     rw [Z0];refine Bnd.bind (ih (.bin 0) _ _) fun x us h=>Bnd.ite (fun h1=>Bnd.ite (fun _=>Bnd.bind (ih .value _ _) fun y vs h2=>Bnd.ok ?_) fun _=>Bnd.err) fun _=>Bnd.ok ?_;·have:=Z00 h1; simp only [Job.base,Z10,Z4e] at *; omega
     ·simp only [Job.base] at *; omega
   | bin level =>
     rw [Z0];refine Bnd.ite (fun h=>ih' _ _ _ (by simp only [Job.base]; omega)) fun h=>Bnd.bind (ih (.bin (level + 1)) _ _) fun x us h=>ih' _ _ _ (by simp only [Job.base] at *; omega)
   | binLoop level x =>
     rw [Z0];refine Bnd.ite (fun _=>Bnd.ok (by simp only [Job.base]; omega)) fun h0=>Bnd.bind (ih (.bin (level + 1)) _ _) fun y us h=>ih' _ _ _ ?_;have:=Z6k h0; simp only [Job.base,Z10,Z4e] at *; omega
   | unary =>
     rw [Z0];refine Bnd.ite (fun _=>ih' _ _ _ (by simp only [Job.base]; omega)) fun h0=>Bnd.bind (Bnd.within (ih .unary _ _)) fun y us h=>Bnd.ok ?_;have:=Z8l h0; simp only [Job.base,Z10,Z1s] at *; omega
   | postfix_ =>
     rw [Z0];exact Bnd.bind (ih .primary _ _) fun y us h=>ih' _ _ _ (by simp only [Job.base] at *; omega)
   | postLoop x =>
     rw [Z0];refine Bnd.ite (fun h=>Bnd.name fun s h2=>ih' _ _ _ ?_) fun _=>Bnd.ite (fun h=>?_) fun _=>Bnd.ok (by simp only [Job.base]; omega);·have:=Z00 h; simp only [Job.base,Z10,Z1s] at *; omega
     ·have:=Z00 h;exact Bnd.bind (ih (.args [x]) _ _) fun y us h=>ih' _ _ _ (by simp only [Job.base,Z1s] at *; omega)
   | args acc =>
     rw [Z0];refine Bnd.ite (fun h=>Bnd.ok ?_) fun _=>Bnd.comma fun us h=>Bnd.ite (fun _=>Bnd.fail) fun _=>Bnd.bind (ih .value _ _) fun y vs h2=>ih' _ _ _ ?_;·rw [Z10]; simp only [Job.base]; omega
     ·simp only [Job.base,Z5h,Z1s] at *; omega
   | primary =>
     rw [Z0];have:=Z0m ts.tail;refine Bnd.ite (fun h=>Bnd.ok ?_) fun _=>Bnd.ite (fun h=>Bnd.ok ?_) fun _=>Bnd.ite (fun h=>Bnd.ok ?_) fun _=>Bnd.ite (fun h=>Bnd.ok ?_) fun _=>?_;·have:=Z3b (ts:=ts) (by omega); simp only [Job.base,Z10,Z2l] at *; omega
     ·have:=Z3b (ts:=ts) (by omega); simp only [Job.base,Z10,Z2l] at *; omega
     ·have:=Z3b (ts:=ts) (by omega); simp only [Job.base,Z10,Z2l] at *; omega
     ·have:ts.tail.length < ts.length:=by
       unfold Z24 at h;by_cases h1:isT Z48 ts=true;·exact Z00 h1
       ·by_cases h2 : isT Z3a ts = true;·exact Z00 h2
        ·by_cases h3 : isT Z4w ts = true;·exact Z00 h3
         ·by_cases h4 : isT Z1c ts = true;·exact Z00 h4
          ·simp [h1,h2,h3,h4] at h
      simp only [Job.base,Z10,Z2l] at *; omega
     refine Bnd.ite (fun _=>ih' _ _ _ (by simp only [Job.base]; omega)) fun _=>?_;refine Bnd.ite (fun _=>Bnd.ite (fun _=>ih' _ _ _ (by simp only [Job.base]; omega)) fun _=>ih' _ _ _ (by simp only [Job.base]; omega)) fun _=>?_;exact Bnd.ite (fun h=>ih' _ _ _ (by have:=Z00 h; simp only [Job.base,Z2l]; omega)) fun _=>Bnd.fail
   | object acc =>
     rw [Z0];refine Bnd.ite (fun h=>Bnd.ok ?_) fun _=>Bnd.comma fun us h=>Bnd.ite (fun _=>Bnd.fail) fun _=>Bnd.name fun s h1=>Bnd.want fun h2=>Bnd.bind (ih .value _ _) fun y vs h3=>ih' _ _ _ ?_;·rw [Z10]; simp only [Job.base]; omega
     ·simp only [Job.base,Z5h,Z1s,Z10] at *; omega
def FAr (k:Int) (l:List Tree):Prop:=k=5∨k=37→∃ p b,l=[p,b]∧b.kind=6
theorem FAr.any {k:Int} {l:List Tree} (h:k≠5∧k≠37):FAr k l:=fun h'=>by omega
mutual
def FT:Tree→Prop
 | .mk k _ _ l=>FAr k l∧FTL l
def FTL:List Tree→Prop
 | []=>True
 | t :: l=>FT t∧FTL l
end
theorem Z93 {l m:List Tree} (h:FTL l) (g:FTL m):FTL (l ++ m):=by
 induction l with
 | nil=>exact g
 | cons x l ih=>exact ⟨h.1,ih h.2⟩
theorem FT.kids {t:Tree} (h:FT t):FTL t.kids:=by cases t; exact h.2
theorem FT.leaf {k:Int} {s:ByteArray} {n:Int} (h:k≠5∧k≠37):FT (.mk k s n []):=⟨FAr.any h,trivial⟩
def Fh (P:Tree→Prop) (p:PR):Prop:=∀ t ts,p=some (.ok (t,ts))→P t
theorem Fh.fail {P:Tree→Prop} {e:Int} {ts:List Tok}:Fh P (Z2c e ts):=by intro t ts' h; cases h
theorem Fh.none {P:Tree→Prop}:Fh P none:=by intro t ts' h; cases h
theorem Fh.err {P:Tree→Prop} {e:Int×Nat}:Fh P (some (.error e)):=by intro t ts' h; cases h
theorem Fh.ok {P:Tree→Prop} {t:Tree} {ts:List Tok} (h:P t):Fh P (okT t ts):=by
 intro t' ts' h';simp only [okT,Option.some.injEq,Except.ok.injEq,Prod.mk.injEq] at h';rw [← h'.1]; exact h
theorem Fh.bind {P Q:Tree→Prop} {p:PR} {k:Tree→List Tok→PR} (hp:Fh P p) (hk:∀ t ts,P t→Fh Q (k t ts)):Fh Q (Zx p k):=by
 cases p with
 | none=>exact Fh.none
 | some r =>
   cases r with
   | error e=>exact Fh.err
   | ok x=>obtain ⟨t,ts⟩:=x; exact hk t ts (hp t ts rfl)
theorem Fh.want {P:Tree→Prop} {s:ByteArray} {ts:List Tok} {k:List Tok→PR} (hk:Fh P (k ts.tail)):Fh P (Z0p s ts k):=by
 unfold Z0p;by_cases h:isT s ts=true;·rw [Yb h]; exact hk
 ·rw [Y9 h]; exact Fh.fail
theorem Fh.name {P:Tree→Prop} {ts:List Tok} {k:ByteArray→List Tok→PR} (hk:∀ s,Fh P (k s ts.tail)):Fh P (Z2w ts k):=by
 unfold Z2w;by_cases h:(hdT ts).kind=1;·rw [Yb h]; exact hk _
 ·rw [Y9 h]; exact Fh.fail
theorem Fh.within {P:Tree→Prop} {d:Nat} {ts:List Tok} {p:PR} (h:Fh P p):Fh P (Z0e d ts p):=by
 unfold Z0e;by_cases h':30 < d + 1;·rw [Yb h']; exact Fh.fail
 ·rw [Y9 h']; exact h
theorem Fh.ite {P:Tree→Prop} {c:Prop} [Decidable c] {p q:PR} (hp:c→Fh P p) (hq:¬ c→Fh P q):Fh P (if c then p else q):=by
 by_cases h:c;·rw [Yb h]; exact hp h
 ·rw [Y9 h]; exact hq h
theorem Fh.comma {P:Tree→Prop} {c:Prop} [Decidable c] {ts:List Tok} {k:List Tok→PR} (hk:∀ ts',Fh P (k ts')):Fh P ((if c then Z0p Z0l ts else fun k=>k ts) k):=by
 by_cases h:c;·rw [Yb h]; exact Fh.want (hk _)
 ·rw [Y9 h]; exact hk _
theorem Fh.end' {P:Tree→Prop} {t:Tree} {ts:List Tok} (h:P t):Fh P (endT t ts):=Fh.want (Fh.ok h)
theorem Fh.weak {P Q:Tree→Prop} {p:PR} (h:Fh P p) (g:∀ t,P t→Q t):Fh Q p:=fun t ts e=>g t (h t ts e)
def Job.res:Job→Tree→Prop
 | .stmts kind _=>fun t=>FT t∧t.kind=kind
 | .block _=>fun t=>FT t∧t.kind=6
 | _=>FT
def Job.goodX:Job→Prop
 | .stmts kind acc=>(kind=1∨kind=6)∧FTL acc
 | .func kind _=>kind=5∨kind=37
 | .params acc=>FTL acc
 | .decl kind _=>kind=2∨kind=3∨kind=4
 | .binLoop _ x=>FT x
 | .postLoop x=>FT x
 | .args acc=>FTL acc∧acc≠[]
 | .object acc=>FTL acc
 | _=>True
theorem Zhl (lv:Nat) (ts:List Tok):Z15 lv ts=0∨(25≤Z15 lv ts∧Z15 lv ts≤31):=by
 unfold Z15;split <;> (try split) <;> (try split) <;> omega
theorem Zhs (ts:List Tok):Z1y ts=0∨(32≤Z1y ts∧Z1y ts≤34):=by
 unfold Z1y;split <;> (try split) <;> (try split) <;> omega
theorem Zfx (ts:List Tok):Z24 ts=0∨(19≤Z24 ts∧Z24 ts≤22):=by
 unfold Z24;split <;> (try split) <;> (try split) <;> (try split) <;> omega
theorem Zby {k:Int} {s:ByteArray} {n:Int} {x y:Tree} (hx:FT x) (hy:FT y) (h:k≠5∧k≠37):FT (.mk k s n [x,y]):=⟨FAr.any h,hx,hy,trivial⟩
theorem Z6u {k:Int} {s:ByteArray} {n:Int} {x:Tree} (hx:FT x) (h:k≠5∧k≠37):FT (.mk k s n [x]):=⟨FAr.any h,hx,trivial⟩
theorem Z7s {k:Int} {s:ByteArray} {n:Int} {l:List Tree} (hx:FTL l) (h:k≠5∧k≠37):FT (.mk k s n l):=⟨FAr.any h,hx⟩
theorem Zcb:∀ (f:Nat) (job:Job) (d:Nat) (ts:List Tok),job.goodX→Fh job.res (Z0 f job d ts):=by
 intro f;induction f with
 | zero=>intro job d ts _; unfold Z0; exact Fh.none
 | succ f ih =>
   intro job d ts hg;cases job with
   | stmts kind acc =>
     unfold Z0;show Fh (fun t=>FT t∧t.kind=kind) _;refine Fh.ite (fun _=>Fh.ok ⟨Z7s hg.2 (by have:=hg.1; omega),rfl⟩) fun _=>?_;exact Fh.bind (Fh.within (ih .stmt _ _ trivial)) fun t ts' h=>ih _ _ _ ⟨hg.1,Z93 hg.2 ⟨h,trivial⟩⟩
   | block body =>
     unfold Z0;refine Fh.want (Fh.bind (ih (.stmts 6 []) _ _ ⟨.inr rfl,trivial⟩) fun t ts' h'=>Fh.want (Fh.ok ?_));show FT _∧_;by_cases hb:body=true;·rw [Yb hb]; exact h'
     ·rw [Y9 hb]; exact ⟨Z7s h'.1.kids (by omega),rfl⟩
   | func kind text =>
     unfold Z0;show Fh FT _;exact Fh.want (Fh.bind (ih (.params []) _ _ trivial) fun t ts' h'=>Fh.want (Fh.bind (ih (.block true) _ _ trivial) fun t ts' h3=>Fh.ok ⟨fun _=>⟨_,_,rfl,h3.2⟩,h',h3.1,trivial⟩))
   | params acc =>
     unfold Z0;show Fh FT _;refine Fh.ite (fun _=>Fh.ok (Z7s hg (by omega))) fun _=>?_;exact Fh.comma fun ts'=>Fh.ite (fun _=>Fh.fail) fun _=>Fh.name fun s=>ih _ _ _ (Z93 hg ⟨FT.leaf (by omega),trivial⟩)
   | around =>
     unfold Z0;show Fh FT _;exact Fh.want (Fh.bind (ih .value _ _ trivial) fun t ts' h'=>Fh.want (Fh.ok h'))
   | stmt =>
     unfold Z0;show Fh FT _;refine Fh.ite (fun h=>(ih (.block false) _ _ trivial).weak fun _ h=>h.1) fun _=>?_;refine Fh.ite (fun h=>Fh.ok (FT.leaf (by omega))) fun _=>?_;refine Fh.ite (fun h=>Fh.bind (ih (.decl 2 false) _ _ (.inl rfl)) fun t us h2=>Fh.end' h2) fun _=>?_;refine Fh.ite (fun h=>Fh.bind (ih (.decl 3 false) _ _ (.inr (.inl rfl))) fun t us h2=>Fh.end' h2) fun _=>?_;refine Fh.ite (fun h=>Fh.bind (ih (.decl 4 true) _ _ (.inr (.inr rfl))) fun t us h2=>Fh.end' h2) fun _=>?_;refine Fh.ite (fun h=>Fh.name fun s=>ih _ _ _ (.inl rfl)) fun _=>?_
     refine Fh.ite (fun h=>Fh.bind (ih .around _ _ trivial) fun x us h2=>Fh.bind (Fh.within (ih .stmt _ _ trivial)) fun y vs h3=>Fh.ite (fun h4=>Fh.bind (Fh.within (ih .stmt _ _ trivial)) fun z xs h5=>Fh.ok ⟨FAr.any (by omega),h2,h3,h5,trivial⟩) fun _=>Fh.ok (Zby h2 h3 (by omega))) fun _=>?_;refine Fh.ite (fun h=>Fh.bind (ih .around _ _ trivial) fun t us h2=>Fh.bind (Fh.within (ih .stmt _ _ trivial)) fun t vs h3=>Fh.ok (Zby h2 h3 (by omega))) fun _=>?_
     refine Fh.ite (fun h=>Fh.bind (ih .around _ _ trivial) fun t us h2=>Fh.bind (Fh.within (ih .stmt _ _ trivial)) fun t vs h3=>Fh.ok (Zby h2 h3 (by omega))) fun _=>?_;refine Fh.ite (fun h=>Fh.ite (fun h1=>Fh.end' (FT.leaf (by omega))) (fun _=>Fh.bind (ih .value _ _ trivial) fun t us h2=>Fh.end' (Z6u h2 (by omega)))) fun _=>?_;refine Fh.ite (fun h=>Fh.bind (ih .value _ _ trivial) fun t us h2=>Fh.end' (Z6u h2 (by omega))) fun _=>?_;refine Fh.ite (fun h=>ih _ _ _ trivial) fun _=>?_;exact Fh.bind (ih .value _ _ trivial) fun t us h2=>Fh.end' (Z6u h2 (by omega))
   | decl kind must =>
     have hk:kind=2∨kind=3∨kind=4:=hg;unfold Z0;show Fh FT _;exact Fh.name fun s=>Fh.ite (fun _=>Fh.fail) fun _=>Fh.ite (fun h2=>Fh.bind (ih .value _ _ trivial) fun t us h3=>Fh.ok (Z6u h3 (by omega))) fun _=>Fh.ok (FT.leaf (by omega))
   | try_ =>
     unfold Z0;show Fh FT _;refine Fh.bind (ih (.block false) _ _ trivial) fun b us h=>?_;have hk:∀ (l:List Tree) (vs:List Tok),FTL l→Fh FT (if isT Zy vs then Zx (Z0 f (.block false) d vs.tail) fun c ts=>okT (.mk 12 ByteArray.empty 0 (l ++ [.mk 14 ByteArray.empty 0 [c]])) ts else if l.length=1 then Z2c 3 vs else okT (.mk 12 ByteArray.empty 0 l) vs):=by
      intro l vs h2;exact Fh.ite (fun _=>Fh.bind (ih (.block false) _ _ trivial) fun t xs h3=>Fh.ok (Z7s (Z93 h2 ⟨Z6u h3.1 (by omega),trivial⟩) (by omega))) fun _=>Fh.ite (fun _=>Fh.fail) fun _=>Fh.ok (Z7s h2 (by omega))
     refine Fh.ite (fun h1=>?_) fun _=>hk _ _ ⟨h.1,trivial⟩;exact Fh.want (Fh.name fun s=>Fh.want (Fh.bind (ih (.block false) _ _ trivial) fun c vs h5=>hk _ _ ⟨h.1,Z6u h5.1 (by omega),trivial⟩))
   | value=>unfold Z0; exact Fh.within (ih _ _ _ trivial)
   | assign =>
     unfold Z0;show Fh FT _;exact Fh.bind (ih (.bin 0) _ _ trivial) fun x us h=>Fh.ite (fun h1=>Fh.ite (fun _=>Fh.bind (ih .value _ _ trivial) fun y vs h2=>Fh.ok (Zby h h2 (by omega))) fun _=>Fh.err) fun _=>Fh.ok h
   | bin level =>
     unfold Z0;show Fh FT _;exact Fh.ite (fun _=>ih _ _ _ trivial) fun _=>Fh.bind (ih (.bin (level + 1)) _ _ trivial) fun x us h=>ih _ _ _ h
   | binLoop level x =>
     unfold Z0;show Fh FT _;exact Fh.ite (fun _=>Fh.ok hg) fun h0=>Fh.bind (ih (.bin (level + 1)) _ _ trivial) fun y us h=>ih _ _ _ (show Job.goodX (.binLoop level (.mk (Z15 level ts) ByteArray.empty 0 [x,y])) from Zby (s:=ByteArray.empty) (n:=0) hg h (by have:=Zhl level ts; omega))
   | unary =>
     unfold Z0;show Fh FT _;exact Fh.ite (fun _=>ih _ _ _ trivial) fun h0=>Fh.bind (Fh.within (ih .unary _ _ trivial)) fun x us h=>Fh.ok (Z6u h (by have:=Zhs ts; omega))
   | postfix_ =>
     unfold Z0;show Fh FT _;exact Fh.bind (ih .primary _ _ trivial) fun x us h=>ih _ _ _ h
   | postLoop x =>
     unfold Z0;show Fh FT _;exact Fh.ite (fun _=>Fh.name fun s=>ih _ _ _ (show Job.goodX (.postLoop (.mk 36 s 0 [x])) from Z6u (s:=s) (n:=0) hg (by omega))) fun _=>Fh.ite (fun _=>Fh.bind (ih (.args [x]) _ _ ⟨⟨hg,trivial⟩,by simp⟩) fun n us h=>ih _ _ _ h) fun _=>Fh.ok hg
   | args acc =>
     unfold Z0;show Fh FT _;refine Fh.ite (fun _=>Fh.ok ⟨FAr.any (by omega),hg.1⟩) fun _=>?_;exact Fh.comma fun ts'=>Fh.ite (fun _=>Fh.fail) fun _=>Fh.bind (ih .value _ _ trivial) fun v us h=>ih _ _ _ ⟨Z93 hg.1 ⟨h,trivial⟩,by simp⟩
   | primary =>
     unfold Z0;show Fh FT _;refine Fh.ite (fun h=>Fh.ok (FT.leaf (by omega))) fun _=>?_;refine Fh.ite (fun h=>Fh.ok (FT.leaf (by omega))) fun _=>?_;refine Fh.ite (fun h=>Fh.ok (FT.leaf (by omega))) fun _=>?_;refine Fh.ite (fun h=>Fh.ok (FT.leaf (by have:=Zfx ts; omega))) fun _=>?_;refine Fh.ite (fun h=>ih _ _ _ trivial) fun _=>?_;refine Fh.ite (fun h=>Fh.ite (fun _=>ih _ _ _ (.inr rfl)) fun _=>ih _ _ _ (.inr rfl)) fun _=>?_;exact Fh.ite (fun h=>ih _ _ _ trivial) fun _=>Fh.fail
   | object acc =>
     unfold Z0;show Fh FT _;refine Fh.ite (fun _=>Fh.ok (Z7s hg (by omega))) fun _=>?_;exact Fh.comma fun ts'=>Fh.ite (fun _=>Fh.fail) fun _=>Fh.name fun s=>Fh.want (Fh.bind (ih .value _ _ trivial) fun v us h=>ih _ _ _ (Z93 hg ⟨Z6u h (by omega),trivial⟩))
theorem Z9h {text:ByteArray} {t:Tree} (h:Z0c text=.ok t):FT t∧t.kind=1:=by
 unfold Z0c at h;split at h;·cases h
 ·split at h;·cases h
  ·rename_i ts _;split at h;·cases h
   ·cases h
   ·rename_i t' ts' hp;split at h;·cases h
    ·have e : t' = t := by simpa using h
     subst e;exact Zcb _ _ _ _ (show Job.goodX (.stmts 1 []) from ⟨.inl rfl,trivial⟩) _ _ hp
theorem Z7h {text:ByteArray} {j k:Nat} {t:Tok} (h:Z11 text j=.ok (t,k)):t.kind≠6∧(t.kind=2→Z34 t.text=true)∧(t.kind=5→t.text=text.extract j (j + Zt text j)∧Z0k (Z8 text j)=false):=by
 unfold Z11 at h;simp only at h;split at h
 ·rename_i hl;split at h
  ·rename_i hw;simp only [Except.ok.injEq,Prod.mk.injEq] at h;obtain ⟨rfl,_⟩:=h;exact ⟨by simp,fun _=>hw,(fun h=>by simp at h)⟩
  ·split at h;·cases h
   ·simp only [Except.ok.injEq,Prod.mk.injEq] at h;obtain ⟨rfl,_⟩:=h;exact ⟨by simp,(fun h=>by simp at h),(fun h=>by simp at h)⟩
 ·rename_i hl;split at h
  ·split at h;·cases h
   ·split at h;·cases h
    ·simp only [Except.ok.injEq,Prod.mk.injEq] at h;obtain ⟨rfl,_⟩:=h;exact ⟨by simp,(fun h=>by simp at h),(fun h=>by simp at h)⟩
  ·split at h
   ·split at h;·cases h
    ·split at h;·cases h
     ·simp only [Except.ok.injEq,Prod.mk.injEq] at h;obtain ⟨rfl,_⟩:=h;exact ⟨by simp,(fun h=>by simp at h),(fun h=>by simp at h)⟩
   ·split at h;·cases h
    ·simp only [Except.ok.injEq,Prod.mk.injEq] at h;obtain ⟨rfl,_⟩:=h;exact ⟨by simp,(fun h=>by simp at h),fun _=>⟨rfl,by simpa using hl⟩⟩
theorem Zhi {s:ByteArray} (h:Z34 s=true):Z2v s=0:=by
 refine Decidable.byContradiction fun hs=>?_;have key:s=s_or∨s=Z67∨s=Z3w∨s=Z41∨s=Z4f∨s=Z54∨s=Z66:=by
  unfold Z2v Z0n at hs;simp only [decide_eq_true_eq] at hs;by_cases h1:s=s_or;·exact .inl h1
  by_cases h2:s=Z67;·exact .inr (.inl h2)
  by_cases h3:s=Z3w;·exact .inr (.inr (.inl h3))
  by_cases h4:s=Z41;·exact .inr (.inr (.inr (.inl h4)))
  by_cases h5:s=Z4f;·exact .inr (.inr (.inr (.inr (.inl h5))))
  by_cases h6:s=Z54;·exact .inr (.inr (.inr (.inr (.inr (.inl h6)))))
  by_cases h7:s=Z66;·exact .inr (.inr (.inr (.inr (.inr (.inr h7)))))
  simp [h1,h2,h3,h4,h5,h6,h7] at hs
 have no:∀ x,Z34 x=false→s=x→False:=fun x h1 h2=>by rw [h2,h1] at h; cases h
 rcases key with e | e | e | e | e | e | e;all_goals exact no _ (by kernel_rfl) e
theorem Zbb {s:ByteArray} (h:Z2o s≠0):Z0k (Z8 s 0)=true∧0 < s.size:=by
 unfold Z2o at h;by_cases h1:Z0n s Z48=true
 ·have : s = Z48 := by simpa [Z0n] using h1
  subst this; exact ⟨by kernel_rfl,by decide⟩
 by_cases h2:Z0n s Z3a=true
 ·have : s = Z3a := by simpa [Z0n] using h2
  subst this; exact ⟨by kernel_rfl,by decide⟩
 by_cases h3:Z0n s Z4w=true
 ·have : s = Z4w := by simpa [Z0n] using h3
  subst this; exact ⟨by kernel_rfl,by decide⟩
 by_cases h4:Z0n s Z1c=true
 ·have : s = Z1c := by simpa [Z0n] using h4
  subst this; exact ⟨by kernel_rfl,by decide⟩
 simp [h1,h2,h3,h4] at h
theorem Ze7 {text:ByteArray} {j k:Nat} {t:Tok} (hj:j < text.size) (h:Z11 text j=.ok (t,k)):Zjg t:=by
 obtain ⟨_,h2,h5⟩:=Z7h h;refine ⟨fun hk=>Zhi (h2 hk),fun hk=>?_⟩;obtain ⟨ht,hl⟩:=h5 hk;refine Decidable.byContradiction fun hc=>?_;obtain ⟨hb,hs⟩:=Zbb hc;have hsz:0 < Zt text j:=by
  unfold Zt;split;·omega
  ·split;·omega
   ·split <;> omega
 have hp:Z8 t.text 0=Z8 text j:=by
  rw [ht];have hle:(text.extract j (j + Zt text j)).size≤Zt text j:=by rw [ByteArray.size_extract]; omega
  by_cases hk:j + Zt text j≤text.size;·rw [Zq text (by omega) hk]; rfl
  ·have e:text.extract j (j + Zt text j)=text.extract j text.size:=by
    apply ByteArray.ext;simp only [ByteArray.data_extract];apply Array.ext
    ·simp only [Array.size_extract];have:text.size=text.data.size:=rfl;omega
    ·intro i h1 h2; simp only [Array.getElem_extract]
   rw [e,Zq text (by omega) (Y5 _)]; rfl
 rw [hp,hl] at hb;cases hb
theorem Z6q {text:ByteArray}:∀ (r:List Tok) (i:Nat),i≤text.size→Zen text i r→(∃ l e,r=l ++ [e]∧e.kind=6∧∀ t∈l,t.kind≠6)∧r.length + i≤text.size + 1∧Zu r:=by
 intro r;induction r with
 | nil=>intro i _ h; exact h.elim
 | cons t r ih =>
   intro i hi h;cases r with
   | nil =>
     obtain ⟨h1,h2⟩:=h;refine ⟨⟨[],t,rfl,by rw [h2],fun t ht=>by cases ht⟩,by simp; omega,fun x hx=>?_⟩;simp only [List.mem_singleton] at hx;subst hx;rw [h2];exact ⟨fun h=>by simp at h,fun h=>by simp at h⟩
   | cons u r =>
     obtain ⟨k,h1,h2,h3⟩:=h;obtain ⟨c1,c2,_⟩:=Z2r text h1 h2;obtain ⟨s1,_,_,_⟩:=Z26 Z1f text (text.size - i) i (Y5 _) hi;obtain ⟨⟨l,e,h4,h5,h6⟩,h7,h8⟩:=ih k c2 h3;refine ⟨⟨t :: l,e,by rw [h4]; rfl,h5,fun x hx=>?_⟩,?_,fun x hx=>?_⟩
     ·rcases List.mem_cons.1 hx with rfl | hx;·exact (Z7h h2).1
      ·exact h6 x hx
     ·simp only [List.length_cons] at h7 ⊢; omega
     ·rcases List.mem_cons.1 hx with rfl | hx;·exact Ze7 h1 h2
      ·exact h8 x hx
end Go.Proofs.YtmjfllklcpjddaaGreatDoor
