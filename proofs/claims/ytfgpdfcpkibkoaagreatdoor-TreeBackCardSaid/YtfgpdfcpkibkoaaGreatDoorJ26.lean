/- Package hoist: Names; tree.Strict. -/
import Derived.Test.YtfgpdfcpkibkoaaGreatDoorJ24
import Derived.Test.YtfgpdfcpkibkoaaGreatDoorJ25
import Derived.LaidEql
import Derived.RowKitTokens
import Derived.Lib.LaidTab
import Derived.LaidMore
import Derived.Stop.Joined
namespace Go.Proofs.YtfgpdfcpkibkoaaGreatDoor
open Go Go.RowKit
set_option maxRecDepth 100000
set_option maxHeartbeats 20000000
set_option linter.unusedVariables false
theorem Z5v.far {w w':World} {B B':Nat} {v v':Value} {l:List ATree} {ks:List ByteArray} (h:Z5v w B v l) (ht:Z49 w B' v' ks) (hf:∀ k,k < w.heap.size→v'.ownBlock≠some k→w'.heap[k]?=w.heap[k]?):Z5v w' B v l:=by
 refine Zr h fun k hk=>hf k (Y9 h k hk).2 fun e=>?_;obtain ⟨c1,f1,h1⟩:=Lib.ownsRow_kind h k hk;obtain ⟨c2,f2,h2⟩:=Lib.ownsRow_kind ht k e;rw [h1] at h2;simp only [Option.some.injEq,Obj.cells.injEq] at h2;exact absurd h2.2.1 (by decide)
end Go.Proofs.YtfgpdfcpkibkoaaGreatDoor
namespace Go.Proofs.YtfgpdfcpkibkoaaGreatDoor
open Go Go.RowKit Go.ChangeMaps Go.MapKept
set_option maxRecDepth 100000
set_option maxHeartbeats 20000000
set_option linter.unusedVariables false
def Zf5 (w:World) (k:Nat):Prop:=∃ c t,w.heap[k]?=some (.cells c t (0,0))
end Go.Proofs.YtfgpdfcpkibkoaaGreatDoor
namespace Go.Proofs.YtfgpdfcpkibkoaaGreatDoor
open Go Go.RowKit
set_option maxRecDepth 100000
set_option maxHeartbeats 20000000
set_option linter.unusedVariables false
theorem Zf5.bel {w0 w:World} {k:Nat} (h:Zf5 w0 k) (g:Below w0.heap.size w0 w):Zf5 w k:=by
 obtain ⟨c,t,h⟩:=h;exact ⟨c,t,(g.block k (Y1.1 h).1).trans h⟩
theorem TreeAt.cellsOf {w:World} {B:Nat} {a:ATree} (h:TreeAt w B a):Zf5 w a.b:=⟨_,_,h.blkOf⟩
structure QC where
 rb:Nat
 tb:Nat
 off:Nat
 cap:Nat
 L:List Tok
section
variable {w w':World} {C:QC} {i:Nat} {f:Option (Int×Nat)} {σ:RS}
end
structure KidsAt (w0:World) (B:Nat) (w:World) (kids:List ATree) (ts:List Tree):Prop where
 tree:Zh kids=ts
 at':∀ a∈kids,TreeAt w B a
 nodup:(Z09 kids).Nodup
 new:∀ x∈Z09 kids,w0.heap.size≤x∧x < w.heap.size
structure ListAt (w0:World) (B:Nat) (w:World) (v:Value) (kids:List ATree) (ts:List Tree):Prop where
 ks:KidsAt w0 B w kids ts
 row:w.ownsRow B 22 1 v kids.length (kids.map ATree.ptr)
 own:∀ g,v.ownBlock=some g→w0.heap.size≤g∧g < w.heap.size∧g ∉ Z09 kids
section
variable {w0 w w' w1 w2 wA:World} {B rb:Nat} {v:Value} {kids:List ATree} {ts:List Tree} {a:ATree} {t:Tree} {k n:Int} {tx:ByteArray} {b:Nat}
theorem KidsAt.nil:KidsAt w0 B w [] []:=⟨rfl,fun a ha=>(by cases ha),by simp [Z09],fun x hx=>by simp [Z09] at hx⟩
theorem KidsAt.rfr (h:KidsAt w0 B w kids ts) (hr:rb < B) (f:RFr w w' rb):KidsAt w0 B w' kids ts:=
 ⟨h.tree,fun a ha=>(h.at' a ha).rfr hr f,h.nodup,fun x hx=>⟨(h.new x hx).1,Y7 (h.new x hx).2 f.size⟩⟩
theorem KidsAt.pre (h:KidsAt w1 B w kids ts) (f:w0.heap.size≤w1.heap.size):KidsAt w0 B w kids ts:=
 ⟨h.tree,h.at',h.nodup,fun x hx=>⟨Y4 f (h.new x hx).1,(h.new x hx).2⟩⟩
theorem KidsAt.add (h:KidsAt w0 B w kids ts) (hA:∀ x∈Z09 kids,x < wA.heap.size) (A:Got wA B w a t) (h0:w0.heap.size≤wA.heap.size):KidsAt w0 B w (kids ++ [a]) (ts ++ [t]):=by
 refine ⟨by rw [Z20,h.tree]; simp [Zh,A.tree],fun x hx=>?_,?_,fun x hx=>?_⟩
 ·rcases List.mem_append.1 hx with hx | hx;·exact h.at' x hx
  ·simp only [List.mem_singleton] at hx; subst hx; exact A.at'
 ·rw [Z1t];simp only [Z09,List.append_nil,List.nodup_append];exact ⟨h.nodup,A.nodup,fun x hx y hy e=>by have h1:=hA x hx; have h2:=A.new y hy; omega⟩
 ·rw [Z1t] at hx;simp only [Z09, List.append_nil, List.mem_append] at hx;rcases hx with hx | hx;·exact h.new x hx
  ·have:=A.new x hx; omega
theorem KidsAt.one (A:Got w0 B w a t):KidsAt w0 B w [a] [t]:=KidsAt.nil.add (kids:=[]) (ts:=[]) (wA:=w0) (fun x hx=>by simp [Z09] at hx) A (Y0 _)
theorem KidsAt.two {a2:ATree} {t2:Tree} (A:Got w0 B w a t) (hA:∀ x∈a.blocks,x < wA.heap.size) (h0:w0.heap.size≤wA.heap.size) (A2:Got wA B w a2 t2):KidsAt w0 B w [a,a2] [t,t2]:=
 (KidsAt.one A).add (wA:=wA) (fun x hx=>hA x (by simpa [Z09] using hx)) A2 h0
theorem ListAt.nil:ListAt w0 B w (.slice none 0 0) [] []:=⟨KidsAt.nil,World.ownsRow_nil _ _ _ _,fun g hg=>by simp [Value.ownBlock] at hg⟩
theorem ListAt.rfr (h:ListAt w0 B w v kids ts) (hr:rb < B) (f:RFr w w' rb):ListAt w0 B w' v kids ts:=
 ⟨h.ks.rfr hr f,Zr h.row fun g hg=>f.block g (h.own g hg).2.1 (by have:=(h.row.lt g hg).1; omega),fun g hg=>⟨(h.own g hg).1,Y7 (h.own g hg).2.1 f.size,(h.own g hg).2.2⟩⟩
theorem ListAt.pre (h:ListAt w1 B w v kids ts) (f:w0.heap.size≤w1.heap.size):ListAt w0 B w v kids ts:=
 ⟨h.ks.pre f,h.row,fun g hg=>⟨Y4 f (h.own g hg).1,(h.own g hg).2⟩⟩
theorem KidsAt.lit (h:KidsAt w0 B w kids ts) (hBw:B≤w.heap.size) (h0:w0.heap.size≤w.heap.size) (hl:kids.length≤1000) :
 ListAt w0 B (w.alloc (.cells (kids.map ATree.ptr).toArray 22)) (.slice (some ⟨w.heap.size,0,none⟩) kids.length kids.length) kids ts:=by
 have hal:Below w.heap.size w (w.alloc (.cells (kids.map ATree.ptr).toArray 22)):=(Y2 _ _).alloc (Y0 _) _;refine ⟨⟨h.tree,fun a ha=>(h.at' a ha).bel hal,h.nodup,fun x hx=>⟨(h.new x hx).1,Y7 (h.new x hx).2 hal.size⟩⟩,Ze1 hBw hl,fun g hg=>?_⟩;simp only [Value.ownBlock,Option.some.injEq] at hg;subst hg;exact ⟨h0,by simp,fun hm=>by have:=(h.new _ hm).2; omega⟩
theorem ListAt.push {g cap:Nat} (L:ListAt w0 B w v kids ts) (hLA:∀ x∈Z09 kids,x < wA.heap.size) (hvA:∀ x,v.ownBlock=some x→x < wA.heap.size) (A:Got wA B w a t) (h0:w0.heap.size≤wA.heap.size) (hAw:wA.heap.size≤w.heap.size)
 (hB1:Below w.heap.size w w1) (hg:w1.grownBy w2 v.ownBlock) (hown:w2.ownsRow B 22 1 (.slice (some ⟨g,0,none⟩) (kids.length + 1) cap) (kids.length + 1) (kids.map ATree.ptr ++ [a.ptr]))
 (hat:v.ownBlock=some g∨w.heap.size≤g) (hgl:g < w2.heap.size) (hF:RFr w0 w rb) :
 ListAt w0 B w2 (.slice (some ⟨g,0,none⟩) (kids.length + 1) cap) (kids ++ [a]) (ts ++ [t])∧(∀ x,x < w.heap.size→v.ownBlock≠some x→w2.heap[x]?=w.heap[x]?)∧w.heap.size≤w2.heap.size ∧
  RFr w0 w2 rb:=by
 have hs1:w.heap.size≤w2.heap.size:=Y4 hB1.size hg.size;have far:∀ x,x < w.heap.size→v.ownBlock≠some x→w2.heap[x]?=w.heap[x]?:=fun x hx hn=>(hg.block x (Y7 hx hB1.size) (fun e=>hn e.symm)).trans (hB1.block x hx);have hv:∀ x,v.ownBlock=some x→w0.heap.size≤x∧x < wA.heap.size:=fun x hx=>⟨(L.own x hx).1,hvA x hx⟩;have hgk:g ∉ Z09 kids:=fun hm=>by
  rcases hat with h | h;·exact (L.own g h).2.2 hm
  ·have:=(L.ks.new g hm).2; omega
 have hga:g ∉ a.blocks:=fun hm=>by
  have h1:=A.new g hm;rcases hat with h | h;·have:=hv g h; omega
  ·omega
 have hg0:w0.heap.size≤g:=by
  rcases hat with h | h;·exact (hv g h).1
  ·have:=hF.size; omega
 have hkeep:∀ x∈Z09 kids,w2.heap[x]?=w.heap[x]?:=fun x hx=>far x (L.ks.new x hx).2 fun e=>(L.own x e).2.2 hx;have hkeepA:∀ x∈a.blocks,w2.heap[x]?=w.heap[x]?:=fun x hx=>far x (A.new x hx).2 fun e=>by have h1:=hv x e; have h2:=A.new x hx; omega
 refine ⟨⟨⟨?_,fun x hx=>?_,?_,fun x hx=>?_⟩,?_,fun g' hg'=>?_⟩,far,hs1,⟨?_,?_,?_,?_,?_⟩⟩;·rw [Z20,L.ks.tree]; simp [Zh,A.tree]
 ·rcases List.mem_append.1 hx with hx | hx
  ·refine (L.ks.at' x hx).keepB fun y hy=>hkeep y ?_;rw [Z1x]; exact List.mem_flatMap.2 ⟨x,hx,hy⟩
  ·simp only [List.mem_singleton] at hx; subst hx; exact A.at'.keepB hkeepA
 ·rw [Z1t];simp only [Z09,List.append_nil,List.nodup_append];exact ⟨L.ks.nodup,A.nodup,fun x hx y hy e=>by have h1:=hLA x hx; have h2:=A.new y hy; omega⟩
 ·rw [Z1t] at hx;simp only [Z09, List.append_nil, List.mem_append] at hx;rcases hx with hx | hx;·have := L.ks.new x hx; omega
  ·have:=A.new x hx; omega
 ·rw [Yi,List.map_append]; exact hown
 ·simp only [Value.ownBlock,Option.some.injEq] at hg';subst hg';refine ⟨hg0,hgl,fun hm=>?_⟩;rw [Z1t] at hm;simp only [Z09,List.append_nil,List.mem_append] at hm;exact hm.elim hgk hga
 ·exact (hg.os.trans hB1.os).trans hF.os
 ·exact (hg.tape.trans hB1.tape).trans hF.tape
 ·exact (hg.output.trans hB1.output).trans hF.output
 ·have:=hF.size; omega
 ·intro x hx hn;have:=hF.size;exact (far x (by omega) (fun e=>by have:=hv x e; omega)).trans (hF.block x hx hn)
theorem ListAt.node (L:ListAt w0 B w v kids ts) (hBw:B≤w.heap.size) (h0:w0.heap.size≤w.heap.size) :
 Got w0 B (w.alloc (.cells #[.int .i64 k,.string tx,.int .i64 n,v] 37)) (.mk w.heap.size v k tx n kids) (.mk k tx n ts):=by
 refine ⟨by simp [ATree.tree,L.ks.tree],TreeAt.new hBw L.row L.ks.at',?_,fun x hx=>?_⟩
 ·simp only [ATree.blocks, List.nodup_cons, List.mem_append, List.nodup_append, Option.mem_toList, not_or];refine ⟨⟨fun e => by have := (L.own _ e).2.1; omega, fun hm => by have := (L.ks.new _ hm).2; omega⟩, ?_, L.ks.nodup, fun x hx y hy e => ?_⟩;·cases v.ownBlock <;> simp
  ·subst e; exact (L.own x hx).2.2 hy
 ·simp only [ATree.blocks, List.mem_cons, List.mem_append, Option.mem_toList] at hx;rw [World.size_alloc];rcases hx with rfl | hx | hx;·omega
  ·have:=L.own x hx; omega
  ·have:=L.ks.new x hx; omega
theorem ListAt.apart (L:ListAt w1 B w v kids ts) (hb:b < w1.heap.size):v.ownBlock≠some b∧b ∉ Z09 kids:=
 ⟨fun e=>by have:=(L.own b e).1; omega,fun hm=>by have:=(L.ks.new b hm).1; omega⟩
theorem Got.list (N:Got w0 B w (.mk b v k tx n kids) t):ListAt w0 B w v kids (Zh kids)∧v.ownBlock≠some b∧b ∉ Z09 kids:=by
 have hnd:=N.nodup;simp only [ATree.blocks,List.nodup_cons,List.mem_append,List.nodup_append,Option.mem_toList,not_or] at hnd;obtain ⟨⟨hb1,hb2⟩,_,hk1,hk2⟩:=hnd;exact ⟨⟨⟨rfl,fun a ha=>N.at'.kid (k:=a) ha,hk1,fun x hx=>N.new x (by simp [ATree.blocks,hx])⟩,N.at'.rowOf,fun g hg=>⟨(N.new g (by simp [ATree.blocks,hg])).1,(N.new g (by simp [ATree.blocks,hg])).2,fun hm=>hk2 g hg g hm rfl⟩⟩,hb1,hb2⟩
end
theorem Zdc (a:ATree):a.kids.length < a.many:=by
 have key:∀ l:List ATree,l.length≤Z3r l:=by
  intro l;induction l with
  | nil=>simp [Z3r]
  | cons x l ih =>
    simp only [Z3r,List.length_cons];have:0 < x.many:=by cases x; simp [ATree.many]
    omega
 obtain ⟨b,v,k,t,n,ks⟩:=a;have:=key ks;simp only [ATree.kids,ATree.many];omega
theorem Zbb {a b:ATree} (h:a.tree=b.tree):a.kind=b.kind∧a.text=b.text∧a.n=b.n∧Zh a.kids=Zh b.kids:=by
 cases a; cases b;simp only [ATree.tree,Tree.mk.injEq] at h;exact h
theorem Ze5 {l m:List ATree} (h:Zh l=Zh m):l.length=m.length:=by
 have:=congrArg List.length h;rwa [Z1j,Z1j,Yl,Yl] at this
theorem Zeo {l m:List ATree} {k:Nat} {x y:ATree} (h:Zh l=Zh m) (hx:l[k]?=some x) (hy:m[k]?=some y):x.tree=y.tree:=by
 rw [Z1j,Z1j] at h;have:=congrArg (fun r=>r[k]?) h;simp only [List.getElem?_map,hx,hy,Option.map_some,Option.some.injEq] at this;exact this
theorem Zf6 (n0:Nat):∀ (a b:ATree),a.many≤n0→a.many≤100000→a.tree=b.tree→∀ (w:World) (B1 B2:Nat),TreeAt w B1 a→TreeAt w B2 b →
 Calls Tryz.prog 9 #[a.ptr,b.ptr] w fun e w'=>e=.returned (.bool true)∧Below w.heap.size w w':=by
 induction n0 with
 | zero=>intro a b h; cases a; simp [ATree.many] at h
 | succ n0 ih=>
 intro a b hn hmx hab w B1 B2 hT1 hT2;have HIH:=lh ih;obtain ⟨e1,e2,e3,e4⟩:=Zbb hab;have e5:=Ze5 e4;obtain ⟨p,cp,hv,hge,hgm⟩:=hT1.vOf;obtain ⟨q,cq,hw,hhe,hhm⟩:=hT2.vOf;have a0:=hT1.c0;have a1:=hT1.c1;have a3:=hT1.c3;have b0:=hT2.c0;have b1:=hT2.c1;have b3:=hT2.c3;have a2:w.cell? ⟨a.b,2,none⟩=some (.int .i64 a.n):=by simp [World.cell?,hT1.blkOf]
 have b2:w.cell? ⟨b.b,2,none⟩=some (.int .i64 b.n):=by simp [World.cell?,hT2.blkOf]
 rw [← e1] at b0;rw [← e2] at b1;rw [← e3] at b2;rw [hv] at a3;rw [hw,← e5] at b3;rw [← e5] at hhe;have hkm:=Zdc a;have hlen:a.kids.length≤100000:=by omega
 have HT1:=lh hT1;have HT2:=lh hT2;have HV:=lh hv;have HW:=lh hw;have HE4:=lh e4;have HNN:=lh hn;have HMX:=lh hmx;unfold ATree.ptr;obtain ⟨n,hnn⟩:=zX a.kids.length
 rw [← hnn] at a3 b3 hge hhe hlen e5;have HN:=lh hnn;have HN2:=lh e5;obtain ⟨kd,hkd⟩:=zX a.kind
 obtain ⟨tx,htx⟩:=zX a.text
 obtain ⟨nn,hnv⟩:=zX a.n
 rw [← hkd] at a0 b0;rw [← htx] at a1 b1;rw [← hnv] at a2 b2;have hkk:(kd == kd)=true:=beq_self_eq_true _;have htt:(tx.toList == tx.toList)=true:=beq_self_eq_true _;have hvv:(nn == nn)=true:=beq_self_eq_true _;have hll:((n:Int) == (n:Int))=true:=beq_self_eq_true _;clear hab hn hmx e1 e2 e3 e4 e5 hv hw hkm hnn hkd htx hnv hT1 hT2 ih;go_enter Tryz.func9,Tryz.ntmps9
 go_wp2_with fail
 refine Z5 [(true,0),(true,1),(true,2),(true,3),(true,4),(true,5),(true,6),(true,7),(true,8),(true,9),(true,10),(true,11),(true,12),(true,13),(true,14),(true,15),(true,16),(true,17),(true,18),(true,19),(true,20),(true,21),(true,22),(true,23),(true,24),(true,25),(true,26),(true,27),(true,28),(true,29),(true,30),(true,31),(true,32),(true,33),(true,34),(true,35),(true,36),(true,37),(true,38),(true,39),(true,40),(true,41)] [42,43] (fun W=>W.cell? ⟨a.b,0,none⟩=some (.int .i64 kd)∧W.cell? ⟨b.b,0,none⟩=some (.int .i64 kd)∧W.cell? ⟨a.b,1,none⟩=some (.string tx)∧W.cell? ⟨b.b,1,none⟩=some (.string tx)∧W.cell? ⟨a.b,2,none⟩=some (.int .i64 nn)∧W.cell? ⟨b.b,2,none⟩=some (.int .i64 nn)∧W.cell? ⟨a.b,3,none⟩=some (.slice p n cp)∧W.cell? ⟨b.b,3,none⟩=some (.slice q n cq)) (by kernel_rfl) (by kernel_rfl) (fun _ _ d _ _ h=>by cases d <;> exact h) ⟨a0,b0,a1,b1,a2,b2,a3,b3⟩ (fun hS0=>?_)
 simp only [Zk,zD,zE,zF,zG,zH,zI]
 iterate 42
  first
   | (refine Z7 ?_ (by rfl) (fun w' hS'=>?_) ?_; rotate_left; (obtain ⟨s0,s1,s2,s3,s4,s5,s6,s7⟩:=hS'; go_simp; first | done | with_reducible rfl); simp only [Act.put,zA,zB,zC])
   | (refine Z9 (by rfl) ?_; simp only [Act.put,zA,zB,zC])
 refine Zc ?_;go_wp2_with fail
 go_loopw [64] (fun i wr=>∃ (k:Nat),k≤n∧i=.int .i64 k∧Hid (Below w.heap.size w wr)) (fun i _=>n - (intOf i).toNat)
 case atStart=>exact ⟨0,Yh _,rfl,lh (by repeat (first | exact Y2 _ _ | refine Below.drew ?_))⟩
 case round=>
  obtain ⟨k,hk,rfl,HB⟩:=hrel;by_cases hkn:k < n
  ·obtain ⟨x, hx⟩ : ∃ x, a.kids[k]? = some x := ⟨_, Y6 (by rw [← HN.out]; exact hkn)⟩
   obtain ⟨y,hy⟩:∃ y,b.kids[k]?=some y:=⟨_,Y6 (by rw [← HN2.out]; exact hkn)⟩
   have hTa:=HT1.out.bel HB.out;have hTb:=HT2.out.bel HB.out;have hra:=hTa.rowOf;have hrb:=hTb.rowOf;rcases Zm hra with ⟨_,h2⟩ | ⟨g0,cap0,hv0,_⟩;·rw [← HN.out] at h2; omega
   rcases Zm hrb with ⟨_,h2⟩ | ⟨g1,cap1,hv1,_⟩;·rw [← HN2.out] at h2; omega
   have hp:p=some ⟨g0,0,none⟩:=by
    have:=HV.out.symm.trans hv0;simp only [Value.slice.injEq] at this;exact this.1
   have hq:q=some ⟨g1,0,none⟩:=by
    have:=HW.out.symm.trans hv1;simp only [Value.slice.injEq] at this;exact this.1
   subst hp hq;have cx:=Z10 hra (g:=g0) (by rw [hv0]; rfl) (i:=k) (x:=x.ptr) (by rw [Yg,hx]; rfl);have cy:=Z10 hrb (g:=g1) (by rw [hv1]; rfl) (i:=k) (x:=y.ptr) (by rw [Yg,hy]; rfl);unfold ATree.ptr at cx cy;have j3:wr.cell? ⟨a.b,3,none⟩=some (.slice (some ⟨g0,0,none⟩) n cp):=(Yb (HB.out.block a.b HT1.out.lt)).trans a3;have l3:wr.cell? ⟨b.b,3,none⟩=some (.slice (some ⟨g1,0,none⟩) n cq):=(Yb (HB.out.block b.b HT2.out.lt)).trans b3;have hxm:=Zai (Yd hx)
   have HC:=lh (fun (W:World) (hW:Below wr.heap.size wr W)=>HIH.out x y (by have:=HNN.out; omega) (by have:=HMX.out; omega) (Zeo HE4.out hx hy) W B1 B2 ((hTa.kid (Yd hx)).bel hW) ((hTb.kid (Yd hy)).bel hW));unfold ATree.ptr at HC;clear hTa hTb hra hrb hv0 hv1 hx hy hxm a0 a1 a2 a3 b0 b1 b2 b3;go_wp2_with fail
   refine Z5 [(true,0),(true,1),(true,2),(true,3),(true,4),(true,5),(true,6),(true,7),(true,8),(true,9),(true,10),(true,11),(true,12),(true,13)] [14,15] (fun W=>W.cell? ⟨a.b,3,none⟩=some (.slice (some ⟨g0,0,none⟩) n cp)∧W.cell? ⟨b.b,3,none⟩=some (.slice (some ⟨g1,0,none⟩) n cq)∧W.cell? ⟨g0,k,none⟩=some (.pointer (some ⟨x.b,0,none⟩))∧W.cell? ⟨g1,k,none⟩=some (.pointer (some ⟨y.b,0,none⟩))) (by kernel_rfl) (by kernel_rfl) (fun _ _ d _ _ h=>by cases d <;> exact h) ⟨j3,l3,cx,cy⟩ (fun hS0=>?_)
   simp only [Zk,zD,zE,zF,zG,zH,zI]
   iterate 14
    first
     | (refine Z7 ?_ (by rfl) (fun w' hS'=>?_) ?_; rotate_left; (obtain ⟨s0,s1,s2,s3⟩:=hS'; go_simp; first | done | with_reducible rfl); simp only [Act.put,zA,zB,zC])
     | (refine Z9 (by rfl) ?_; simp only [Act.put,zA,zB,zC])
   refine Zc ?_;go_wp2_with fail
   refine (HC.out _ (by repeat (first | exact Y2 _ _ | refine Below.drew ?_))).mono ?_;rintro e w1 ⟨rfl,hb1⟩;have HB1:=lh (show Below w.heap.size w w1 from HB.out.trans (Below.mono (show Below wr.heap.size wr w1 from ((Y2 wr.heap.size wr).drew).trans hb1) HB.out.size));clear hb1 HC;go_wp2;go_roundw
   case rel=>exact ⟨k + 1,by omega,by go_num,HB1⟩
   case measure=>simp [intOf]; omega
  ·have hk2 : k = n := by omega
   subst hk2;go_wp2;go_ret;exact ⟨rfl,HB.out⟩
end Go.Proofs.YtfgpdfcpkibkoaaGreatDoor
namespace Go.Proofs.YtfgpdfcpkibkoaaGreatDoor
open Go.RowKit Go.Extern.Stop Go.Stop Go.Extern
set_option maxRecDepth 100000
set_option maxHeartbeats 20000000
theorem Tryz.valueOf27 (t:Addr) (w:World):(ReflectliteValue.unpack (.iface 58 (.pointer (some t)))).run Tryz.prog w
 = .ok (.agg #[.pointer (some ⟨9,58,none⟩),.pointer (some ⟨w.heap.size,0,none⟩),.int .u64 150]) (w.alloc (.cells #[.pointer (some t)] 58)):=by kernel_rfl
theorem Tryz.type27 (a : Addr) (w : World) : (ReflectliteValue.methodAny (ReflectliteValue.valueError "reflectlite.Value.Type" 0) (fun t _ _ _ => ReflectliteType.toType t) #[.agg #[.pointer (some ⟨9, 58, none⟩), .pointer (some a), .int .u64 150]]).run Tryz.prog w
 = .ok (.iface 107 (.agg #[.pointer (some ⟨9,58,none⟩)])) w:=by kernel_rfl
theorem Tryz.methodKind (h : Value) (w : World) : (Go.method 349 107 (.agg #[h]) "Kind").run Tryz.prog w = .ok (134, h) w := by kernel_rfl
theorem Tryz.kind27 (w:World):((ReflectliteType.abiMethod fun t=>(fun a:Nat=>Value.int IntKind.u8 (a:Int)) <$> Rtype.kind t) #[.pointer (some ⟨9,58,none⟩)]).run Tryz.prog w=.ok (.int .u8 22) w:=by kernel_rfl
theorem Tryz.kind25 (w:World):((ReflectliteType.abiMethod fun t=>(fun a:Nat=>Value.int IntKind.u8 (a:Int)) <$> Rtype.kind t) #[.pointer (some ⟨9,31,none⟩)]).run Tryz.prog w=.ok (.int .u8 2) w:=by kernel_rfl
theorem rlm (z:Sem Value) (f:TypeId→Addr→Nat→Nat→Sem Value) (v:Value) :
 ReflectliteValue.method z f #[v]=(do match ← ReflectliteValue.parts v with | none=>z | some (t,a,fl)=>f t a fl (fl % 32)):=rfl
theorem Tryz.parts27 (a:Addr) (w:World):(ReflectliteValue.parts (.agg #[.pointer (some ⟨9,58,none⟩),.pointer (some a),.int .u64 150])).run Tryz.prog w=.ok (some (58,a,150)) w:=by kernel_rfl
theorem Tryz.isNil27 (a p:Addr) (W:World) (ha:W.cell? a=some (.pointer (some p))) :
 (ReflectliteValue.method (ReflectliteValue.valueError "reflectlite.Value.IsNil" 0) ReflectliteValue.isNil #[.agg #[.pointer (some ⟨9, 58, none⟩), .pointer (some a), .int .u64 150]]).run Tryz.prog W = .ok (.bool false) W := by
 rw [rlm];simp only [Sem.run_bind,Tryz.parts27,Result.andThen];simp [ReflectliteValue.isNil,loadVar,isAgg,underlying,Tryz.underlying58,ha,Result.andThen]
theorem Tryz.methodElem (h : Value) (w : World) : (Go.method 349 107 (.agg #[h]) "Elem").run Tryz.prog w = .ok (147, .agg #[h]) w := by kernel_rfl
theorem Tryz.methodImplements (h : Value) (w : World) : (Go.method 349 107 (.agg #[h]) "Implements").run Tryz.prog w = .ok (148, .agg #[h]) w := by kernel_rfl
theorem Tryz.methodAssignableTo (h : Value) (w : World) : (Go.method 349 107 (.agg #[h]) "AssignableTo").run Tryz.prog w = .ok (145, .agg #[h]) w := by kernel_rfl
theorem Tryz.elem27 (w:World):(ReflectliteType.method ReflectliteType.elem #[.agg #[.pointer (some ⟨9,58,none⟩)]]).run Tryz.prog w=.ok (.iface 107 (.agg #[.pointer (some ⟨9,31,none⟩)])) w:=by kernel_rfl
theorem Tryz.implements25 (w : World) : (ReflectliteType.relation "Implements" ReflectliteType.implements_ #[.agg #[.pointer (some ⟨9, 31, none⟩)], .iface 107 (.agg #[.pointer (some ⟨9, 28, none⟩)])]).run Tryz.prog w = .ok (.bool true) w := by kernel_rfl
theorem Tryz.typeOf25 (v:Value) (w:World):(ReflectliteType.typeOf #[.iface 31 v]).run Tryz.prog w=.ok (.iface 107 (.agg #[.pointer (some ⟨9,31,none⟩)])) w:=by kernel_rfl
theorem Tryz.assignable25 (w : World) : (ReflectliteType.relation "AssignableTo" ReflectliteType.assignableTo #[.agg #[.pointer (some ⟨9, 31, none⟩)], .iface 107 (.agg #[.pointer (some ⟨9, 31, none⟩)])]).run Tryz.prog w = .ok (.bool true) w := by kernel_rfl
theorem Tryz.valueOf25 (e:Int) (w:World):(ReflectliteValue.unpack (.iface 31 (.int .i64 e))).run Tryz.prog w
 = .ok (.agg #[.pointer (some ⟨9,31,none⟩),.pointer (some ⟨w.heap.size,0,none⟩),.int .u64 130]) (w.alloc (.cells #[.int .i64 e] 31)):=by kernel_rfl
theorem Tryz.elemOf27 (w:World):(Rtype.elem? 58).run Tryz.prog w=.ok (some 31) w:=by kernel_rfl
theorem Tryz.mk25 (p:Addr) (w:World):(ReflectliteValue.mk 31 p ReflectliteValue.flagAddr).run Tryz.prog w=.ok (.agg #[.pointer (some ⟨9,31,none⟩),.pointer (some p),.int .u64 386]) w:=by kernel_rfl
theorem Tryz.elemV27 (a p:Addr) (W:World) (ha:W.cell? a=some (.pointer (some p))) :
 (ReflectliteValue.method (ReflectliteValue.valueError "reflectlite.Value.Elem" 0) ReflectliteValue.elem #[.agg #[.pointer (some ⟨9, 58, none⟩), .pointer (some a), .int .u64 150]]).run Tryz.prog W
  = .ok (.agg #[.pointer (some ⟨9,31,none⟩),.pointer (some p),.int .u64 386]) W:=by
 rw [rlm];simp only [Sem.run_bind,Tryz.parts27,Result.andThen];simp [ReflectliteValue.elem,loadVar,isAgg,underlying,Tryz.underlying58,ha,Result.andThen,Tryz.elemOf27,Tryz.mk25]
theorem rls (v x:Value):ReflectliteValue.set #[v,x]=(do
 let (some (dst,a,fl),some (src,b,_)):=(← ReflectliteValue.parts v,← ReflectliteValue.parts x)
  | unsupported (.noEntry "extern/(internal/reflectlite.Value).Set.zeroValue")
 if fl / ReflectliteValue.flagAddr % 2 == 0 then unsupported (.noEntry "extern/(internal/reflectlite.Value).Set.unaddressable")
 let val ← loadVar src b
 if ← Rtype.directlyAssignable dst src then storeVar dst a val
 else if ← Rtype.implements dst src then
  if (← Rtype.kind src) == 20 then
   match val with
   | .nilIface => unsupported (.noEntry "extern/reflectlite: a nil value of one interface type handed on as a value of another")
   | _=>storeVar dst a val
  else storeVar dst a (.iface src val)
 else panicString ("reflectlite.Set: value of type " ++ (← Rtype.spelt src) ++ " is not assignable to type " ++ (← Rtype.spelt dst))
 pure (.tuple #[])):=rfl
theorem Tryz.parts25a (a:Addr) (w:World):(ReflectliteValue.parts (.agg #[.pointer (some ⟨9,31,none⟩),.pointer (some a),.int .u64 386])).run Tryz.prog w=.ok (some (31,a,386)) w:=by kernel_rfl
theorem Tryz.parts25 (a:Addr) (w:World):(ReflectliteValue.parts (.agg #[.pointer (some ⟨9,31,none⟩),.pointer (some a),.int .u64 130])).run Tryz.prog w=.ok (some (31,a,130)) w:=by kernel_rfl
theorem Tryz.direct25 (w:World):(Rtype.directlyAssignable 31 31).run Tryz.prog w=.ok true w:=by kernel_rfl
theorem Tryz.set25 (ta b:Addr) (e:Int) (old:Value) (W:World) (hb:W.cell? b=some (.int .i64 e)) (ht:W.cell? ta=some old) (hf:W.frozen? ta=false) :
 (ReflectliteValue.set #[.agg #[.pointer (some ⟨9, 31, none⟩), .pointer (some ta), .int .u64 386], .agg #[.pointer (some ⟨9, 31, none⟩), .pointer (some b), .int .u64 130]]).run Tryz.prog W
  = .ok (.tuple #[]) (W.setCell ta (.int .i64 e)):=by
 rw [rls];simp only [Sem.run_bind,Tryz.parts25a,Tryz.parts25,Result.andThen];simp [ReflectliteValue.flagAddr,loadVar,isAgg,underlying,Tryz.underlying31,hb,Result.andThen,Tryz.direct25,storeVar,Value.cells,storeCells,Addr.add];rw [run_store Tryz.prog W ta _ _ (by rfl)];simp [ht,hf]
theorem Zid (e:Int) (t:Addr) (old:Value) (w:World) (hg:w.cell? ⟨1,0,none⟩=some (.iface 107 (.agg #[.pointer (some ⟨9,28,none⟩)]))) (ht0:w.cell? t=some old) (hf0:w.frozen? t=false) :
 Calls Tryz.prog 18 #[.iface 31 (.int .i64 e),.iface 58 (.pointer (some t))] w fun ev w'=>ev=.returned (.bool true)∧w'=((((w.alloc (.cells #[.pointer (some t)] 58)).alloc (.cells #[.pointer (some ⟨9,58,none⟩),.pointer (some ⟨w.heap.size,0,none⟩),.int .u64 150] 85)).alloc (.cells #[.pointer (some ⟨9,58,none⟩),.pointer (some ⟨w.heap.size,0,none⟩),.int .u64 150] 85)).alloc (.cells #[.int .i64 e] 31)).setCell t (.int .i64 e):=by
 have h6 := @run_callFunc_extern Tryz.prog 36 _ (fun args => ReflectliteValue.unpack (args.getD 0 (.tuple #[]))) Tryz.func36 (by kernel_rfl) (by kernel_rfl) (by kernel_rfl) (by kernel_rfl);have h7 := @run_callFunc_extern Tryz.prog 37 _ (ReflectliteValue.methodAny (ReflectliteValue.valueError "reflectlite.Value.Type" 0) (fun t _ _ _ => ReflectliteType.toType t)) Tryz.func37 (by kernel_rfl) (by kernel_rfl) (by kernel_rfl) (by kernel_rfl)
 have h8 := @run_callFunc_extern Tryz.prog 38 _ (ReflectliteValue.method (ReflectliteValue.valueError "reflectlite.Value.IsNil" 0) ReflectliteValue.isNil) Tryz.func38 (by kernel_rfl) (by kernel_rfl) (by kernel_rfl) (by kernel_rfl)
 have h27 := @run_callFunc_extern Tryz.prog 134 _ (ReflectliteType.abiMethod fun t => do pure (.int .u8 (← Rtype.kind t))) Tryz.func134 (by kernel_rfl) (by kernel_rfl) (by kernel_rfl) (by kernel_rfl);have h37 := @run_callFunc_extern Tryz.prog 147 _ (ReflectliteType.method ReflectliteType.elem) Tryz.func147 (by kernel_rfl) (by kernel_rfl) (by kernel_rfl) (by kernel_rfl);have h38 := @run_callFunc_extern Tryz.prog 148 _ (ReflectliteType.relation "Implements" ReflectliteType.implements_) Tryz.func148 (by kernel_rfl) (by kernel_rfl) (by kernel_rfl) (by kernel_rfl)
 have h10 := @run_callFunc_extern Tryz.prog 59 _ ReflectliteType.typeOf Tryz.func59 (by kernel_rfl) (by kernel_rfl) (by kernel_rfl) (by kernel_rfl);have h35 := @run_callFunc_extern Tryz.prog 145 _ (ReflectliteType.relation "AssignableTo" ReflectliteType.assignableTo) Tryz.func145 (by kernel_rfl) (by kernel_rfl) (by kernel_rfl) (by kernel_rfl)
 have h11 := @run_callFunc_extern Tryz.prog 60 _ (ReflectliteValue.method (ReflectliteValue.valueError "reflectlite.Value.Elem" 0) ReflectliteValue.elem) Tryz.func60 (by kernel_rfl) (by kernel_rfl) (by kernel_rfl) (by kernel_rfl)
 have h12:=@run_callFunc_extern Tryz.prog 61 _ ReflectliteValue.set Tryz.func61 (by kernel_rfl) (by kernel_rfl) (by kernel_rfl) (by kernel_rfl);have tO:=Tryz.typeOf25;have mA:=Tryz.methodAssignableTo;have a25:=Tryz.assignable25;have v25:=Tryz.valueOf25;have f6:=Tryz.valueOf27;have f7:=Tryz.type27;have mK:=Tryz.methodKind;have mE:=Tryz.methodElem;have mI:=Tryz.methodImplements;have k27:=Tryz.kind27;have k25:=Tryz.kind25;have e27:=Tryz.elem27;have i25:=Tryz.implements25
 have n8:=Tryz.isNil27 ⟨w.heap.size,0,none⟩ t ((w.alloc (.cells #[.pointer (some t)] 58)).alloc (.cells #[.pointer (some ⟨9,58,none⟩),.pointer (some ⟨w.heap.size,0,none⟩),.int .u64 150] 85)) (by simp);have hlt:1 < w.heap.size:=by
  rcases Nat.lt_or_ge 1 w.heap.size with h | h;·exact h
  ·simp [World.cell?,Array.getElem?_eq_none h] at hg
 have hg2:((w.alloc (.cells #[.pointer (some t)] 58)).alloc (.cells #[.pointer (some ⟨9,58,none⟩),.pointer (some ⟨w.heap.size,0,none⟩),.int .u64 150] 85)).cell? ⟨1,0,none⟩=some (.iface 107 (.agg #[.pointer (some ⟨9,28,none⟩)])):=by
  rw [World.cell?_alloc_lt _ _ ⟨1,0,none⟩ (by simp; omega),World.cell?_alloc_lt _ _ ⟨1,0,none⟩ hlt]; exact hg
 have htl:t.block < w.heap.size:=by
  rcases Nat.lt_or_ge t.block w.heap.size with h | h;·exact h
  ·simp [World.cell?,Array.getElem?_eq_none h] at ht0
 have el:=Tryz.elemV27 ⟨w.heap.size,0,none⟩ t (((w.alloc (.cells #[.pointer (some t)] 58)).alloc (.cells #[.pointer (some ⟨9,58,none⟩),.pointer (some ⟨w.heap.size,0,none⟩),.int .u64 150] 85)).alloc (.cells #[.pointer (some ⟨9,58,none⟩),.pointer (some ⟨w.heap.size,0,none⟩),.int .u64 150] 85)) (by rw [World.cell?_alloc_lt _ _ ⟨w.heap.size,0,none⟩ (by simp; omega)]; simp)
 have st:=Tryz.set25 t ⟨w.heap.size + 1 + 1 + 1,0,none⟩ e old ((((w.alloc (.cells #[.pointer (some t)] 58)).alloc (.cells #[.pointer (some ⟨9,58,none⟩),.pointer (some ⟨w.heap.size,0,none⟩),.int .u64 150] 85)).alloc (.cells #[.pointer (some ⟨9,58,none⟩),.pointer (some ⟨w.heap.size,0,none⟩),.int .u64 150] 85)).alloc (.cells #[.int .i64 e] 31))
  (by rw [World.cell?_alloc_at _ _ _ _ (by simp)]; rfl)
  (by rw [World.cell?_alloc_lt _ _ t (by simp; omega),World.cell?_alloc_lt _ _ t (by simp; omega),World.cell?_alloc_lt _ _ t (by simp; omega),World.cell?_alloc_lt _ _ t htl]; exact ht0)
  (by rw [World.frozen?_alloc_old _ _ t (by simp; omega),World.frozen?_alloc_old _ _ t (by simp; omega),World.frozen?_alloc_old _ _ t (by simp; omega),World.frozen?_alloc_old _ _ t (Nat.ne_of_lt htl)]; exact hf0)
 go_enter Tryz.func18,Tryz.ntmps18
 go_wp2;refine wp_loop_rounds 1 ?_;rw [rounds_succ];go_wp2;go_ret;exact ⟨rfl,rfl⟩
theorem Tryz.typeOfAt (v:Value) (w:World):(ReflectliteType.typeOf #[.iface 72 v]).run Tryz.prog w=.ok (.iface 107 (.agg #[.pointer (some ⟨9,72,none⟩)])) w:=by kernel_rfl
theorem Tryz.assertAt1 (b:Nat) (w:World):(Instr.typeAssert (.iface 72 (.pointer (some ⟨b,0,none⟩))) 28 112 true).run Tryz.prog w=.ok (.tuple #[.nilIface,.bool false]) w:=run_typeAssert_lacksB Tryz.underlying112 (by kernel_rfl) (by kernel_rfl) _ _ w
theorem Tryz.assertAt2 (b:Nat) (w:World):(Instr.typeAssert (.iface 72 (.pointer (some ⟨b,0,none⟩))) 28 115 true).run Tryz.prog w=.ok (.tuple #[.iface 72 (.pointer (some ⟨b,0,none⟩)),.bool true]) w:=run_typeAssert_hasB Tryz.underlying115 (by kernel_rfl) _ _ w
theorem Tryz.methodUnwrap (b : Nat) (w : World) : (Go.method 349 72 (.pointer (some ⟨b, 0, none⟩)) "Unwrap").run Tryz.prog w = .ok (140, .pointer (some ⟨b, 0, none⟩)) w := by kernel_rfl
theorem Tryz.assignableAt (w : World) : (ReflectliteType.relation "AssignableTo" ReflectliteType.assignableTo #[.agg #[.pointer (some ⟨9, 72, none⟩)], .iface 107 (.agg #[.pointer (some ⟨9, 31, none⟩)])]).run Tryz.prog w = .ok (.bool false) w := by kernel_rfl
theorem Zig (e p:Int) (b:Nat) (t:Addr) (old:Value) (w:World) (hg:w.cell? ⟨1,0,none⟩=some (.iface 107 (.agg #[.pointer (some ⟨9,28,none⟩)]))) (ht0:w.cell? t=some old) (hf0:w.frozen? t=false) (hbk:w.heap[b]?=some (.cells #[.int .i64 e,.int .i64 p] 74 (0,0))) :
 Calls Tryz.prog 18 #[.iface 72 (.pointer (some ⟨b,0,none⟩)),.iface 58 (.pointer (some t))] w fun ev w'=>ev=.returned (.bool true)∧w'=((((w.alloc (.cells #[.pointer (some t)] 58)).alloc (.cells #[.pointer (some ⟨9,58,none⟩),.pointer (some ⟨w.heap.size,0,none⟩),.int .u64 150] 85)).alloc (.cells #[.pointer (some ⟨9,58,none⟩),.pointer (some ⟨w.heap.size,0,none⟩),.int .u64 150] 85)).alloc (.cells #[.int .i64 e] 31)).setCell t (.int .i64 e):=by
 have h6 := @run_callFunc_extern Tryz.prog 36 _ (fun args => ReflectliteValue.unpack (args.getD 0 (.tuple #[]))) Tryz.func36 (by kernel_rfl) (by kernel_rfl) (by kernel_rfl) (by kernel_rfl);have h7 := @run_callFunc_extern Tryz.prog 37 _ (ReflectliteValue.methodAny (ReflectliteValue.valueError "reflectlite.Value.Type" 0) (fun t _ _ _ => ReflectliteType.toType t)) Tryz.func37 (by kernel_rfl) (by kernel_rfl) (by kernel_rfl) (by kernel_rfl)
 have h8 := @run_callFunc_extern Tryz.prog 38 _ (ReflectliteValue.method (ReflectliteValue.valueError "reflectlite.Value.IsNil" 0) ReflectliteValue.isNil) Tryz.func38 (by kernel_rfl) (by kernel_rfl) (by kernel_rfl) (by kernel_rfl)
 have h27 := @run_callFunc_extern Tryz.prog 134 _ (ReflectliteType.abiMethod fun t => do pure (.int .u8 (← Rtype.kind t))) Tryz.func134 (by kernel_rfl) (by kernel_rfl) (by kernel_rfl) (by kernel_rfl);have h37 := @run_callFunc_extern Tryz.prog 147 _ (ReflectliteType.method ReflectliteType.elem) Tryz.func147 (by kernel_rfl) (by kernel_rfl) (by kernel_rfl) (by kernel_rfl);have h38 := @run_callFunc_extern Tryz.prog 148 _ (ReflectliteType.relation "Implements" ReflectliteType.implements_) Tryz.func148 (by kernel_rfl) (by kernel_rfl) (by kernel_rfl) (by kernel_rfl)
 have h10 := @run_callFunc_extern Tryz.prog 59 _ ReflectliteType.typeOf Tryz.func59 (by kernel_rfl) (by kernel_rfl) (by kernel_rfl) (by kernel_rfl);have h35 := @run_callFunc_extern Tryz.prog 145 _ (ReflectliteType.relation "AssignableTo" ReflectliteType.assignableTo) Tryz.func145 (by kernel_rfl) (by kernel_rfl) (by kernel_rfl) (by kernel_rfl)
 have h11 := @run_callFunc_extern Tryz.prog 60 _ (ReflectliteValue.method (ReflectliteValue.valueError "reflectlite.Value.Elem" 0) ReflectliteValue.elem) Tryz.func60 (by kernel_rfl) (by kernel_rfl) (by kernel_rfl) (by kernel_rfl)
 have h12:=@run_callFunc_extern Tryz.prog 61 _ ReflectliteValue.set Tryz.func61 (by kernel_rfl) (by kernel_rfl) (by kernel_rfl) (by kernel_rfl);have tO:=Tryz.typeOf25;have tOA:=Tryz.typeOfAt;have aA:=Tryz.assignableAt;have t1:=Tryz.assertAt1;have t2:=Tryz.assertAt2;have mU:=Tryz.methodUnwrap;have mA:=Tryz.methodAssignableTo;have a25:=Tryz.assignable25;have v25:=Tryz.valueOf25;have f6:=Tryz.valueOf27;have f7:=Tryz.type27;have mK:=Tryz.methodKind;have mE:=Tryz.methodElem;have mI:=Tryz.methodImplements;have k27:=Tryz.kind27;have k25:=Tryz.kind25
 have e27:=Tryz.elem27;have i25:=Tryz.implements25;have n8:=Tryz.isNil27 ⟨w.heap.size,0,none⟩ t ((w.alloc (.cells #[.pointer (some t)] 58)).alloc (.cells #[.pointer (some ⟨9,58,none⟩),.pointer (some ⟨w.heap.size,0,none⟩),.int .u64 150] 85)) (by simp);have hlt:1 < w.heap.size:=by
  rcases Nat.lt_or_ge 1 w.heap.size with h | h;·exact h
  ·simp [World.cell?,Array.getElem?_eq_none h] at hg
 have hg2:((w.alloc (.cells #[.pointer (some t)] 58)).alloc (.cells #[.pointer (some ⟨9,58,none⟩),.pointer (some ⟨w.heap.size,0,none⟩),.int .u64 150] 85)).cell? ⟨1,0,none⟩=some (.iface 107 (.agg #[.pointer (some ⟨9,28,none⟩)])):=by
  rw [World.cell?_alloc_lt _ _ ⟨1,0,none⟩ (by simp; omega),World.cell?_alloc_lt _ _ ⟨1,0,none⟩ hlt]; exact hg
 have htl:t.block < w.heap.size:=by
  rcases Nat.lt_or_ge t.block w.heap.size with h | h;·exact h
  ·simp [World.cell?,Array.getElem?_eq_none h] at ht0
 have el:=Tryz.elemV27 ⟨w.heap.size,0,none⟩ t (((w.alloc (.cells #[.pointer (some t)] 58)).alloc (.cells #[.pointer (some ⟨9,58,none⟩),.pointer (some ⟨w.heap.size,0,none⟩),.int .u64 150] 85)).alloc (.cells #[.pointer (some ⟨9,58,none⟩),.pointer (some ⟨w.heap.size,0,none⟩),.int .u64 150] 85)) (by rw [World.cell?_alloc_lt _ _ ⟨w.heap.size,0,none⟩ (by simp; omega)]; simp)
 have st:=Tryz.set25 t ⟨w.heap.size + 1 + 1 + 1,0,none⟩ e old ((((w.alloc (.cells #[.pointer (some t)] 58)).alloc (.cells #[.pointer (some ⟨9,58,none⟩),.pointer (some ⟨w.heap.size,0,none⟩),.int .u64 150] 85)).alloc (.cells #[.pointer (some ⟨9,58,none⟩),.pointer (some ⟨w.heap.size,0,none⟩),.int .u64 150] 85)).alloc (.cells #[.int .i64 e] 31))
  (by rw [World.cell?_alloc_at _ _ _ _ (by simp)]; rfl)
  (by rw [World.cell?_alloc_lt _ _ t (by simp; omega),World.cell?_alloc_lt _ _ t (by simp; omega),World.cell?_alloc_lt _ _ t (by simp; omega),World.cell?_alloc_lt _ _ t htl]; exact ht0)
  (by rw [World.frozen?_alloc_old _ _ t (by simp; omega),World.frozen?_alloc_old _ _ t (by simp; omega),World.frozen?_alloc_old _ _ t (by simp; omega),World.frozen?_alloc_old _ _ t (Nat.ne_of_lt htl)]; exact hf0)
 go_enter Tryz.func18,Tryz.ntmps18
 have cb:∀ o1 o2 o3:Obj,(((w.alloc o1).alloc o2).alloc o3).cell? ⟨b,0,none⟩=some (.int .i64 e):=fun o1 o2 o3=>by
  have hbl:=(Y1.1 hbk).1;rw [World.cell?_alloc_lt _ _ ⟨b,0,none⟩ (by simp; omega),World.cell?_alloc_lt _ _ ⟨b,0,none⟩ (by simp; omega),World.cell?_alloc_lt _ _ ⟨b,0,none⟩ hbl];simp [World.cell?,hbk]
 go_wp2;refine wp_loop_rounds 2 ?_;rw [rounds_succ];go_wp2;rw [rounds_succ];go_wp2;go_ret;exact ⟨rfl,rfl⟩
end Go.Proofs.YtfgpdfcpkibkoaaGreatDoor
namespace Go.Proofs.YtfgpdfcpkibkoaaGreatDoor
open Go Go.RowKit
set_option maxRecDepth 100000
set_option maxHeartbeats 20000000
def Z2d (w:World):Prop:=w.cell? ⟨1,0,none⟩=some (.iface 107 (.agg #[.pointer (some ⟨9,28,none⟩)]))
theorem Z2d.lt {w:World} (h:Z2d w):1 < w.heap.size:=by
 rcases Nat.lt_or_ge 1 w.heap.size with h' | h';·exact h'
 ·simp [Z2d,World.cell?,Array.getElem?_eq_none h'] at h
theorem Z2d.below {w w':World} (h:Z2d w) (hB:Below w.heap.size w w'):Z2d w':=(hB.cell (p:=⟨1,0,none⟩) h.lt).trans h
theorem Zem (w:World) (c:Int) (hg:Z2d w) :
 Calls Tryz.prog 8 #[errV c] w fun e w'=>e=.returned (.int .i64 c)∧Below w.heap.size w w':=by
 by_cases hc:c=0
 ·subst hc;simp only [errV, if_true];go_enter Tryz.func8, Tryz.ntmps8
  go_wp2;go_ret;exact ⟨rfl,Y2 _ _⟩
 ·simp only [errV, if_neg hc];have hlt := hg.lt;have hit := lh (Zid c ⟨w.heap.size, 0, none⟩ (.int .i64 0) (w.alloc (.cells #[.int .i64 0] 31)) ((Zs (p := ⟨1, 0, none⟩) hlt).trans hg) (World.cell?_alloc_new _ _ _ 0) (World.frozen?_alloc_new _ _ _ _));clear hg;go_enter Tryz.func8, Tryz.ntmps8
  go_wp2_with fail
  refine hit.out.mono ?_;rintro e w1 ⟨rfl,hw1⟩;have hB:Below w.heap.size w w1:=by
   rw [hw1];refine Below.setCell ?_ (by simp) _;repeat (refine Below.alloc ?_ (by simp; try omega) _)
   exact Y2 _ _
  have hx:w1.cell? ⟨w.heap.size,0,none⟩=some (.int .i64 c):=by
   rw [hw1];rw [World.cell?_setCell_same'];rw [Zs (by simp; omega),Zs (by simp; omega),Zs (by simp; omega),Zs (by simp)];rw [World.cell?_alloc_new];rfl
  have HB:=lh hB;clear hB hw1 hit;go_wp2;go_ret;exact ⟨rfl,HB.out⟩
end Go.Proofs.YtfgpdfcpkibkoaaGreatDoor
namespace Go.Proofs.YtfgpdfcpkibkoaaGreatDoor
open Go Go.RowKit Go.Extern.Stop Go.Stop Go.Extern
set_option maxRecDepth 100000
set_option maxHeartbeats 20000000
set_option linter.unusedVariables false
theorem Zhg (w:World) (c p:Int) (b:Nat) (hg:Z2d w) (hb:w.heap[b]?=some (.cells #[.int .i64 c,.int .i64 p] 74 (0,0))) :
 Calls Tryz.prog 8 #[.iface 72 (.pointer (some ⟨b,0,none⟩))] w fun e w'=>e=.returned (.int .i64 c)∧Below w.heap.size w w':=by
 have hlt:=hg.lt;have hbl:=(Y1.1 hb).1;have hit:=lh (Zig c p b ⟨w.heap.size,0,none⟩ (.int .i64 0) (w.alloc (.cells #[.int .i64 0] 31)) ((Zs (p:=⟨1,0,none⟩) hlt).trans hg) (World.cell?_alloc_new _ _ _ 0) (World.frozen?_alloc_new _ _ _ _) (((Go.MapKept.heap_alloc w _).2 _ hbl).trans hb));clear hg hb;go_enter Tryz.func8,Tryz.ntmps8
 go_wp2_with fail
 refine hit.out.mono ?_;rintro e w1 ⟨rfl,hw1⟩;have hB:Below w.heap.size w w1:=by
  rw [hw1];refine Below.setCell ?_ (by simp) _;repeat (refine Below.alloc ?_ (by simp; try omega) _)
  exact Y2 _ _
 have hx:w1.cell? ⟨w.heap.size,0,none⟩=some (.int .i64 c):=by
  rw [hw1];rw [World.cell?_setCell_same'];rw [Zs (by simp; omega),Zs (by simp; omega),Zs (by simp; omega),Zs (by simp)];rw [World.cell?_alloc_new];rfl
 have HB:=lh hB;clear hB hw1 hit;go_wp2;go_ret;exact ⟨rfl,HB.out⟩
end Go.Proofs.YtfgpdfcpkibkoaaGreatDoor
namespace Go.Proofs.YtfgpdfcpkibkoaaGreatDoor
open Go Go.RowKit
set_option maxRecDepth 100000
set_option maxHeartbeats 20000000
set_option linter.unusedVariables false
structure TbAt (w':World) (a:Nat) (T:ByteArray):Prop where
 text:∀ W,Below w'.heap.size w' W→Calls Tryz.prog 6 #[.pointer (some ⟨a,0,none⟩)] W fun e w2=>e=.returned (.string T)∧Below W.heap.size W w2
 parse:T.size≤3000→∀ W,Below w'.heap.size w' W→Calls Tryz.prog 7 #[.string T] W fun e w2=>Below W.heap.size W w2 ∧
  ((∃ T v, e = .returned (.tuple #[.pointer none, .iface T v]) ∧ ∀ W2, Below w2.heap.size w2 W2 → Calls Tryz.prog 8 #[.iface T v] W2 fun e w3 => e = .returned (.int .i64 4) ∧ Below W2.heap.size W2 w3) ∨ ∃ b : Nat, e = .returned (.tuple #[.pointer (some ⟨b, 0, none⟩), .nilIface]) ∧
    (∀ W2,Below w2.heap.size w2 W2→Calls Tryz.prog 9 #[.pointer (some ⟨a,0,none⟩),.pointer (some ⟨b,0,none⟩)] W2 fun e w3=>e=.returned (.bool true)∧Below W2.heap.size W2 w3) ∧
    ∀ W2,Below w2.heap.size w2 W2→Calls Tryz.prog 6 #[.pointer (some ⟨b,0,none⟩)] W2 fun e w3=>e=.returned (.string T)∧Below W2.heap.size W2 w3)
theorem Zhp (w:World) (text:ByteArray)
 (HR:Hid (Calls Tryz.prog 4 #[.string text] w fun e w'=>(∃ p,e=.returned (.tuple #[p,.bool false]))∧Below w.heap.size w w'))
 (HTO:Hid (∀ w1,Below w.heap.size w w1→Calls Tryz.prog 5 #[] w1 fun e w'=>e=.returned (.bool true)∧Below w1.heap.size w1 w')) :
 Calls Tryz.prog 3 #[.string text] w fun e w'=>e=.returned (.bool true)∧Below w.heap.size w w':=by
 go_enter Tryz.func3,Tryz.ntmps3
 go_wp2_with fail
 refine HR.out.mono ?_;rintro e w1 ⟨⟨p,rfl⟩,hb⟩;have HB:=lh hb;clear hb;go_wp2_with fail
 refine (HTO.out w1 HB.out).mono ?_;rintro e w2 ⟨rfl,hb⟩;have HB2:=lh (HB.out.trans (hb.mono HB.out.size));clear hb;go_wp2_with fail
 refine (HTO.out w2 HB2.out).mono ?_;rintro e w3 ⟨rfl,hb⟩;have HB3:=lh (HB2.out.trans (hb.mono HB2.out.size));clear hb;go_wp2;go_ret;exact ⟨rfl,HB3.out⟩
theorem Zh2 (w:World) (text T:ByteArray) (hE:Z2d w)
 (HR:Hid (Calls Tryz.prog 4 #[.string text] w fun e w'=>∃ a:Nat,e=.returned (.tuple #[.pointer (some ⟨a,0,none⟩),.bool true])∧Below w.heap.size w w'∧TbAt w' a T))
 (HTO:Hid (∀ w1,Below w.heap.size w w1→Calls Tryz.prog 5 #[] w1 fun e w'=>e=.returned (.bool true)∧Below w1.heap.size w1 w')) :
 Calls Tryz.prog 3 #[.string text] w fun e w'=>e=.returned (.bool true)∧Below w.heap.size w w':=by
 have HE:=lh hE;clear hE;go_enter Tryz.func3,Tryz.ntmps3
 go_wp2_with fail
 refine HR.out.mono ?_;rintro e w1 ⟨a,rfl,hb,hA⟩;have HA:=lh hA;have HB:=lh hb;clear hb hA HR;go_wp2_with fail
 refine (HTO.out w1 HB.out).mono ?_;rintro e w2 ⟨rfl,hb⟩;have HB2:=lh (HB.out.trans (hb.mono HB.out.size));have HC2:=lh hb;clear hb HTO HB;go_wp2_with fail
 refine (HA.out.text w2 HC2.out).mono ?_;rintro e w3 ⟨rfl,hb⟩;have HB3:=lh (HB2.out.trans (hb.mono HB2.out.size));have HC3:=lh (HC2.out.trans (hb.mono HC2.out.size));clear hb HB2 HC2;by_cases h3:3000 < T.size
 ·have hd3 : decide ((3000 : Int) < (T.size : Int)) = true := by simp; omega
  have hd4:(3000:Int) < (T.size:Int):=by omega
  clear h3;go_wp2;go_ret;exact ⟨rfl,HB3.out⟩
 ·have hd3 : decide ((3000 : Int) < (T.size : Int)) = false := by simp; omega
  have hd4:¬ (3000:Int) < (T.size:Int):=by omega
  have HP:=lh (HA.out.parse (by omega) w3 HC3.out);clear h3;go_wp2_with fail
  refine HP.out.mono ?_;rintro e w4 ⟨hb,h⟩;have HB4:=lh (HB3.out.trans (hb.mono HB3.out.size));have HC4:=lh (HC3.out.trans (hb.mono HC3.out.size));clear hb HP HB3 HC3;rcases h with ⟨T',v',rfl,htl⟩ | ⟨b,rfl,hs,ht⟩
  ·have HTL := lh (htl w4 (Y2 _ _));clear htl;go_wp2_with fail
   refine HTL.out.mono ?_;rintro e w6 ⟨rfl,hb6⟩;have HB6:=lh (HB4.out.trans (hb6.mono HB4.out.size));clear hb6 HTL;go_wp2;go_ret;exact ⟨rfl,HB6.out⟩
  ·have HS := lh hs;have HT := lh ht;clear hs ht;go_wp2_with fail
   refine (HS.out w4 (Y2 _ _)).mono ?_;rintro e w5 ⟨rfl,hb5⟩;have HB5:=lh (HB4.out.trans (hb5.mono HB4.out.size));have HC5:=lh hb5;clear hb5 HS;go_wp2_with fail
   refine (HT.out w5 HC5.out).mono ?_;rintro e w6 ⟨rfl,hb6⟩;have HB6:=lh (HB5.out.trans (hb6.mono HB5.out.size));have hbb:(T.toList == T.toList)=true:=by simp
   clear hb6 HT;go_wp2;go_ret;exact ⟨rfl,HB6.out⟩
theorem Z8u (w:World) (text:ByteArray) (hW:Words w) (hL:Z2o w w.heap.size) (hE:Z2d w) (hT:Tabs w) :
 Calls Tryz.prog 3 #[.string text] w fun e w'=>e=.returned (.bool true)∧Below w.heap.size w w':=by
 have hup:∀ W,Below w.heap.size w W→Words W∧Z2o W W.heap.size∧Tabs W:=fun W hB=>⟨hW.below hB,by
  intro lv hl;obtain ⟨b,off,cap,h1,h2,h3,h4,h5⟩:=hL.keep (fun k hk=>hB.block k hk) lv hl;exact ⟨b,off,cap,Y7 h1 hB.size,Y7 h2 hB.size,h3,h4,h5⟩,hT.below hB⟩
 have HTO:=lh (fun w1 (hB:Below w.heap.size w w1)=>Zck w1 (hup w1 hB).1 (hup w1 hB).2.1 (hup w1 hB).2.2);have hR:=Z6d w text hW hL;cases hr:Z12 text with
 | error x =>
   rw [hr] at hR;exact Zhp w text (lh (hR.mono fun e w' h=>⟨⟨_,h.2⟩,h.1⟩)) HTO
 | ok t =>
   rw [hr] at hR;obtain ⟨l,l1,l2,l3⟩:=Z68 hr;have hk:(t.kind == 1)=true:=by rw [l2]; rfl
   refine Zh2 w text (Z6x l) hE (lh (hR.mono fun e w' h=>?_)) HTO;obtain ⟨hb,a,rfl,hg⟩:=h;obtain ⟨f1,f2,f3,f4,f5⟩:=Zax hr hg.tree;have hkl:Zh a.kids=l:=by
    have h:=f3.symm.trans l2;exact congrArg Tree.kids h
   rw [hkl] at f1 f2;rw [hk];refine ⟨a.b,rfl,hb,fun W hB=>?_,fun hz W hB=>?_⟩
   ·have h:=Z7u W (hup W (hb.trans (hB.mono hb.size))).2.2 _ a (hg.at'.bel hB) (by rw [hkl]; exact f1) (by rw [hkl]; omega);rw [hkl] at h;exact h
   ·have hWB := hb.trans (hB.mono hb.size);have hP := Z8r W (Z6x l) (hup W hWB).1 (hup W hWB).2.1;rcases Zbp l1 (by rw [← l2]; exact l3) hz with h1 | ⟨p, h1⟩
    ·rw [h1] at hP;refine hP.mono fun e w2 h => ⟨h.1, .inr ?_⟩;obtain ⟨hb2, b, rfl, hgb⟩ := h;have hab : a.tree = b.tree := by rw [hg.tree, hgb.tree, l2]
     obtain ⟨_,_,_,hbl⟩:=Z0f hgb.tree;refine ⟨b.b,rfl,fun W2 hB2=>?_,fun W2 hB2=>?_⟩;·exact Zf6 a.many a b (Y0 _) (by omega) hab W2 _ _ (hg.at'.bel (hB.trans ((hb2.trans (hB2.mono hb2.size)).mono hB.size))) (hgb.at'.bel hB2)
     ·have h:=Z7u W2 (hup W2 (hWB.trans ((hb2.trans (hB2.mono hb2.size)).mono hWB.size))).2.2 _ b (hgb.at'.bel hB2) (by rw [hbl]; exact l1) (by rw [hbl]; omega);rw [hbl] at h;exact h
    ·rw [h1] at hP;refine hP.mono fun e w2 h => ⟨h.1, .inl ?_⟩;obtain ⟨hb2, x, rfl, hx⟩ := h;have hEW : ∀ W2, Below w2.heap.size w2 W2 → Z2d W2 := fun W2 hB2 => hE.below (hWB.trans ((hb2.trans (hB2.mono hb2.size)).mono hWB.size));rcases hx with ⟨_, rfl⟩ | ⟨q, hq, b, rfl, _, hcell⟩;·exact ⟨_, _, rfl, fun W2 hB2 => Zem W2 4 (hEW W2 hB2)⟩
     ·exact ⟨_,_,rfl,fun W2 hB2=>Zhg W2 4 q b (hEW W2 hB2) ((hB2.block b (Y1.1 hcell).1).trans hcell)⟩
end Go.Proofs.YtfgpdfcpkibkoaaGreatDoor
namespace Go.Proofs.YtfgpdfcpkibkoaaGreatDoor
open Go Go.RowKit
set_option maxRecDepth 100000
set_option maxHeartbeats 20000000
theorem Z6v {H:Type} {enc:TypeId×Value→H} {P:Program} {w:World} {base:Nat} {sp:Nat→Bool} {held:Bool} {fuel:Nat} {t e:TypeId} {n:Nat} {cs:List Value} {l:List (List UInt8)} {p:List MemPlace}
 (ht:P.underlying t=some (.array n e)) (he:P.underlying e=some .string) (hce:P.cellsOf e=1) (hct:P.cellsOf t=n)
 (h:DataW.trod enc P w base sp held fuel t cs=some (.agg (l.map fun b=>.lit (.string b)),p)):cs=l.map fun b=>Value.string ⟨b.toArray⟩:=by
 cases fuel with
 | zero=>simp [DataW.trod] at h
 | succ fuel =>
   simp only [DataW.trod,ht,hce,hct,Nat.mul_one] at h;split at h
   ·rename_i hl;obtain ⟨xs,hm,hx⟩:=Option.map_eq_some_iff.1 h;have hxs:xs.map (·.1)=l.map fun b=>(DataW.lit (.string b):DataW H):=by
     have:=congrArg Prod.fst hx;simpa using this
    have hxl:xs.length=n:=by simpa using Lib.mapM_length hm
    have hzl:l.length=n:=by
     have:=congrArg List.length hxs;simp at this;omega
    apply List.ext_getElem?;intro i;by_cases hi:i < n
    ·obtain ⟨b,hb,hf⟩:=Lib.mapM_at hm i i (by simp [hi]);obtain ⟨s,hc,rfl,_⟩:=DataW.trod_string he hf;have h1:cs[i]?=some (.string s):=by
      have:=congrArg (·[0]?) hc;simpa [List.getElem?_take,List.getElem?_drop] using this
     have h2:(xs.map (·.1))[i]?=some (DataW.lit (.string s.data.toList):DataW H):=by simp [hb]
     rw [hxs] at h2;simp only [List.getElem?_map,Option.map_eq_some_iff,DataW.lit.injEq,Lit.string.injEq] at h2;obtain ⟨z',hz',hzz⟩:=h2;simp only [h1,List.getElem?_map,hz',Option.map_some,hzz]
    ·rw [List.getElem?_eq_none (by omega),List.getElem?_eq_none (by simp; omega)]
   ·cases h
theorem Zg8 {H:Type} {enc:TypeId×Value→H} {P:Program} {w:World} {base:Nat} {sp:Nat→Bool} {held:Bool} {fuel:Nat} {e:TypeId} {v:Value} {b:List UInt8} {q:List MemPlace} (he:P.underlying e=some .string)
 (h:DataW.trod enc P w base sp held fuel e [v]=some (.lit (.string b),q)):v=.string ⟨b.toArray⟩:=by
 obtain ⟨s,hc,hx,_⟩:=DataW.trod_string he h;simp only [List.cons.injEq,and_true] at hc;simp only [Prod.mk.injEq,DataW.lit.injEq,Lit.string.injEq] at hx;rw [hc,hx.1]
theorem Z3g {P:Program} {W:World} {name:String} {d:DataW Unit} {rest:List (String×DataW Unit)} {g:Nat} {t e:TypeId} {n:Nat} {l:List (List UInt8)}
 (hg:P.globalNamed name=some g) (hty:(P.globals[g]?).map (·.type)=some t) (ht:P.underlying t=some (.array n e)) (he:P.underlying e=some .string) (hce:P.cellsOf e=1) (hct:P.cellsOf t=n)
 (hd:d=.agg (l.map fun b=>.lit (.string b))) (h:laidMet P ((name,d) :: rest) W) (i:Nat) (b:List UInt8) (hi:l[i]?=some b):W.cell? ⟨g,i,none⟩=some (.string ⟨b.toArray⟩):=by
 obtain ⟨ps,⟨g',t',cs,fuel,p,q,hg',ht',hvar,hd',_,_⟩,_⟩:=h;obtain rfl:=Yc (hg.symm.trans hg');obtain rfl:=Yc (hty.symm.trans ht');rw [hd] at hd';have hc:=Z6v ht he hce hct hd';have:=World.var?_cell hg hvar i;rw [this];have hx:cs=(l.map fun b=>Value.string ⟨b.toArray⟩).toArray:=by rw [← hc]
 rw [hx];simp [hi]
end Go.Proofs.YtfgpdfcpkibkoaaGreatDoor
