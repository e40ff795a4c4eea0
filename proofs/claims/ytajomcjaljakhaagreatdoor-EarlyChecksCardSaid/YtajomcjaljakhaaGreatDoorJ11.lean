/- The document's parser: kids that lie apart; nodes of them. -/
import Derived.Test.YtajomcjaljakhaaGreatDoorJ07
import Derived.Test.YtajomcjaljakhaaGreatDoorJ10
namespace Go.Proofs.YtajomcjaljakhaaGreatDoor
open Go Go.RowKit
set_option maxRecDepth 100000
set_option maxHeartbeats 20000000
set_option linter.unusedVariables false
structure KidsAt (w0:World) (B:Nat) (w:World) (kids:List ATree) (ts:List Tree):Prop where
 tree:Z0o kids=ts
 at':∀ a∈kids,TreeAt w B a
 nodup:(Zv kids).Nodup
 new:∀ x∈Zv kids,w0.heap.size≤x∧x < w.heap.size
structure ListAt (w0:World) (B:Nat) (w:World) (v:Value) (kids:List ATree) (ts:List Tree):Prop where
 ks:KidsAt w0 B w kids ts
 row:w.ownsRow B 22 1 v kids.length (kids.map ATree.ptr)
 own:∀ g,v.ownBlock=some g→w0.heap.size≤g∧g < w.heap.size∧g ∉ Zv kids
section
variable {w0 w w' w1 w2 wA:World} {B rb:Nat} {v:Value} {kids:List ATree} {ts:List Tree} {a:ATree} {t:Tree} {k n:Int} {tx:ByteArray} {b:Nat}
theorem KidsAt.nil:KidsAt w0 B w [] []:=⟨rfl,fun a ha=>(by cases ha),by simp [Zv],fun x hx=>by simp [Zv] at hx⟩
theorem KidsAt.rfr (h:KidsAt w0 B w kids ts) (hr:rb < B) (f:RFr w w' rb):KidsAt w0 B w' kids ts:=
 ⟨h.tree,fun a ha=>(h.at' a ha).rfr hr f,h.nodup,fun x hx=>⟨(h.new x hx).1,Ye (h.new x hx).2 f.size⟩⟩
theorem KidsAt.pre (h:KidsAt w1 B w kids ts) (f:w0.heap.size≤w1.heap.size):KidsAt w0 B w kids ts:=
 ⟨h.tree,h.at',h.nodup,fun x hx=>⟨Ya f (h.new x hx).1,(h.new x hx).2⟩⟩
theorem KidsAt.add (h:KidsAt w0 B w kids ts) (hA:∀ x∈Zv kids,x < wA.heap.size) (A:Got wA B w a t) (h0:w0.heap.size≤wA.heap.size):KidsAt w0 B w (kids ++ [a]) (ts ++ [t]):=by
 refine ⟨by rw [Z5t,h.tree]; simp [Z0o,A.tree],fun x hx=>?_,?_,fun x hx=>?_⟩
 ·rcases List.mem_append.1 hx with hx | hx;·exact h.at' x hx
  ·simp only [List.mem_singleton] at hx; subst hx; exact A.at'
 ·rw [Z1e];simp only [Zv,List.append_nil,List.nodup_append];exact ⟨h.nodup,A.nodup,fun x hx y hy e=>by have h1:=hA x hx; have h2:=A.new y hy; omega⟩
 ·rw [Z1e] at hx;simp only [Zv, List.append_nil, List.mem_append] at hx;rcases hx with hx | hx;·exact h.new x hx
  ·have:=A.new x hx; omega
theorem KidsAt.one (A:Got w0 B w a t):KidsAt w0 B w [a] [t]:=KidsAt.nil.add (kids:=[]) (ts:=[]) (wA:=w0) (fun x hx=>by simp [Zv] at hx) A (Y5 _)
theorem KidsAt.two {a2:ATree} {t2:Tree} (A:Got w0 B w a t) (hA:∀ x∈a.blocks,x < wA.heap.size) (h0:w0.heap.size≤wA.heap.size) (A2:Got wA B w a2 t2):KidsAt w0 B w [a,a2] [t,t2]:=
 (KidsAt.one A).add (wA:=wA) (fun x hx=>hA x (by simpa [Zv] using hx)) A2 h0
theorem ListAt.nil:ListAt w0 B w (.slice none 0 0) [] []:=⟨KidsAt.nil,World.ownsRow_nil _ _ _ _,fun g hg=>by simp [Value.ownBlock] at hg⟩
theorem ListAt.rfr (h:ListAt w0 B w v kids ts) (hr:rb < B) (f:RFr w w' rb):ListAt w0 B w' v kids ts:=
 ⟨h.ks.rfr hr f,Zg h.row fun g hg=>f.block g (h.own g hg).2.1 (by have:=(h.row.lt g hg).1; omega),fun g hg=>⟨(h.own g hg).1,Ye (h.own g hg).2.1 f.size,(h.own g hg).2.2⟩⟩
theorem ListAt.pre (h:ListAt w1 B w v kids ts) (f:w0.heap.size≤w1.heap.size):ListAt w0 B w v kids ts:=
 ⟨h.ks.pre f,h.row,fun g hg=>⟨Ya f (h.own g hg).1,(h.own g hg).2⟩⟩
theorem KidsAt.lit (h:KidsAt w0 B w kids ts) (hBw:B≤w.heap.size) (h0:w0.heap.size≤w.heap.size) (hl:kids.length≤1000) :
 ListAt w0 B (w.alloc (.cells (kids.map ATree.ptr).toArray 22)) (.slice (some ⟨w.heap.size,0,none⟩) kids.length kids.length) kids ts:=by
 have hal:Below w.heap.size w (w.alloc (.cells (kids.map ATree.ptr).toArray 22)):=(Y8 _ _).alloc (Y5 _) _;refine ⟨⟨h.tree,fun a ha=>(h.at' a ha).bel hal,h.nodup,fun x hx=>⟨(h.new x hx).1,Ye (h.new x hx).2 hal.size⟩⟩,Zd3 hBw hl,fun g hg=>?_⟩;simp only [Value.ownBlock,Option.some.injEq] at hg;subst hg;exact ⟨h0,by simp,fun hm=>by have:=(h.new _ hm).2; omega⟩
theorem ListAt.push {g cap:Nat} (L:ListAt w0 B w v kids ts) (hLA:∀ x∈Zv kids,x < wA.heap.size) (hvA:∀ x,v.ownBlock=some x→x < wA.heap.size) (A:Got wA B w a t) (h0:w0.heap.size≤wA.heap.size) (hAw:wA.heap.size≤w.heap.size)
 (hB1:Below w.heap.size w w1) (hg:w1.grownBy w2 v.ownBlock) (hown:w2.ownsRow B 22 1 (.slice (some ⟨g,0,none⟩) (kids.length + 1) cap) (kids.length + 1) (kids.map ATree.ptr ++ [a.ptr]))
 (hat:v.ownBlock=some g∨w.heap.size≤g) (hgl:g < w2.heap.size) (hF:RFr w0 w rb) :
 ListAt w0 B w2 (.slice (some ⟨g,0,none⟩) (kids.length + 1) cap) (kids ++ [a]) (ts ++ [t])∧(∀ x,x < w.heap.size→v.ownBlock≠some x→w2.heap[x]?=w.heap[x]?)∧w.heap.size≤w2.heap.size ∧
  RFr w0 w2 rb:=by
 have hs1:w.heap.size≤w2.heap.size:=Ya hB1.size hg.size;have far:∀ x,x < w.heap.size→v.ownBlock≠some x→w2.heap[x]?=w.heap[x]?:=fun x hx hn=>(hg.block x (Ye hx hB1.size) (fun e=>hn e.symm)).trans (hB1.block x hx);have hv:∀ x,v.ownBlock=some x→w0.heap.size≤x∧x < wA.heap.size:=fun x hx=>⟨(L.own x hx).1,hvA x hx⟩;have hgk:g ∉ Zv kids:=fun hm=>by
  rcases hat with h | h;·exact (L.own g h).2.2 hm
  ·have:=(L.ks.new g hm).2; omega
 have hga:g ∉ a.blocks:=fun hm=>by
  have h1:=A.new g hm;rcases hat with h | h;·have:=hv g h; omega
  ·omega
 have hg0:w0.heap.size≤g:=by
  rcases hat with h | h;·exact (hv g h).1
  ·have:=hF.size; omega
 have hkeep:∀ x∈Zv kids,w2.heap[x]?=w.heap[x]?:=fun x hx=>far x (L.ks.new x hx).2 fun e=>(L.own x e).2.2 hx;have hkeepA:∀ x∈a.blocks,w2.heap[x]?=w.heap[x]?:=fun x hx=>far x (A.new x hx).2 fun e=>by have h1:=hv x e; have h2:=A.new x hx; omega
 refine ⟨⟨⟨?_,fun x hx=>?_,?_,fun x hx=>?_⟩,?_,fun g' hg'=>?_⟩,far,hs1,⟨?_,?_,?_,?_,?_⟩⟩;·rw [Z5t,L.ks.tree]; simp [Z0o,A.tree]
 ·rcases List.mem_append.1 hx with hx | hx
  ·refine (L.ks.at' x hx).keepB fun y hy=>hkeep y ?_;rw [Z0y]; exact List.mem_flatMap.2 ⟨x,hx,hy⟩
  ·simp only [List.mem_singleton] at hx; subst hx; exact A.at'.keepB hkeepA
 ·rw [Z1e];simp only [Zv,List.append_nil,List.nodup_append];exact ⟨L.ks.nodup,A.nodup,fun x hx y hy e=>by have h1:=hLA x hx; have h2:=A.new y hy; omega⟩
 ·rw [Z1e] at hx;simp only [Zv, List.append_nil, List.mem_append] at hx;rcases hx with hx | hx;·have := L.ks.new x hx; omega
  ·have:=A.new x hx; omega
 ·rw [Yq,Yu]; exact hown
 ·simp only [Value.ownBlock,Option.some.injEq] at hg';subst hg';refine ⟨hg0,hgl,fun hm=>?_⟩;rw [Z1e] at hm;simp only [Zv,List.append_nil,List.mem_append] at hm;exact hm.elim hgk hga
 ·exact (hg.os.trans hB1.os).trans hF.os
 ·exact (hg.tape.trans hB1.tape).trans hF.tape
 ·exact (hg.output.trans hB1.output).trans hF.output
 ·have:=hF.size; omega
 ·intro x hx hn;have:=hF.size;exact (far x (by omega) (fun e=>by have:=hv x e; omega)).trans (hF.block x hx hn)
theorem ListAt.node (L:ListAt w0 B w v kids ts) (hBw:B≤w.heap.size) (h0:w0.heap.size≤w.heap.size) :
 Got w0 B (w.alloc (.cells #[.int .i64 k,.string tx,.int .i64 n,v] 50)) (.mk w.heap.size v k tx n kids) (.mk k tx n ts):=by
 refine ⟨by simp [ATree.tree,L.ks.tree],TreeAt.new hBw L.row L.ks.at',?_,fun x hx=>?_⟩
 ·simp only [ATree.blocks, List.nodup_cons, List.mem_append, List.nodup_append, Option.mem_toList, not_or];refine ⟨⟨fun e => by have := (L.own _ e).2.1; omega, fun hm => by have := (L.ks.new _ hm).2; omega⟩, ?_, L.ks.nodup, fun x hx y hy e => ?_⟩;·cases v.ownBlock <;> simp
  ·subst e; exact (L.own x hx).2.2 hy
 ·simp only [ATree.blocks, List.mem_cons, List.mem_append, Option.mem_toList] at hx;rw [World.size_alloc];rcases hx with rfl | hx | hx;·omega
  ·have:=L.own x hx; omega
  ·have:=L.ks.new x hx; omega
theorem Got.kind0 {k':Int} {l:List Tree} (hr:rb < B) (hB0:B≤w0.heap.size) (N:Got w0 B w (.mk b v k tx n kids) (.mk k tx n l)) (F:RFr w0 w rb) :
 Got w0 B (w.setCell ⟨b,0,none⟩ (.int .i64 k')) (.mk b v k' tx n kids) (.mk k' tx n l)∧RFr w0 (w.setCell ⟨b,0,none⟩ (.int .i64 k')) rb∧(∀ x,x < B→(w.setCell ⟨b,0,none⟩ (.int .i64 k')).heap[x]?=w.heap[x]?):=by
 have hnd:=N.nodup;simp only [ATree.blocks,List.nodup_cons,List.mem_append,Option.mem_toList,not_or] at hnd;obtain ⟨⟨hb1,hb2⟩,_⟩:=hnd;have hb0:w0.heap.size≤b:=(N.new b (by simp [ATree.blocks])).1;have hsz:(w.setCell ⟨b,0,none⟩ (.int .i64 k')).heap.size=w.heap.size:=Yn ..;have far:∀ x,x≠b→(w.setCell ⟨b,0,none⟩ (.int .i64 k')).heap[x]?=w.heap[x]?:=fun x hx=>Yg _ _ _ _ hx
 refine ⟨⟨?_,?_,N.nodup,?_⟩,⟨F.os,F.tape,F.output,by rw [hsz]; exact F.size,fun x hx hn=>(far x (by omega)).trans (F.block x hx hn)⟩,fun x hx=>far x (by omega)⟩
 ·have:=N.tree;simp only [ATree.tree,Tree.mk.injEq,true_and] at this ⊢;exact this
 ·refine .mk (Zm (o:=0) _ N.at'.blkOf) N.at'.le (Zg N.at'.rowOf fun g hg=>far g (fun e=>hb1 (by rw [← e]; exact hg))) fun x hx=>?_;have hT:=N.at'.kid (k:=x) hx;refine hT.keepB fun y hy=>far y fun e=>hb2 ?_;rw [Z0y,← e];exact List.mem_flatMap.2 ⟨x,hx,hy⟩
 ·intro x hx; rw [hsz]; exact N.new x hx
theorem Got.text0 {t':ByteArray} {l:List Tree} (hr:rb < B) (hB0:B≤w0.heap.size) (N:Got w0 B w (.mk b v k tx n kids) (.mk k tx n l)) (F:RFr w0 w rb) :
 Got w0 B (w.setCell ⟨b,1,none⟩ (.string t')) (.mk b v k t' n kids) (.mk k t' n l)∧RFr w0 (w.setCell ⟨b,1,none⟩ (.string t')) rb∧(∀ x,x < B→(w.setCell ⟨b,1,none⟩ (.string t')).heap[x]?=w.heap[x]?):=by
 have hnd:=N.nodup;simp only [ATree.blocks,List.nodup_cons,List.mem_append,Option.mem_toList,not_or] at hnd;obtain ⟨⟨hb1,hb2⟩,_⟩:=hnd;have hb0:w0.heap.size≤b:=(N.new b (by simp [ATree.blocks])).1;have hsz:(w.setCell ⟨b,1,none⟩ (.string t')).heap.size=w.heap.size:=Yn ..;have far:∀ x,x≠b→(w.setCell ⟨b,1,none⟩ (.string t')).heap[x]?=w.heap[x]?:=fun x hx=>Yg _ _ _ _ hx
 refine ⟨⟨?_,?_,N.nodup,?_⟩,⟨F.os,F.tape,F.output,by rw [hsz]; exact F.size,fun x hx hn=>(far x (by omega)).trans (F.block x hx hn)⟩,fun x hx=>far x (by omega)⟩
 ·have:=N.tree;simp only [ATree.tree,Tree.mk.injEq,true_and] at this ⊢;exact this
 ·refine .mk (Zm (o:=1) _ N.at'.blkOf) N.at'.le (Zg N.at'.rowOf fun g hg=>far g (fun e=>hb1 (by rw [← e]; exact hg))) fun x hx=>?_;have hT:=N.at'.kid (k:=x) hx;refine hT.keepB fun y hy=>far y fun e=>hb2 ?_;rw [Z0y,← e];exact List.mem_flatMap.2 ⟨x,hx,hy⟩
 ·intro x hx; rw [hsz]; exact N.new x hx
theorem Got.kids0 {v':Value} {kids':List ATree} {l:List Tree} (hr:rb < B) (hB0:B≤w0.heap.size) (N:TreeAt w B (.mk b v k tx n kids)) (hb0:w0.heap.size≤b) (L:ListAt w0 B w v' kids' l) (h1:v'.ownBlock≠some b) (h2:b ∉ Zv kids') (F:RFr w0 w rb) :
 Got w0 B (w.setCell ⟨b,3,none⟩ v') (.mk b v' k tx n kids') (.mk k tx n l)∧RFr w0 (w.setCell ⟨b,3,none⟩ v') rb∧(∀ x,x < B→(w.setCell ⟨b,3,none⟩ v').heap[x]?=w.heap[x]?):=by
 have hsz:(w.setCell ⟨b,3,none⟩ v').heap.size=w.heap.size:=Yn ..;have far:∀ x,x≠b→(w.setCell ⟨b,3,none⟩ v').heap[x]?=w.heap[x]?:=fun x hx=>Yg _ _ _ _ hx;have hbw:b < w.heap.size:=N.lt;refine ⟨⟨?_,?_,?_,?_⟩,⟨F.os,F.tape,F.output,by rw [hsz]; exact F.size,fun x hx hn=>(far x (by omega)).trans (F.block x hx hn)⟩,fun x hx=>far x (by omega)⟩;·simp [ATree.tree,L.ks.tree]
 ·refine .mk (Zm (o:=3) _ N.blkOf) N.le (Zg L.row fun g hg=>far g (fun e=>h1 (by rw [← e]; exact hg))) fun x hx=>?_;refine (L.ks.at' x hx).keepB fun y hy=>far y fun e=>h2 ?_;rw [Z0y,← e];exact List.mem_flatMap.2 ⟨x,hx,hy⟩
 ·simp only [ATree.blocks, List.nodup_cons, List.mem_append, List.nodup_append, Option.mem_toList, not_or];refine ⟨⟨h1, h2⟩, ?_, L.ks.nodup, fun x hx y hy e => ?_⟩;·cases v'.ownBlock <;> simp
  ·subst e; exact (L.own x hx).2.2 hy
 ·intro x hx;simp only [ATree.blocks, List.mem_cons, List.mem_append, Option.mem_toList] at hx;rw [hsz];rcases hx with rfl | hx | hx;·exact ⟨hb0, hbw⟩
  ·have:=L.own x hx; omega
  ·exact L.ks.new x hx
theorem ListAt.apart (L:ListAt w1 B w v kids ts) (hb:b < w1.heap.size):v.ownBlock≠some b∧b ∉ Zv kids:=
 ⟨fun e=>by have:=(L.own b e).1; omega,fun hm=>by have:=(L.ks.new b hm).1; omega⟩
theorem Got.list (N:Got w0 B w (.mk b v k tx n kids) t):ListAt w0 B w v kids (Z0o kids)∧v.ownBlock≠some b∧b ∉ Zv kids:=by
 have hnd:=N.nodup;simp only [ATree.blocks,List.nodup_cons,List.mem_append,List.nodup_append,Option.mem_toList,not_or] at hnd;obtain ⟨⟨hb1,hb2⟩,_,hk1,hk2⟩:=hnd;exact ⟨⟨⟨rfl,fun a ha=>N.at'.kid (k:=a) ha,hk1,fun x hx=>N.new x (by simp [ATree.blocks,hx])⟩,N.at'.rowOf,fun g hg=>⟨(N.new g (by simp [ATree.blocks,hg])).1,(N.new g (by simp [ATree.blocks,hg])).2,fun hm=>hk2 g hg g hm rfl⟩⟩,hb1,hb2⟩
theorem QS.keep {C:QC} {σ:RS} (h:QS w C σ) (hk:∀ k,k≤C.rb→w'.heap[k]?=w.heap[k]?):QS w' C σ:=by
 obtain ⟨i,e,h⟩:=h;exact ⟨i,e,h.keep hk⟩
end
def Z16 (F:FuncId) (args:Nat→Nat→Array Value) (job:RJob) (f:Nat):Prop:=
 ∀ (w:World) (C:QC) (B d:Nat) (σ:RS) (t:Tree) (σ':RS),QS w C σ→C.rb < B→B≤w.heap.size→d + f≤1000000000000→refF f job d σ=some (t,σ')→Calls Tryz.prog F (args C.rb d) w (Z1s w C B t σ')
theorem Zf {p:RR} {k:Tree→RS→RR} {t:Tree} {σ:RS} (h:Z02 p k=some (t,σ)):∃ t1 σ1,p=some (t1,σ1)∧k t1 σ1=some (t,σ):=by
 cases p with
 | none=>cases h
 | some r=>obtain ⟨t1,σ1⟩:=r; exact ⟨t1,σ1,rfl,h⟩
def qd (rb d:Nat):Array Value:=#[.pointer (some ⟨rb,0,none⟩),.int .i64 d]
theorem Z1s.pre {w w1 w2:World} {C:QC} {B:Nat} {t:Tree} {σ':RS} {e:Ending} (f:RFr w w1 C.rb) (h:Z1s w1 C B t σ' e w2):Z1s w C B t σ' e w2:=by
 obtain ⟨a,h1,h2,h3,h4⟩:=h;exact ⟨a,h1,h2.pre f,h3,f.trans h4⟩
theorem Z1s.bare {w w1:World} {C:QC} {B:Nat} {σ:RS} (hBw:B≤w.heap.size) (f:RFr w w1 C.rb) (h:QS w1 C σ):Z1s w C B gT σ (.returned (.pointer (some ⟨w1.heap.size,0,none⟩))) (w1.alloc (.cells #[.int .i64 0,.string ⟨#[]⟩,.int .i64 0,.slice none 0 0] 50)):=
 ⟨.mk w1.heap.size (.slice none 0 0) 0 ⟨#[]⟩ 0 [],rfl,Got.leaf hBw f,h.below ((Y8 _ _).alloc (Y5 _) _),f.trans (RFr.below ((Y8 _ _).alloc (Y5 _) _))⟩
theorem Zl3 (f:Nat) (hS:Z16 27 qd .stmt f):Z16 61 qd .stmt2 (f + 1):=by
 intro w C B d σ t σ' hQ hr hB hd hp;rw [refF] at hp;have HO:=Z22 hQ;have HQ:=lh hQ;have HR:=lh hr;have HB:=lh hB;have HS:=lh hS;by_cases hf:σ.f.isNone=true
 ·rw [hf] at HO;rw [Yb hf] at hp;have HO := lh HO;have HP := lh hp;clear hQ hr hB hS hf hp;unfold qd;go_enter Tryz.func61, Tryz.ntmps61
  go_wp2_with fail
  refine HO.out.mono ?_;rintro e w1 ⟨rfl,rfl⟩;go_wp2_with fail
  refine (HS.out w C B (d + 1) _ _ _ HQ.out HR.out HB.out (by omega) HP.out).mono ?_;rintro e w3 ⟨a,rfl,h2,h3,h4⟩;have H2:=lh h2;have H3:=lh h3;have H4:=lh h4;clear h2 h3 h4;go_wp2;go_ret;exact ⟨a,rfl,H2.out,H3.out,H4.out⟩
 ·have hf : σ.f.isNone = false := Bool.eq_false_iff.2 hf;rw [hf] at HO;rw [Y9 (by rw [hf]; decide)] at hp;obtain ⟨rfl, rfl⟩ : gT = t ∧ σ = σ' := by simpa using hp
  have HO:=lh HO;clear hQ hr hB hS hf hp;unfold qd;go_enter Tryz.func61,Tryz.ntmps61
  go_wp2_with fail
  refine HO.out.mono ?_;rintro e w1 ⟨rfl,rfl⟩;go_wp2;go_ret;exact Z1s.bare HB.out (RFr.refl _ _) HQ.out
theorem Zm8 (f:Nat) (hV:Z16 63 qd .value f):Z16 60 qd .head (f + 1):=by
 intro w C B d σ t σ' hQ hr hB hd hp;rw [refF] at hp;obtain ⟨x,σ1,hv,h2⟩:=Zf hp;obtain ⟨rfl,rfl⟩:x=t∧Z0a Z08 σ1=σ':=by simpa using h2
 have HM:=lh (Z09 hQ Z07 B hr hB);have HR:=lh hr;have HB:=lh hB;have HS:=lh hV;have HP:=lh hv;clear hQ hr hB hV hp h2 hv;unfold qd;go_enter Tryz.func60,Tryz.ntmps60
 go_wp2_with fail
 refine HM.out.mono ?_;rintro e w1 ⟨rfl,h3,h4⟩;have Q1:=lh h3;have F1:=lh h4;clear h3 h4 HM;go_wp2_with fail
 refine (HS.out w1 C B (d + 1) _ _ _ Q1.out HR.out (Ya HB.out F1.out.size) (by omega) HP.out).mono ?_;rintro e w2 ⟨a,rfl,h2,h3,h4⟩;have G2:=lh h2;have Q2:=lh h3;have F2:=lh (F1.out.trans h4);clear h2 h3 h4;go_wp2_with fail
 refine (Z09 Q2.out Z08 B HR.out (Ya HB.out F2.out.size)).mono ?_;rintro e w3 ⟨rfl,h3,h4⟩;have Q3:=lh h3;have F3:=lh h4;clear h3 h4;go_wp2;go_ret;exact ⟨a,rfl,(G2.out.pre F1.out).rfr HR.out F3.out,Q3.out,F2.out.trans F3.out⟩
theorem Z61 {P:Nat→Prop} (h:∃ g,P g):∃ m,P m∧∀ k,P k→m≤k:=by
 obtain ⟨g,hg⟩:=h;induction g using Nat.strongRecOn with
 | ind g ih =>
   by_cases h:∃ k,k < g∧P k
   ·obtain ⟨k,hk,hp⟩:=h;exact ih k hk hp
   ·exact ⟨g,hg,fun k hk=>Nat.le_of_not_lt fun hl=>h ⟨k,hl,hk⟩⟩
open Classical in
noncomputable def least (P:Nat→Prop):Nat:=if h:∃ g,P g then Classical.choose (Z61 h) else 0
theorem Z3o {P:Nat→Prop} (h:∃ g,P g):P (least P):=by
 unfold least;rw [dif_pos h];exact (Classical.choose_spec (Z61 h)).1
theorem Z37 {P:Nat→Prop} {g:Nat} (h:P g):least P≤g:=by
 unfold least;rw [dif_pos ⟨g,h⟩];exact (Classical.choose_spec (Z61 ⟨g,h⟩)).2 g h
theorem Zh9 (c:Int) (σ:RS):(Z32 c σ).f.isNone=false:=by
 unfold Z32;cases h:σ.f with
 | none=>simp
 | some x=>simp [h]
def Zml (w0:World) (C:QC) (B:Nat) (ts:List Tree) (σ':RS) (e:Ending) (w':World):Prop:=
 ∃ v kids,e=.returned v∧ListAt w0 B w' v kids ts∧QS w' C σ'∧RFr w0 w' C.rb∧ts.length≤8
theorem ListAt.len {w0 w:World} {B:Nat} {v:Value} {kids:List ATree} {ts:List Tree} (L:ListAt w0 B w v kids ts):kids.length=ts.length:=by rw [← L.ks.tree,Z25,Yv]
theorem ListAt.slice {w0 w:World} {B:Nat} {v:Value} {kids:List ATree} {ts:List Tree} (L:ListAt w0 B w v kids ts):∃ p cp,v=.slice p ts.length cp:=by
 rw [← L.len];rcases Zb L.row with ⟨h1,h2⟩ | ⟨g0,cap0,h1,_⟩;·exact ⟨none,0,by rw [h1,h2]⟩
 ·exact ⟨_,_,h1⟩
def LInv (w0:World) (C:QC) (B d:Nat) (J:List Tree→RJob) (t:Tree) (σ':RS) (g:Nat) (v:Value) (wr:World):Prop:=
 ∃ (acc:List Tree) (kids:List ATree) (σ:RS),refF g (J acc) d σ=some (t,σ')∧ListAt w0 B wr v kids acc∧QS wr C σ∧RFr w0 wr C.rb∧acc.length≤8
theorem Zhi (F d:Nat) (K:FuncId) (caps:Array Value) (s:ByteArray) (J:List Tree→RJob) (item:Nat→RS→RR)
 (he:∀ (args:Array Value) (w:World),(callFunc K args).run Tryz.prog w=.ok (.enter K args) w)
 (hstep:∀ g acc σ,refF (g + 1) (J acc) d σ=if (σ.f.isNone && !Ze s σ)=true then (if (Z52 (decide (acc.length=8)) (Z3l (decide (0 < acc.length)) σ)).f.isNone=true then Z02 (item g (Z52 (decide (acc.length=8)) (Z3l (decide (0 < acc.length)) σ))) fun x σ'=>refF g (J (acc ++ [x])) d σ' else refF g (J acc) d (Z52 (decide (acc.length=8)) (Z3l (decide (0 < acc.length)) σ))) else some (.mk 0 ByteArray.empty 0 acc,Z0a s σ))
 (w0:World) (C:QC) (B:Nat) (hr:C.rb < B) (hB:B≤w0.heap.size)
 (hcall:∀ g,g < F→∀ w σ x σ',RFr w0 w C.rb→QS w C σ→item g σ=some (x,σ')→Calls Tryz.prog K caps w (Z1s w C B x σ'))
 (σ:RS) (hQ:QS w0 C σ) (t:Tree) (σ':RS) (hp:refF F (J []) d σ=some (t,σ')) :
 Calls Tryz.prog 93 #[.pointer (some ⟨C.rb,0,none⟩),.string s,.func (.func K) #[] caps] w0 (Zml w0 C B t.kids σ'):=by
 have HSTEP:=lh hstep;have HE:=lh he;have HCALL:=lh hcall;have HR:=lh hr;have HB:=lh hB;have ST:=lh (show ∃ g,g≤F∧LInv w0 C B d J t σ' g (.slice none 0 0) w0 from ⟨F,Y5 _,[],[],σ,hp,ListAt.nil,hQ,RFr.refl _ _,by simp⟩);clear he hstep hcall hr hB hQ hp;go_enter Tryz.func93,Tryz.ntmps93
 go_wp2_with fail
 go_loopw [7] (fun v wr=>∃ g,g≤F∧LInv w0 C B d J t σ' g v wr) (fun v wr=>least fun g=>g≤F∧LInv w0 C B d J t σ' g v wr)
 case atStart=>exact ST.out
 case round=>
  have hI:=Z3o hrel;clear ST;obtain ⟨g,hg⟩:=zX (least fun g=>g≤F∧LInv w0 C B d J t σ' g u7 wr)
  rw [← hg] at hI;have HG:=lh hg;clear hg hrel;obtain ⟨hgF,acc,kids,σ,hp,hL,hQ,hF,h8⟩:=hI;cases g with
  | zero=>simp [refF] at hp
  | succ g=>
  rw [HSTEP.out] at hp;have HO:=Z22 hQ;have HN:=Zd hQ s;obtain ⟨p,cp,rfl⟩:=hL.slice;have HL:=lh hL;have HQ:=lh hQ;have HF:=lh hF;have H8:=lh h8;have HGF:=lh hgF;by_cases hf:σ.f.isNone=true;rotate_left
  ·have hf : σ.f.isNone = false := Bool.eq_false_iff.2 hf;rw [hf] at HO;rw [Y9 (by simp [hf])] at hp;simp only [Option.some.injEq, Prod.mk.injEq] at hp;have HO := lh HO;have HP := lh hp;clear hL hQ hF h8 hgF hf hp HN;go_wp2_with fail
   refine HO.out.mono ?_;rintro e w1 ⟨rfl,rfl⟩;go_wp2_with fail
   refine (Z09 HQ.out s B HR.out (Ya HB.out HF.out.size)).mono ?_;rintro e w2 ⟨rfl,h2,h3⟩;have Q2:=lh h2;have F2:=lh h3;clear h2 h3;go_wp2;go_ret;obtain ⟨h4,h5⟩:=HP.out;refine ⟨_,kids,rfl,?_,by rw [← h5]; exact Q2.out,HF.out.trans F2.out,by rw [← h4]; exact H8.out⟩;rw [← h4];exact HL.out.rfr HR.out F2.out
  rw [hf] at HO;by_cases hn:Ze s σ=true
  ·rw [hn] at HN;rw [Y9 (by simp [hn])] at hp;simp only [Option.some.injEq, Prod.mk.injEq] at hp;have HO := lh HO;have HN := lh HN;have HP := lh hp;clear hL hQ hF h8 hgF hf hn hp;go_wp2_with fail
   refine HO.out.mono ?_;rintro e w1 ⟨rfl,rfl⟩;go_wp2_with fail
   refine HN.out.mono ?_;rintro e w1 ⟨rfl,hb1⟩;have Q1:=lh (HQ.out.below hb1);have F1:=lh (RFr.below (rb:=C.rb) hb1);clear hb1;go_wp2_with fail
   refine (Z09 Q1.out s B HR.out (Ya HB.out (HF.out.trans F1.out).size)).mono ?_;rintro e w2 ⟨rfl,h2,h3⟩;have Q2:=lh h2;have F2:=lh (F1.out.trans h3);clear h2 h3;go_wp2;go_ret;obtain ⟨h4,h5⟩:=HP.out;refine ⟨_,kids,rfl,?_,by rw [← h5]; exact Q2.out,HF.out.trans F2.out,by rw [← h4]; exact H8.out⟩;rw [← h4];exact HL.out.rfr HR.out F2.out
  have hn:Ze s σ=false:=by simpa using hn
  rw [hn] at HN;rw [Yb (by simp [hn,hf])] at hp;have HO:=lh HO;have HN:=lh HN;have HK:=lh (hL.len);obtain ⟨i0,hi,hz0,hz1,hz2⟩:=info_parts Tryz.infoPtr;clear hL hQ hF h8 hgF hn;by_cases h0:acc.length=0
  ·have a0 : decide (0 < acc.length) = false := by simp [h0]
   have n8:((acc.length:Int) == 8)=false:=by simp [h0]
   have d8:decide (acc.length=8)=false:=by simp [h0]
   rw [a0,d8] at hp;simp only [Z52,Z3l,Bool.false_eq_true,if_false] at hp;rw [Yb hf] at hp;obtain ⟨x,σ3,hit,hrest⟩:=Zf hp;have IT:=lh hit;have RE:=lh hrest;have H0:=lh h0;have HNE:=lh (show acc.length≠8 by omega);have HFF:=lh hf;clear hp hit hrest d8 h0 hf;go_wp2_with fail
   refine HO.out.mono ?_;rintro e w1 ⟨rfl,rfl⟩;go_wp2_with fail
   refine HN.out.mono ?_;rintro e w1 ⟨rfl,hb1⟩;have Q1:=lh (HQ.out.below hb1);have F1:=lh (HF.out.trans (RFr.below (rb:=C.rb) hb1));have L1:=lh (HL.out.rfr HR.out (RFr.below (rb:=C.rb) hb1));clear hb1 HO HN HQ HF HL;go_wp2_with fail
   have HO2:=Z22 Q1.out;rw [HFF.out] at HO2;refine HO2.mono ?_;rintro e w2 ⟨rfl,rfl⟩;go_wp2_with fail
   rw [HE.out,Oper.upon_enter];refine (HCALL.out g (by have:=HGF.out; omega) w1 σ x σ3 F1.out Q1.out IT.out).mono ?_;rintro e w2 ⟨a,rfl,h2,h3,h4⟩;have A2:=lh h2;have Q2:=lh h3;have F2:=lh h4;have L2:=lh (L1.out.rfr HR.out h4);clear h2 h3 h4 Q1
   go_wp2_with (at_builtin; go_must (refine wpList_append_lies _ rfl (.tmp 28) (.tmp 31) 47 rfl B 22 i0 _ 1 8 Tryz.underlying47 hi hz0 hz1 hz2 rfl (by decide) (.slice p acc.length cp) kids.length (kids.map ATree.ptr) rfl (L2.out.row.alloc _) ⟨w2.heap.size,0,none⟩ 1 1 [a.ptr] rfl rfl (Yi (cs:=#[a.ptr]) (t:=22) (fr:=(0,0)) (heap_alloc_new w2 _)) (by simp [ATree.ptr,Value.oneCell']) (by decide) (by have:=HK.out; have:=H8.out; unfold maxLen; omega) (by have:=HK.out; have:=H8.out; omega) (by simp; have:=F1.out.size; have:=F2.out.size; have:=HB.out; omega) (w2.heap.size + 1) (by simp) ?_); intro gg cap w4 hown2 hgrow2 hat2 hgl2)
   have hpush:=L2.out.push (wA:=w1) (fun y hy=>(L1.out.ks.new y hy).2) (fun y hy=>(L1.out.own y hy).2.1) A2.out F1.out.size F2.out.size ((Y8 _ _).alloc (Y5 _) _) hgrow2 hown2 (by rcases hat2 with h | h; (exact .inl h); (exact .inr (by omega))) hgl2 (F1.out.trans F2.out);have hinv:g≤F∧LInv w0 C B d J t σ' g (.slice (some ⟨gg,0,none⟩) (kids.length + 1) cap) w4:=
    ⟨by have:=HGF.out; omega,acc ++ [x],kids ++ [a],σ3,RE.out,hpush.1,Q2.out.keep fun k hk=>hpush.2.1 k (by have:=Q2.out.rlt; omega) (fun e=>by have h1:=(L2.out.own k e).1; have h2:=HR.out; have h3:=HB.out; omega),hpush.2.2.2,by have:=H8.out; have:=HNE.out; simp; omega⟩
   exact ⟨⟨g,hinv⟩,by rw [← HG.out]; exact Nat.lt_succ_of_le (Z37 hinv)⟩
  ·have a0 : decide (0 < acc.length) = true := by simp; omega
   rw [a0] at hp;simp only [Z3l,if_true] at hp;have H0:=lh h0;have HFF:=lh hf;have b0:acc.length > 0:=by omega
   by_cases h88:acc.length=8
   ·have n8 : ((acc.length : Int) == 8) = true := by simp [h88]
    have d8:decide (acc.length=8)=true:=by simp [h88]
    rw [d8] at hp;simp only [Z52,if_true] at hp;rw [Y9 (by rw [Zh9]; decide)] at hp;have RE:=lh hp;clear hp d8 h0 h88 hf;go_wp2_with fail
    refine HO.out.mono ?_;rintro e w1 ⟨rfl,rfl⟩;go_wp2_with fail
    refine HN.out.mono ?_;rintro e w1 ⟨rfl,hb1⟩;have Q1:=lh (HQ.out.below hb1);have F1:=lh (HF.out.trans (RFr.below (rb:=C.rb) hb1));have L1:=lh (HL.out.rfr HR.out (RFr.below (rb:=C.rb) hb1));clear hb1 HO HN HQ HF HL;go_wp2_with fail
    refine (Z09 Q1.out Z0n B HR.out (Ya HB.out F1.out.size)).mono ?_;rintro e w2 ⟨rfl,h2,h3⟩;have Q2:=lh h2;have F2:=lh (F1.out.trans h3);have L2:=lh (L1.out.rfr HR.out h3);clear h2 h3 Q1 F1 L1;go_wp2_with fail
    refine (Z2t Q2.out 4 (by decide) B HR.out (Ya HB.out F2.out.size)).mono ?_;rintro e w3 ⟨a,rfl,_,h2,h3⟩;have Q3:=lh h2;have F3:=lh (F2.out.trans h3);have L3:=lh (L2.out.rfr HR.out h3);clear h2 h3 Q2 F2 L2;go_wp2_with fail
    have HO2:=Z22 Q3.out;rw [Zh9] at HO2;refine HO2.mono ?_;rintro e w4 ⟨rfl,rfl⟩;clear HO2;go_wp2;have hinv:g≤F∧LInv w0 C B d J t σ' g (.slice p acc.length cp) w3:=⟨by have:=HGF.out; omega,acc,kids,_,RE.out,L3.out,Q3.out,F3.out,H8.out⟩
    exact ⟨⟨g,hinv⟩,by rw [← HG.out]; exact Nat.lt_succ_of_le (Z37 hinv)⟩
   ·have n8 : ((acc.length : Int) == 8) = false := by simp; omega
    have d8:decide (acc.length=8)=false:=by simp [h88]
    rw [d8] at hp;simp only [Z52,Bool.false_eq_true,if_false] at hp;have HNE:=lh h88;by_cases hf2:(Z0a Z0n σ).f.isNone=true
    ·rw [Yb hf2] at hp;obtain ⟨x, σ3, hit, hrest⟩ := Zf hp;have IT := lh hit;have RE := lh hrest;have HF2 := lh hf2;clear hp hit hrest d8 h0 hf h88 hf2;go_wp2_with fail
     refine HO.out.mono ?_;rintro e w1 ⟨rfl,rfl⟩;go_wp2_with fail
     refine HN.out.mono ?_;rintro e w1 ⟨rfl,hb1⟩;have Q1:=lh (HQ.out.below hb1);have F1:=lh (HF.out.trans (RFr.below (rb:=C.rb) hb1));have L1:=lh (HL.out.rfr HR.out (RFr.below (rb:=C.rb) hb1));clear hb1 HO HN HQ HF HL;go_wp2_with fail
     refine (Z09 Q1.out Z0n B HR.out (Ya HB.out F1.out.size)).mono ?_;rintro e w1' ⟨rfl,h2,h3⟩;replace Q1:=lh h2
     replace F1:=lh (F1.out.trans h3)
     replace L1:=lh (L1.out.rfr HR.out h3)
     clear h2 h3;go_wp2_with fail
     have HO2:=Z22 Q1.out;rw [HF2.out] at HO2;refine HO2.mono ?_;rintro e w2 ⟨rfl,rfl⟩;clear HO2;go_wp2_with fail
     rw [HE.out,Oper.upon_enter];refine (HCALL.out g (by have:=HGF.out; omega) w1' _ x σ3 F1.out Q1.out IT.out).mono ?_;rintro e w2 ⟨a,rfl,h2,h3,h4⟩;have A2:=lh h2;have Q2:=lh h3;have F2:=lh h4;have L2:=lh (L1.out.rfr HR.out h4);clear h2 h3 h4 Q1
     go_wp2_with (at_builtin; go_must (refine wpList_append_lies _ rfl (.tmp 28) (.tmp 31) 47 rfl B 22 i0 _ 1 8 Tryz.underlying47 hi hz0 hz1 hz2 rfl (by decide) (.slice p acc.length cp) kids.length (kids.map ATree.ptr) rfl (L2.out.row.alloc _) ⟨w2.heap.size,0,none⟩ 1 1 [a.ptr] rfl rfl (Yi (cs:=#[a.ptr]) (t:=22) (fr:=(0,0)) (heap_alloc_new w2 _)) (by simp [ATree.ptr,Value.oneCell']) (by decide) (by have:=HK.out; have:=H8.out; unfold maxLen; omega) (by have:=HK.out; have:=H8.out; omega) (by simp; have:=F1.out.size; have:=F2.out.size; have:=HB.out; omega) (w2.heap.size + 1) (by simp) ?_); intro gg cap w4 hown2 hgrow2 hat2 hgl2)
     have hpush:=L2.out.push (wA:=w1') (fun y hy=>(L1.out.ks.new y hy).2) (fun y hy=>(L1.out.own y hy).2.1) A2.out F1.out.size F2.out.size ((Y8 _ _).alloc (Y5 _) _) hgrow2 hown2 (by rcases hat2 with h | h; (exact .inl h); (exact .inr (by omega))) hgl2 (F1.out.trans F2.out);have hinv:g≤F∧LInv w0 C B d J t σ' g (.slice (some ⟨gg,0,none⟩) (kids.length + 1) cap) w4:=
      ⟨by have:=HGF.out; omega,acc ++ [x],kids ++ [a],σ3,RE.out,hpush.1,Q2.out.keep fun k hk=>hpush.2.1 k (by have:=Q2.out.rlt; omega) (fun e=>by have h1:=(L2.out.own k e).1; have h2:=HR.out; have h3:=HB.out; omega),hpush.2.2.2,by have:=H8.out; have:=HNE.out; simp; omega⟩
     exact ⟨⟨g,hinv⟩,by rw [← HG.out]; exact Nat.lt_succ_of_le (Z37 hinv)⟩
    ·have hf2 : (Z0a Z0n σ).f.isNone = false := Bool.eq_false_iff.2 hf2;rw [Y9 (by simp [hf2])] at hp;have RE := lh hp;have HF2 := lh hf2;clear hp d8 h0 hf h88 hf2;go_wp2_with fail
     refine HO.out.mono ?_;rintro e w1 ⟨rfl,rfl⟩;go_wp2_with fail
     refine HN.out.mono ?_;rintro e w1 ⟨rfl,hb1⟩;have Q1:=lh (HQ.out.below hb1);have F1:=lh (HF.out.trans (RFr.below (rb:=C.rb) hb1));have L1:=lh (HL.out.rfr HR.out (RFr.below (rb:=C.rb) hb1));clear hb1 HO HN HQ HF HL;go_wp2_with fail
     refine (Z09 Q1.out Z0n B HR.out (Ya HB.out F1.out.size)).mono ?_;rintro e w3 ⟨rfl,h2,h3⟩;have Q3:=lh h2;have F3:=lh (F1.out.trans h3);have L3:=lh (L1.out.rfr HR.out h3);clear h2 h3 Q1 F1 L1;go_wp2_with fail
     have HO2:=Z22 Q3.out;rw [HF2.out] at HO2;refine HO2.mono ?_;rintro e w2 ⟨rfl,rfl⟩;clear HO2;go_wp2;have hinv:g≤F∧LInv w0 C B d J t σ' g (.slice p acc.length cp) w3:=⟨by have:=HGF.out; omega,acc,kids,_,RE.out,L3.out,Q3.out,F3.out,H8.out⟩
     exact ⟨⟨g,hinv⟩,by rw [← HG.out]; exact Nat.lt_succ_of_le (Z37 hinv)⟩
theorem Zls (args:Array Value) (w:World):(callFunc 94 args).run Tryz.prog w=.ok (.enter 94 args) w:=by go_simp
theorem Zm7 (args:Array Value) (w:World):(callFunc 130 args).run Tryz.prog w=.ok (.enter 130 args) w:=by go_simp
theorem Zm2 (args:Array Value) (w:World):(callFunc 139 args).run Tryz.prog w=.ok (.enter 139 args) w:=by go_simp
theorem Zlg (w:World) (C:QC) (B bx:Nat) (σ:RS) (hQ:QS w C σ) (hr:C.rb < B) (hB:B≤w.heap.size) (hc:w.cell? ⟨bx,0,none⟩=some (.pointer (some ⟨C.rb,0,none⟩))) :
 Calls Tryz.prog 94 #[.pointer (some ⟨bx,0,none⟩)] w (Z1s w C B (.mk 23 (Zk σ).1 0 []) (Zk σ).2):=by
 have HI:=lh (Z2v hQ B hr hB);have HB:=lh hB;clear hQ hB hr;go_enter Tryz.func94,Tryz.ntmps94
 go_wp2_with fail
 refine HI.out.mono ?_;rintro e w1 ⟨rfl,h1,h2⟩;have H1:=lh h1;have H2:=lh h2;clear h1 h2;go_wp2;go_ret;exact ⟨_,rfl,Got.leaf HB.out H2.out,H1.out.below ((Y8 _ _).alloc (Y5 _) _),H2.out.trans (RFr.below ((Y8 _ _).alloc (Y5 _) _))⟩
theorem Zmk (f:Nat) (hV:Z16 63 qd .value f) (w:World) (C:QC) (B bx dx d:Nat) (σ σ':RS) (t:Tree) (hd:d + (f + 1)≤1000000000000) (hp:refF f .value (d + 1) σ=some (t,σ')) (hQ:QS w C σ) (hr:C.rb < B) (hB:B≤w.heap.size) (hc:w.cell? ⟨bx,0,none⟩=some (.pointer (some ⟨C.rb,0,none⟩))) (hc2:w.cell? ⟨dx,0,none⟩=some (.int .i64 d)) :
 Calls Tryz.prog 130 #[.pointer (some ⟨bx,0,none⟩),.pointer (some ⟨dx,0,none⟩)] w (Z1s w C B t σ'):=by
 have HI:=lh (hV w C B (d + 1) σ t σ' hQ hr hB (by omega) hp);clear hQ hB hr hp hV;go_enter Tryz.func130,Tryz.ntmps130
 go_wp2_with fail
 refine HI.out.mono ?_;rintro e w1 ⟨a,rfl,h1⟩;have H1:=lh h1;clear h1;go_wp2;go_ret;exact ⟨a,rfl,H1.out⟩
theorem Zm1 (f:Nat) (hV:Z16 63 qd .value f) (w:World) (C:QC) (B bx dx d:Nat) (σ σ':RS) (t:Tree) (hd:d + (f + 1)≤1000000000000) (hp:refF f .value (d + 1) (Z0a Z2r (Zk σ).2)=some (t,σ')) (hQ:QS w C σ) (hr:C.rb < B) (hB:B≤w.heap.size) (hc:w.cell? ⟨bx,0,none⟩=some (.pointer (some ⟨C.rb,0,none⟩))) (hc2:w.cell? ⟨dx,0,none⟩=some (.int .i64 d)) (hb:bx < w.heap.size) (hb2:dx < w.heap.size) (hn:bx≠C.rb) (hn2:dx≠C.rb) :
 Calls Tryz.prog 139 #[.pointer (some ⟨bx,0,none⟩),.pointer (some ⟨dx,0,none⟩)] w (Z1s w C B (.mk 39 (Zk σ).1 0 [t]) σ'):=by
 have HI:=lh (Z2v hQ B hr hB);have HV:=lh hV;have HP:=lh hp;have HR:=lh hr;have HB:=lh hB;have HD:=lh hd;clear hQ hB hr hp hV hd;go_enter Tryz.func139,Tryz.ntmps139
 go_wp2_with fail
 refine HI.out.mono ?_;rintro e w1 ⟨rfl,h1,h2⟩;have q1:w1.cell? ⟨bx,0,none⟩=some (.pointer (some ⟨C.rb,0,none⟩)):=(h2.cell hb hn).trans hc;have q2:w1.cell? ⟨dx,0,none⟩=some (.int .i64 d):=(h2.cell hb2 hn2).trans hc2;have Q1:=lh h1;have F1:=lh h2;clear h1 h2;go_wp2_with fail
 refine (Z09 Q1.out Z2r B HR.out (Ya HB.out F1.out.size)).mono ?_;rintro e w2 ⟨rfl,h1,h2⟩;have r1:w2.cell? ⟨bx,0,none⟩=some (.pointer (some ⟨C.rb,0,none⟩)):=(h2.cell (Ye hb F1.out.size) hn).trans q1;have r2:w2.cell? ⟨dx,0,none⟩=some (.int .i64 d):=(h2.cell (Ye hb2 F1.out.size) hn2).trans q2;have Q2:=lh h1;have F2:=lh (F1.out.trans h2);have hd2:=HD.out;clear h1 h2 q1 q2;go_wp2_with fail
 refine (HV.out w2 C B (d + 1) _ _ _ Q2.out HR.out (Ya HB.out F2.out.size) (by omega) HP.out).mono ?_;rintro e w3 ⟨a,rfl,h1,h2,h3⟩;have G3:=lh h1;have Q3:=lh h2;have F3:=lh h3;clear h1 h2 h3 r1 r2;go_wp2;go_ret;have hal:=(Y8 w3.heap.size w3).alloc (Y5 _) (.cells #[.pointer (some ⟨a.b,0,none⟩)] 22)
 refine ⟨_,?_,Got.one (k:=39) (t:=(Zk σ).1) HB.out (F2.out.trans F3.out) (G3.out.pre F2.out),(Q3.out.below hal).below ((Y8 _ _).alloc (Y5 _) _),((F2.out.trans F3.out).trans (RFr.below hal)).trans (RFr.below ((Y8 _ _).alloc (Y5 _) _))⟩;simp [ATree.b]
def fArg (kind:Int) (text:ByteArray) (rb d:Nat):Array Value:=#[.pointer (some ⟨rb,0,none⟩),.int .i64 kind,.string text,.int .i64 d]
def Zb2 (b:Bool) (rb d:Nat):Array Value:=#[.pointer (some ⟨rb,0,none⟩),.int .i64 d,.bool b]
theorem Zly (f:Nat) (kind:Int) (text:ByteArray) (hBr:Z16 56 (Zb2 true) (.braces true) f):Z16 59 (fArg kind text) (.func kind text) (f + 1):=by
 intro w C B d σ t σ' hQ hr hB hd hp;rw [refF] at hp;obtain ⟨l,σ1,hl,hp⟩:=Zf hp;obtain ⟨b,σ2,hb,hp⟩:=Zf hp;obtain ⟨rfl,rfl⟩:Tree.mk kind text 0 [.mk 40 ByteArray.empty 0 l.kids,b]=t∧σ2=σ':=by simpa using hp
 have HR:=lh hr;have HB:=lh hB;have HD:=lh hd;have HL:=lh hl;have HBR:=lh hBr;have HBB:=lh hb;have hrw:=hQ.rlt;have HQ:=lh hQ;obtain ⟨bx,hbx⟩:=zX w.heap.size
 have hne:bx≠C.rb:=by omega
 have hal:Below w.heap.size w (w.alloc (.cells #[.pointer (some ⟨C.rb,0,none⟩)] 60)):=(Y8 _ _).alloc (Y5 _) _;have q0:(w.alloc (.cells #[.pointer (some ⟨C.rb,0,none⟩)] 60)).cell? ⟨bx,0,none⟩=some (.pointer (some ⟨C.rb,0,none⟩)):=by rw [hbx]; simp only [World.cell?,heap_alloc_new]; rfl
 have hbz:bx < (w.alloc (.cells #[.pointer (some ⟨C.rb,0,none⟩)] 60)).heap.size:=by rw [hbx]; simp
 have Q0:=lh (hQ.below hal);have F0:=lh (RFr.below (rb:=C.rb) hal);clear hQ hB hr hp hd hl hBr hb hal hrw;unfold fArg;go_enter Tryz.func59,Tryz.ntmps59
 go_wp2_with fail
 refine (Z09 Q0.out Z07 B HR.out (Ya HB.out F0.out.size)).mono ?_;rintro e w1 ⟨rfl,h1,h2⟩;rw [← hbx];have q1:=(h2.cell hbz hne).trans q0;have hb1:bx < w1.heap.size:=Ye hbz h2.size;have Q1:=lh h1;have F1:=lh (F0.out.trans h2);have HBX:=lh hbx;clear h1 h2 q0 Q0 F0 hbz hbx;go_wp2_with fail
 refine (Zhi f d 94 #[.pointer (some ⟨bx,0,none⟩)] Z08 .params (fun g σ=>some (.mk 23 (Zk σ).1 0 [],(Zk σ).2)) Zls (fun g acc σ=>by rw [refF]; rfl) w1 C B HR.out (Ya HB.out F1.out.size) (fun g hg w2 σ x σ' hF hQ hi=>?_) _ Q1.out l σ1 HL.out).mono ?_
 ·obtain ⟨rfl, rfl⟩ : Tree.mk 23 (Zk σ).1 0 [] = x ∧ (Zk σ).2 = σ' := by simpa using hi
  exact Zlg w2 C B bx σ hQ HR.out (Ya HB.out (F1.out.trans hF).size) ((hF.cell hb1 hne).trans q1)
 rintro e w2 ⟨v,kids,rfl,h1,h2,h3,_⟩;obtain ⟨p,cp,rfl⟩:=h1.slice;have q2:=(h3.cell hb1 hne).trans q1;have hb2:bx < w2.heap.size:=Ye hb1 h3.size;have N2:=lh ((h1.pre (w0:=w) F1.out.size).node (k:=40) (tx:=⟨#[]⟩) (n:=0) (Ya HB.out (F1.out.trans h3).size) (F1.out.trans h3).size);have hal:Below w2.heap.size w2 (w2.alloc (.cells #[.int .i64 40,.string ⟨#[]⟩,.int .i64 0,.slice p l.kids.length cp] 50)):=(Y8 _ _).alloc (Y5 _) _;have Q2:=lh (h2.below hal);have F2:=lh ((F1.out.trans h3).trans (RFr.below hal))
 have q3:(w2.alloc (.cells #[.int .i64 40,.string ⟨#[]⟩,.int .i64 0,.slice p l.kids.length cp] 50)).cell? ⟨bx,0,none⟩=some (.pointer (some ⟨C.rb,0,none⟩)):=(Z5 hb2).trans q2;clear h1 h2 h3 q1 hb1 hal;go_wp2_with fail
 refine (HBR.out _ C B d _ _ _ Q2.out HR.out (Ya HB.out F2.out.size) (by have:=HD.out; omega) HBB.out).mono ?_;rintro e w4 ⟨a,rfl,h1,h2,h3⟩;have G4:=lh h1;have Q4:=lh h2;have F4:=lh h3;clear h1 h2 h3 q2 q3;go_wp2;go_ret;have hal:=(Y8 w4.heap.size w4).alloc (Y5 _) (.cells #[.pointer (some ⟨w2.heap.size,0,none⟩),.pointer (some ⟨a.b,0,none⟩)] 22)
 refine ⟨_,?_,Got.two (k:=kind) (t:=text) HB.out (F2.out.trans F4.out) (N2.out.rfr HR.out F4.out) (fun x hx=>(N2.out.new x hx).2) F2.out.size G4.out,(Q4.out.below hal).below ((Y8 _ _).alloc (Y5 _) _),((F2.out.trans F4.out).trans (RFr.below hal)).trans (RFr.below ((Y8 _ _).alloc (Y5 _) _))⟩;simp [ATree.b]
theorem Zeq:∀ {f d:Nat} {k:Int} {acc:List Tree} {us ts:List Tok} {t:Tree},Z3 f (.stmts k acc) d us=some (.ok (t,ts))→∃ tx l,t=.mk k tx 0 l:=by
 intro f;induction f with
 | zero=>intro d k acc us ts t h; cases h
 | succ f ih =>
   intro d k acc us ts t h;rw [Z3] at h;generalize (if k=1 then decide ((hdT us).kind=6) else isT Zl us)=c at h;cases c
   ·obtain ⟨x,vs,_,h⟩:=Z17 h;exact ih h
   ·obtain ⟨rfl,_⟩:=Z3d h; exact ⟨_,_,rfl⟩
theorem Zfl (f:Nat) (body:Bool) (hS:Says 32 (fun rb=>#[.pointer (some ⟨rb,0,none⟩),.int .i64 6,.string Zl]) (.stmts 6 []) f) :
 Says 101 (fun rb=>#[.pointer (some ⟨rb,0,none⟩),.bool body]) (.block body) (f + 1):=by
 intro w rb B d ts r hP hp;have hw:Z0s Zc ts (fun ts=>Zw (Z3 f (.stmts 6 []) d ts) fun x ts=>Z0s Zl ts fun ts=>okT (if body then x else .mk 6 ByteArray.empty 0 x.kids) ts)=some r:=hp;have HP:=lh hP;simp only;rcases Z1x hw with ⟨hs,h1⟩ | ⟨hs,rfl⟩
 ·have HC := lh (Z1y w rb ts d Zc hP.rd hs);have H1 := lh h1;clear hP hp hw hs h1;go_enter Tryz.func101, Tryz.ntmps101
  go_wp2_with fail
  refine HC.out.mono ?_;rintro e w1 ⟨rfl,hR1,hF1⟩;have P1:=lh (HP.out.tail hR1 hF1);have F1:=lh hF1;clear hR1 hF1 HC;rcases Zr H1.out with ⟨⟨c,p⟩,hv,rfl⟩ | ⟨t,ts2,hv,h2⟩
  ·have HV := hS w1 rb B d _ _ P1.out hv;simp only at HV;unfold Zl at HV;have HV := lh HV;clear hv;go_wp2_with fail
   refine HV.out.mono ?_;rintro e w2 ⟨⟨b,rfl,h1,h2⟩,hF⟩;exact ⟨rfl,Z06.pre F1.out (r:=.error (c,p)) ⟨⟨b,rfl,h1,h2⟩,hF⟩⟩
  ·have HV := hS w1 rb B d _ _ P1.out hv;simp only at HV;unfold Zl at HV;have HV := lh HV;have hl := Z0u hv;obtain ⟨tx, l, rfl⟩ := Zeq hv;have H2 := lh h2;clear hv h2;go_wp2_with fail
   refine HV.out.mono ?_;rintro e w2 ⟨a,rfl,hG,hR2,hF2⟩;obtain ⟨b,v,k,tx',n,kids⟩:=a;have htr:=hG.tree;simp only [ATree.tree,Tree.mk.injEq] at htr;obtain ⟨rfl,rfl,rfl,rfl⟩:=htr;have G2:=hG.pre F1.out;have F2:=F1.out.trans hF2;have hblk:=G2.at'.blkOf;simp only [ATree.b,ATree.v,ATree.kind,ATree.text,ATree.n] at hblk ⊢;have c1:w2.cell? ⟨b,1,none⟩=some (.string tx'):=by simp [World.cell?,hblk]
   have z1:w2.frozen? ⟨b,1,none⟩=false:=by simp [World.frozen?,hblk]
   have P2:=P1.out.next hR2 hF2 hl;have H3:=lh (Got.text (t':=ByteArray.empty) HP.out.lt HP.out.le G2 F2 hR2);have P2':Pre (w2.setCell ⟨b,1,none⟩ (.string ByteArray.empty)) rb B d ts2:=⟨H3.out.2.2,P2.deep,P2.lt,by rw [Yn]; exact P2.le,P2.few⟩
   have P2:=lh P2;have P2':=lh P2';have F2:=lh F2;have G2:=lh G2;clear hG hR2 hF2 HV hl hblk;rcases Z1x H2.out with ⟨hs,h3⟩ | ⟨hs,rfl⟩
   ·have h3 := Yk h3;have HR := lh h3.symm;cases body
    ·have HC := Z1y _ rb ts2 d Zl P2'.out.rd hs;unfold Zl at HC;have HC := lh HC;clear hs h3;go_wp2_with fail
     refine HC.out.mono ?_;rintro e w3 ⟨rfl,hR3,hF3⟩;have R3:=lh hR3;have F3:=lh hF3;clear hR3 hF3;go_wp2;go_ret;rw [HR.out];exact ⟨_,rfl,H3.out.1.rfr HP.out.lt F3.out,R3.out,H3.out.2.1.trans F3.out⟩
    ·have HC := Z1y _ rb ts2 d Zl P2.out.rd hs;unfold Zl at HC;have HC := lh HC;clear hs h3;go_wp2_with fail
     refine HC.out.mono ?_;rintro e w3 ⟨rfl,hR3,hF3⟩;have R3:=lh hR3;have F3:=lh hF3;clear hR3 hF3;go_wp2;go_ret;rw [HR.out];exact ⟨_,rfl,G2.out.rfr HP.out.lt F3.out,R3.out,F2.out.trans F3.out⟩
   ·cases body
    ·have HC := Z3k _ rb ts2 d Zl P2'.out.rd hs;unfold Zl at HC;have HC := lh HC;clear hs;go_wp2_with fail
     refine HC.out.mono ?_;rintro e w3 ⟨⟨b,rfl,h1,h2⟩,hB⟩;exact ⟨rfl,Z06.err H3.out.2.1 ⟨b,rfl,h1,h2⟩ hB⟩
    ·have HC := Z3k _ rb ts2 d Zl P2.out.rd hs;unfold Zl at HC;have HC := lh HC;clear hs;go_wp2_with fail
     refine HC.out.mono ?_;rintro e w3 ⟨⟨b,rfl,h1,h2⟩,hB⟩;exact ⟨rfl,Z06.err F2.out ⟨b,rfl,h1,h2⟩ hB⟩
 ·have HC := lh (Z3k w rb ts d Zc hP.rd hs);clear hP hp hw hs;go_enter Tryz.func101, Tryz.ntmps101
  go_wp2_with fail
  refine HC.out.mono ?_;rintro e w3 ⟨⟨b,rfl,h1,h2⟩,hB⟩;exact ⟨rfl,Z06.err (RFr.refl _ _) ⟨b,rfl,h1,h2⟩ hB⟩
end Go.Proofs.YtajomcjaljakhaaGreatDoor
