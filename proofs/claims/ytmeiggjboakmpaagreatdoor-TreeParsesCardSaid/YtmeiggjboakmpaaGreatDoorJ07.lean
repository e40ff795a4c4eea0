/- Package tree: the reader, and the small ones of its functions. -/
import Derived.Test.YtmeiggjboakmpaaGreatDoorJ06
import Derived.Maps.Own
import Derived.Maps.OwnOps
import Derived.Maps.RangeWalk
import Derived.Laws.Pointers
import Derived.Laws.LoneSync
import Derived.RegionTactic
import Derived.RegionCalls
import Derived.ChangeAlike
namespace Go.Proofs.YtmeiggjboakmpaaGreatDoor
open Go Go.RowKit
set_option maxRecDepth 100000
set_option maxHeartbeats 20000000
set_option linter.unusedVariables false
structure RFr (w w':World) (rb:Nat):Prop where
 os:w'.os=w.os
 tape:w'.tape=w.tape
 output:w'.output=w.output
 size:w.heap.size≤w'.heap.size
 block:∀ k,k < w.heap.size→k≠rb→w'.heap[k]?=w.heap[k]?
theorem RFr.refl (w:World) (rb:Nat):RFr w w rb:=⟨rfl,rfl,rfl,Y5 _,fun _ _ _=>rfl⟩
theorem RFr.trans {w w' w'':World} {rb:Nat} (h:RFr w w' rb) (g:RFr w' w'' rb):RFr w w'' rb:=
 ⟨g.os.trans h.os,g.tape.trans h.tape,g.output.trans h.output,Ya h.size g.size,fun k hk hn=>(g.block k (Ye hk h.size) hn).trans (h.block k hk hn)⟩
theorem RFr.below {w w':World} {rb:Nat} (h:Below w.heap.size w w'):RFr w w' rb:=⟨h.os,h.tape,h.output,h.size,fun k hk _=>h.block k hk⟩
theorem RFr.drew {w w':World} {rb:Nat} (h:RFr w w' rb):RFr w w'.drew rb:=⟨h.os,h.tape,h.output,h.size,h.block⟩
theorem RFr.cell {w w':World} {rb:Nat} (h:RFr w w' rb) {p:Addr} (hp:p.block < w.heap.size) (hn:p.block≠rb):w'.cell? p=w.cell? p:=Yj (h.block p.block hp hn)
def levL:Nat→List ByteArray
 | 0=>[s_or]
 | 1=>[Z5n]
 | 2=>[Z3j]
 | 3=>[Z4i]
 | 4=>[Z51,Z5p]
 | 5=>[Z6n]
 | _=>[]
def Z52 (w:World) (rb:Nat):Prop:=∀ lv,lv < 6→∃ b off cap,9 < rb∧b < rb∧w.cell? ⟨9,lv,none⟩=some (.slice (some ⟨b,off,none⟩) (levL lv).length cap) ∧
 (levL lv).length≤cap∧∀ i x,(levL lv)[i]?=some x→w.cell? ⟨b,off + i,none⟩=some (.string x)
theorem Z52.keep {w w':World} {rb:Nat} (h:Z52 w rb) (hk:∀ k,k < rb→w'.heap[k]?=w.heap[k]?):Z52 w' rb:=by
 intro lv hl;obtain ⟨b,off,cap,h1,h2,h3,h4,h5⟩:=h lv hl;exact ⟨b,off,cap,h1,h2,(Yj (hk _ h1)).trans h3,h4,fun i x hx=>(Yj (hk b h2)).trans (h5 i x hx)⟩
structure RAt (w:World) (rb tb off cap:Nat) (ts:List Tok) (d:Nat):Prop where
 blk:w.heap[rb]?=some (.cells #[.slice (some ⟨tb,off,none⟩) ts.length cap,.int .i64 d] 61 (0,0))
 le:ts.length≤cap
 most:cap≤maxLen
 ord:tb < rb
 lt:tb < w.heap.size
 cells:∀ k t j x,ts[k]?=some t→t.cells[j]?=some x→w.cell? ⟨tb,off + (k * 4 + j),none⟩=some x
 last:∃ l e,ts=l ++ [e]∧e.kind=6∧∀ t∈l,t.kind≠6
 lev:Z52 w rb
def Rd (w:World) (rb:Nat) (ts:List Tok) (d:Nat):Prop:=∃ tb off cap,RAt w rb tb off cap ts d
section
variable {w w':World} {rb tb off cap d:Nat} {ts:List Tok}
theorem RAt.ne (h:RAt w rb tb off cap ts d):tb≠rb:=by have:=h.ord; omega
theorem RAt.keep (h:RAt w rb tb off cap ts d) (hs:w.heap.size≤w'.heap.size) (hr:w'.heap[rb]?=w.heap[rb]?) (ht:w'.heap[tb]?=w.heap[tb]?) (hl:∀ k,k < rb→w'.heap[k]?=w.heap[k]?):RAt w' rb tb off cap ts d:=
 ⟨hr.trans h.blk,h.le,h.most,h.ord,Ye h.lt hs,fun k t j x h1 h2=>(Yj ht).trans (h.cells k t j x h1 h2),h.last,h.lev.keep hl⟩
theorem RAt.rlt (h:RAt w rb tb off cap ts d):rb < w.heap.size:=(Y6.1 h.blk).1
theorem RAt.below (h:RAt w rb tb off cap ts d) (hB:Below w.heap.size w w'):RAt w' rb tb off cap ts d:=h.keep hB.size (hB.block rb h.rlt) (hB.block tb h.lt) fun k hk=>hB.block k (Nat.lt_trans hk h.rlt)
theorem Rd.keep (h:Rd w rb ts d) (hs:w.heap.size≤w'.heap.size) (hk:∀ k,k≤rb→w'.heap[k]?=w.heap[k]?):Rd w' rb ts d:=by
 obtain ⟨tb,off,cap,h⟩:=h;exact ⟨tb,off,cap,h.keep hs (hk rb (Y5 _)) (hk tb (Nat.le_of_lt h.ord)) fun k h=>hk k (Nat.le_of_lt h)⟩
theorem Rd.below (h:Rd w rb ts d) (hB:Below w.heap.size w w'):Rd w' rb ts d:=by obtain ⟨tb,off,cap,h⟩:=h; exact ⟨tb,off,cap,h.below hB⟩
theorem Rd.rlt (h:Rd w rb ts d):rb < w.heap.size:=by obtain ⟨tb,off,cap,h⟩:=h; exact h.rlt
theorem RAt.drew (h:RAt w rb tb off cap ts d):RAt w.drew rb tb off cap ts d:=h.keep (Y5 _) rfl rfl fun _ _=>rfl
theorem Rd.drew (h:Rd w rb ts d):Rd w.drew rb ts d:=by obtain ⟨tb,off,cap,h⟩:=h; exact ⟨tb,off,cap,h.drew⟩
theorem RAt.c0 (h:RAt w rb tb off cap ts d):w.cell? ⟨rb,0,none⟩=some (.slice (some ⟨tb,off,none⟩) ts.length cap):=by simp [World.cell?,h.blk]
theorem RAt.c1 (h:RAt w rb tb off cap ts d):w.cell? ⟨rb,1,none⟩=some (.int .i64 d):=by simp [World.cell?,h.blk]
theorem RAt.fz (h:RAt w rb tb off cap ts d) (i:Nat):w.frozen? ⟨rb,i,none⟩=false:=by simp [World.frozen?,h.blk]
theorem RAt.head (h:RAt w rb tb off cap ts d):∃ l,ts=hdT ts :: l:=by
 obtain ⟨l,e,h1,_,_⟩:=h.last;cases ts with
 | nil=>simp at h1
 | cons t l'=>exact ⟨l',rfl⟩
theorem RAt.hd (h:RAt w rb tb off cap ts d) {j:Nat} {x:Value} (hj:(hdT ts).cells[j]?=some x):w.cell? ⟨tb,off + j,none⟩=some x:=by
 obtain ⟨l,hl⟩:=h.head;have:=h.cells 0 (hdT ts) j x (by rw [hl]; rfl) hj;simpa using this
theorem RAt.pos (h:RAt w rb tb off cap ts d):0 < ts.length:=by obtain ⟨l,hl⟩:=h.head; rw [hl]; simp
theorem RAt.two (h:RAt w rb tb off cap ts d) (hk:(hdT ts).kind≠6):2≤ts.length:=by
 obtain ⟨l,e,h1,h2,_⟩:=h.last;cases l with
 | nil=>rw [h1] at hk; exact absurd h2 hk
 | cons a l=>rw [h1]; simp
theorem RAt.tail (h:RAt w rb tb off cap ts d) (hk:(hdT ts).kind≠6):RAt (w.setCell ⟨rb,0,none⟩ (.slice (some ⟨tb,off + 4,none⟩) (ts.length - 1) (cap - 1))) rb tb (off + 4) (cap - 1) ts.tail d:=by
 obtain ⟨l,hl⟩:=h.head;have h2:=h.two hk;have hle:=h.le;refine ⟨?_,?_,by have:=h.most; omega,h.ord,by rw [Yn]; exact h.lt,fun k t j x h3 h4=>?_,?_,?_⟩
 ·have:=Z07 (o:=0) (.slice (some ⟨tb,off + 4,none⟩) (ts.length - 1) (cap - 1)) h.blk;rw [List.length_tail];exact this
 ·rw [List.length_tail]; omega
 ·have h5:=h.cells (k + 1) t j x (by rw [hl] at h3 ⊢; simpa using h3) h4;have hb:=Yg w ⟨rb,0,none⟩ (.slice (some ⟨tb,off + 4,none⟩) (ts.length - 1) (cap - 1)) tb h.ne;rw [show off + 4 + (k * 4 + j)=off + ((k + 1) * 4 + j) by omega];exact (Yj hb).trans h5
 ·obtain ⟨l', e, h6, h7, h8⟩ := h.last;cases l' with
  | nil=>rw [h6] at hk; exact absurd h7 hk
  | cons a l'=>exact ⟨l',e,by rw [h6]; rfl,h7,fun t ht=>h8 t (List.mem_cons_of_mem _ ht)⟩
 ·exact h.lev.keep fun k hk=>Yg _ _ _ _ (by simp only; omega)
theorem RAt.deep (h:RAt w rb tb off cap ts d) {x:Int} {d':Nat} (hx:x=d'):RAt (w.setCell ⟨rb,1,none⟩ (.int .i64 x)) rb tb off cap ts d':=by
 subst hx;have hb:=Yg w ⟨rb,1,none⟩ (.int .i64 (d':Int)) tb h.ne;exact ⟨Z07 (o:=1) (.int .i64 (d':Int)) h.blk,h.le,h.most,h.ord,by rw [Yn]; exact h.lt,fun k t j x h3 h4=>(Yj hb).trans (h.cells k t j x h3 h4),h.last,h.lev.keep fun k hk=>Yg _ _ _ _ (by simp only; omega)⟩
theorem RFr.set (h:RFr w w' rb) (o:Nat) (x:Value):RFr w (w'.setCell ⟨rb,o,none⟩ x) rb:=
 ⟨h.os,h.tape,h.output,by rw [Yn]; exact h.size,fun k hk hn=>(Yg _ _ _ _ hn).trans (h.block k hk hn)⟩
end
theorem Z54 {s:ByteArray} {ts:List Tok} (h:isT s ts=true):(hdT ts).kind≠6:=by
 simp only [isT,Bool.and_eq_true,Bool.or_eq_true,decide_eq_true_eq] at h;omega
theorem Z4h (w:World) (rb:Nat) (ts:List Tok) (d:Nat) (s:ByteArray) (hR:Rd w rb ts d) :
 Calls Tryz.prog 51 #[.pointer (some ⟨rb,0,none⟩),.string s] w fun e w'=>e=.returned (.bool (isT s ts))∧Below w.heap.size w w':=by
 obtain ⟨tb,off,cap,h⟩:=hR;have c0:=h.c0;have t0:=h.hd (j:=0) rfl;have t1:=h.hd (j:=1) rfl;have t2:=h.hd (j:=2) rfl;have t3:=h.hd (j:=3) rfl;have hp:=h.pos;have hm:=h.most;have hle:=h.le;unfold maxLen at hm;obtain ⟨n,hn⟩:=zX ts.length
 rw [← hn] at c0 hp hle;have hlt:=h.lt;have hrt:=h.rlt;obtain ⟨B,hB⟩:=zX (isT s ts)
 rw [← hB];unfold isT at hB;obtain ⟨⟨k,tx,tn,ta⟩,ht⟩:∃ t,t=hdT ts:=⟨_,rfl⟩
 rw [← ht] at t0 t1 t2 t3 hB;simp only [Nat.add_zero] at t0 hB;clear ht hn h;have hal:∀ o,Below w.heap.size w (w.alloc o):=fun o=>(Y8 _ _).alloc (Y5 _) o;have HAL:=lh hal;clear hal;by_cases h5:k=5
 ·subst h5;have hB2 : B = Z15 tx s := by simpa using hB
  have HB:=lh hB2;clear hB hB2;go_enter Tryz.func51,Tryz.ntmps51
  go_wp2;go_ret;rw [HB.out,← Z3u];exact ⟨rfl,HAL.out _⟩
 have n5:(k == 5)=false:=by simpa using h5
 by_cases h2:k=2
 ·subst h2;have hB2 : B = Z15 tx s := by simpa using hB
  have HB:=lh hB2;clear hB hB2 h5;go_enter Tryz.func51,Tryz.ntmps51
  go_wp2;go_ret;rw [HB.out,← Z3u];exact ⟨rfl,HAL.out _⟩
 have n2:(k == 2)=false:=by simpa using h2
 have hB2:B=false:=by rw [hB]; simp [h5,h2]
 have HB:=lh hB2;clear hB hB2 h5 h2;go_enter Tryz.func51,Tryz.ntmps51
 go_wp2;go_ret;rw [HB.out];exact ⟨rfl,HAL.out _⟩
theorem Z22 (w:World) (rb:Nat) (ts:List Tok) (d:Nat) (s:ByteArray) (hR:Rd w rb ts d) (hs:isT s ts=false) :
 Calls Tryz.prog 74 #[.pointer (some ⟨rb,0,none⟩),.string s] w fun e w'=>e=.returned (.bool false)∧Below w.heap.size w w':=by
 have HC:=Z4h w rb ts d s hR;rw [hs] at HC;have HC:=lh HC;clear hs hR;go_enter Tryz.func74,Tryz.ntmps74
 go_wp2_with fail
 refine HC.out.mono ?_;rintro e w1 ⟨rfl,hB⟩;have HB:=lh hB;clear hB;go_wp2;go_ret;exact ⟨rfl,HB.out⟩
theorem Z1g (w:World) (rb:Nat) (ts:List Tok) (d:Nat) (s:ByteArray) (hR:Rd w rb ts d) (hs:isT s ts=true) :
 Calls Tryz.prog 74 #[.pointer (some ⟨rb,0,none⟩),.string s] w fun e w'=>e=.returned (.bool true)∧Rd w' rb ts.tail d∧RFr w w' rb:=by
 have HC:=Z4h w rb ts d s hR;rw [hs] at HC;have HC:=lh HC;have HR:=lh hR;have HK:=lh (Z54 hs);clear hs hR;go_enter Tryz.func74,Tryz.ntmps74
 go_wp2_with fail
 refine HC.out.mono ?_;rintro e w1 ⟨rfl,hB⟩;obtain ⟨tb,off,cap,h⟩:=HR.out.below hB;have c0:=h.c0;have z0:=h.fz 0;have h2:=h.two HK.out;have hm:=h.most;have hle:=h.le;unfold maxLen at hm;have H:=lh h;have HB:=lh hB;obtain ⟨n,hn⟩:=zX ts.length
 rw [← hn] at c0 h2 hle;have HN:=lh hn;clear hB h hn HC;go_wp2;go_ret;refine ⟨rfl,⟨tb,off + 4,cap - 1,?_⟩,?_⟩
 ·have:=H.out.tail HK.out;rw [← HN.out] at this;exact this
 ·exact (RFr.below HB.out).set _ _
inductive ATree
 | mk (b:Nat) (v:Value) (kind:Int) (text:ByteArray) (n:Int) (kids:List ATree)
def ATree.b:ATree→Nat | .mk b _ _ _ _ _=>b
def ATree.v:ATree→Value | .mk _ v _ _ _ _=>v
def ATree.kind:ATree→Int | .mk _ _ k _ _ _=>k
def ATree.text:ATree→ByteArray | .mk _ _ _ t _ _=>t
def ATree.n:ATree→Int | .mk _ _ _ _ n _=>n
def ATree.kids:ATree→List ATree | .mk _ _ _ _ _ l=>l
def ATree.ptr (a:ATree):Value:=.pointer (some ⟨a.b,0,none⟩)
mutual
def ATree.tree:ATree→Tree
 | .mk _ _ k t n l=>.mk k t n (Zr l)
def Zr:List ATree→List Tree
 | []=>[]
 | a :: l=>a.tree :: Zr l
end
mutual
def ATree.blocks:ATree→List Nat
 | .mk b v _ _ _ l=>b :: (v.ownBlock.toList ++ Z0f l)
def Z0f:List ATree→List Nat
 | []=>[]
 | a :: l=>a.blocks ++ Z0f l
end
theorem Z26 (l:List ATree):Zr l=l.map ATree.tree:=by
 induction l with
 | nil=>rfl
 | cons a l ih=>simp [Zr,ih]
theorem Z1k (l:List ATree):Z0f l=l.flatMap ATree.blocks:=by
 induction l with
 | nil=>rfl
 | cons a l ih=>simp [Z0f,ih]
theorem Z2j (l m:List ATree):Zr (l ++ m)=Zr l ++ Zr m:=by simp [Z26]
theorem Z20 (l m:List ATree):Z0f (l ++ m)=Z0f l ++ Z0f m:=by simp [Z1k]
inductive TreeAt (w:World) (B:Nat):ATree→Prop
 | mk {b:Nat} {v:Value} {kind:Int} {text:ByteArray} {n:Int} {kids:List ATree} (blk:w.heap[b]?=some (.cells #[.int .i64 kind,.string text,.int .i64 n,v] 38 (0,0)))
  (le:B≤b) (row:w.ownsRow B 22 1 v kids.length (kids.map ATree.ptr)) (all:∀ a∈kids,TreeAt w B a):TreeAt w B (.mk b v kind text n kids)
section
variable {w w':World} {B rb:Nat} {a:ATree}
theorem TreeAt.keep (h:TreeAt w B a) (hb:∀ k,B≤k→k < w.heap.size→w'.heap[k]?=w.heap[k]?):TreeAt w' B a:=by
 induction h with
 | mk blk le row _ ih =>
   exact .mk ((hb _ le (Y6.1 blk).1).trans blk) le (Zq row fun g hg=>hb g (row.lt g hg).1 (row.lt g hg).2) ih
theorem TreeAt.keepB (h:TreeAt w B a) (hb:∀ k∈a.blocks,w'.heap[k]?=w.heap[k]?):TreeAt w' B a:=by
 induction h with
 | @mk b v kind text n kids blk le row _ ih =>
   refine .mk ((hb b (by simp [ATree.blocks])).trans blk) le (Zq row fun g hg=>hb g (by simp [ATree.blocks,hg])) fun a ha=>ih a ha fun k hk=>hb k ?_;simp only [ATree.blocks,Z1k,List.mem_cons,List.mem_append,List.mem_flatMap];exact .inr (.inr ⟨a,ha,hk⟩)
theorem TreeAt.has (h:TreeAt w B a):∀ k∈a.blocks,B≤k∧k < w.heap.size:=by
 induction h with
 | @mk b v kind text n kids blk le row _ ih =>
   intro k hk;simp only [ATree.blocks,Z1k,List.mem_cons,List.mem_append,List.mem_flatMap,Option.mem_toList] at hk;rcases hk with rfl | hk | ⟨a,ha,hk⟩;·exact ⟨le,(Y6.1 blk).1⟩
   ·exact row.lt k hk
   ·exact ih a ha k hk
theorem TreeAt.bel (h:TreeAt w B a) (hB:Below w.heap.size w w'):TreeAt w' B a:=h.keep fun k _ hk=>hB.block k hk
theorem TreeAt.rfr (h:TreeAt w B a) (hr:rb < B) (f:RFr w w' rb):TreeAt w' B a:=h.keep fun k hk hl=>f.block k hl (by omega)
theorem TreeAt.drew (h:TreeAt w B a):TreeAt w.drew B a:=h.keep fun _ _ _=>rfl
theorem TreeAt.blkOf (h:TreeAt w B a):w.heap[a.b]?=some (.cells #[.int .i64 a.kind,.string a.text,.int .i64 a.n,a.v] 38 (0,0)):=by cases h; assumption
theorem TreeAt.rowOf (h:TreeAt w B a):w.ownsRow B 22 1 a.v a.kids.length (a.kids.map ATree.ptr):=by cases h; assumption
theorem TreeAt.kid (h:TreeAt w B a) {k:ATree} (hk:k∈a.kids):TreeAt w B k:=by cases h; rename_i all; exact all k hk
theorem TreeAt.le (h:TreeAt w B a):B≤a.b:=by cases h; assumption
theorem TreeAt.lt (h:TreeAt w B a):a.b < w.heap.size:=(Y6.1 h.blkOf).1
theorem TreeAt.base {B':Nat} (h:TreeAt w B a) (hB:B'≤B):TreeAt w B' a:=by
 induction h with
 | mk blk le row _ ih=>exact .mk blk (Ya hB le) (Z6a hB row) ih
end
def Z7g (w:World) (base:Nat) (e:Ending) (c p:Int):Prop:=
 ∃ b,e=.panicked [{ v:=.iface 57 (.agg #[.iface 88 (.pointer (some ⟨b,0,none⟩))]),recovered:=false }]∧base≤b∧w.heap[b]?=some (.cells #[.int .i64 c,.int .i64 p] 89 (0,0))
structure Got (w:World) (B:Nat) (w':World) (a:ATree) (t:Tree):Prop where
 tree:a.tree=t
 at':TreeAt w' B a
 nodup:a.blocks.Nodup
 new:∀ x∈a.blocks,w.heap.size≤x∧x < w'.heap.size
theorem Got.rfr {w w' w'':World} {B rb:Nat} {a:ATree} {t:Tree} (h:Got w B w' a t) (hr:rb < B) (f:RFr w' w'' rb):Got w B w'' a t:=
 ⟨h.tree,h.at'.rfr hr f,h.nodup,fun x hx=>⟨(h.new x hx).1,Ye (h.new x hx).2 f.size⟩⟩
theorem Got.pre {w w' w'':World} {B rb:Nat} {a:ATree} {t:Tree} (h:Got w' B w'' a t) (f:RFr w w' rb):Got w B w'' a t:=
 ⟨h.tree,h.at',h.nodup,fun x hx=>⟨Ya f.size (h.new x hx).1,(h.new x hx).2⟩⟩
def Z0t (w:World) (rb B d:Nat) (r:Except (Int×Nat) (Tree×List Tok)) (e:Ending) (w':World):Prop:=
 match r with
 | .ok (t,ts)=>∃ a,e=.returned (.pointer (some ⟨a.b,0,none⟩))∧Got w B w' a t∧Rd w' rb ts d∧RFr w w' rb
 | .error (c,p)=>Z7g w' w.heap.size e c p∧RFr w w' rb
theorem TreeAt.new {w:World} {B:Nat} {v:Value} {kind:Int} {text:ByteArray} {n:Int} {kids:List ATree} (hB:B≤w.heap.size) (row:w.ownsRow B 22 1 v kids.length (kids.map ATree.ptr)) (all:∀ a∈kids,TreeAt w B a) :
 TreeAt (w.alloc (.cells #[.int .i64 kind,.string text,.int .i64 n,v] 38)) B (.mk w.heap.size v kind text n kids):=by
 have hal:Below w.heap.size w (w.alloc (.cells #[.int .i64 kind,.string text,.int .i64 n,v] 38)):=(Y8 _ _).alloc (Y5 _) _;exact .mk (heap_alloc_new w _) hB (row.alloc _) fun a ha=>(all a ha).bel hal
structure Pre (w:World) (rb B d:Nat) (ts:List Tok):Prop where
 rd:Rd w rb ts d
 deep:d≤30
 lt:rb < B
 le:B≤w.heap.size
 few:ts.length≤4000
theorem Pre.below {w w':World} {rb B d:Nat} {ts:List Tok} (h:Pre w rb B d ts) (hB:Below w.heap.size w w'):Pre w' rb B d ts:=
 ⟨h.rd.below hB,h.deep,h.lt,Ya h.le hB.size,h.few⟩
theorem Pre.next {w w':World} {rb B d:Nat} {ts ts':List Tok} (h:Pre w rb B d ts) (hR:Rd w' rb ts' d) (f:RFr w w' rb) (hl:ts'.length≤ts.length):Pre w' rb B d ts':=
 ⟨hR,h.deep,h.lt,Ya h.le f.size,Ya hl h.few⟩
theorem Pre.tail {w w':World} {rb B d:Nat} {ts:List Tok} (h:Pre w rb B d ts) (hR:Rd w' rb ts.tail d) (f:RFr w w' rb):Pre w' rb B d ts.tail:=h.next hR f (by cases ts <;> simp)
def Says (F:FuncId) (args:Nat→Array Value) (job:Job) (f:Nat):Prop:=
 ∀ (w:World) (rb B d:Nat) (ts:List Tok) (r:Except (Int×Nat) (Tree×List Tok)),Pre w rb B d ts→Z0 f job d ts=some r→Calls Tryz.prog F (args rb) w (Z0t w rb B d r)
def rArg (rb:Nat):Array Value:=#[.pointer (some ⟨rb,0,none⟩)]
theorem Z0t.pre {w w1 w2:World} {rb B d:Nat} {r:Except (Int×Nat) (Tree×List Tok)} {e:Ending} (f:RFr w w1 rb) (h:Z0t w1 rb B d r e w2):Z0t w rb B d r e w2:=by
 rcases r with ⟨c,p⟩ | ⟨t,ts⟩
 ·obtain ⟨⟨b,h1,h2,h3⟩,g⟩:=h;exact ⟨⟨b,h1,Ya f.size h2,h3⟩,f.trans g⟩
 ·obtain ⟨a,h1,h2,h3,h4⟩:=h;exact ⟨a,h1,h2.pre f,h3,f.trans h4⟩
theorem Z0t.err {w w1 w2:World} {rb B d:Nat} {e:Ending} {c:Int} {p:Nat} (f:RFr w w1 rb) (h:Z7g w2 w1.heap.size e c p) (g:Below w1.heap.size w1 w2):Z0t w rb B d (.error (c,p)) e w2:=by
 obtain ⟨b,h1,h2,h3⟩:=h;exact ⟨⟨b,h1,Ya f.size h2,h3⟩,f.trans (RFr.below g)⟩
theorem Z09 {p:PR} {k:Tree→List Tok→PR} {r:Except (Int×Nat) (Tree×List Tok)} (h:Z0g p k=some r):(∃ e,p=some (.error e)∧r=.error e)∨∃ t ts,p=some (.ok (t,ts))∧k t ts=some r:=by
 cases p with
 | none=>simp [Z0g] at h
 | some x =>
   cases x with
   | error e=>exact .inl ⟨e,rfl,by simpa [Z0g] using h.symm⟩
   | ok y=>obtain ⟨t,ts⟩:=y; exact .inr ⟨t,ts,rfl,h⟩
theorem Z29 {s:ByteArray} {ts:List Tok} {k:List Tok→PR} {r:Except (Int×Nat) (Tree×List Tok)} (h:Z1e s ts k=some r):(isT s ts=true∧k ts.tail=some r)∨(isT s ts=false∧r=.error (3,(hdT ts).at')):=by
 unfold Z1e at h;by_cases hs:isT s ts=true;·rw [Yb hs] at h; exact .inl ⟨hs,h⟩
 ·rw [Y9 hs] at h; exact .inr ⟨by simpa using hs,by simpa [Z30] using h.symm⟩
theorem Z3x {ts:List Tok} {k:ByteArray→List Tok→PR} {r:Except (Int×Nat) (Tree×List Tok)} (h:Z3f ts k=some r):((hdT ts).kind=1∧k (hdT ts).text ts.tail=some r)∨((hdT ts).kind≠1∧r=.error (3,(hdT ts).at')):=by
 unfold Z3f at h;by_cases hs:(hdT ts).kind=1;·rw [Yb hs] at h; exact .inl ⟨hs,h⟩
 ·rw [Y9 hs] at h; exact .inr ⟨hs,by simpa [Z30] using h.symm⟩
theorem Got.push {w0 wA w w1 w2:World} {rb B b d g cap:Nat} {v:Value} {k n:Int} {t:ByteArray} {kids:List ATree} {a:ATree} {tn ta:Tree} {ts:List Tok} (hr:rb < B) (hB0:B≤w0.heap.size)
 (N:Got w0 B w (.mk b v k t n kids) tn) (hNA:∀ x∈(ATree.mk b v k t n kids).blocks,x < wA.heap.size) (A:Got wA B w a ta) (F:RFr w0 w rb) (R:Rd w rb ts d)
 (hB1:Below w.heap.size w w1) (hg:w1.grownBy w2 v.ownBlock) (hown:w2.ownsRow B 22 1 (.slice (some ⟨g,0,none⟩) (kids.length + 1) cap) (kids.length + 1) (kids.map ATree.ptr ++ [a.ptr]))
 (hat:v.ownBlock=some g∨w.heap.size≤g) (hgl:g < w2.heap.size) :
 Got w0 B (w2.setCell ⟨b,3,none⟩ (.slice (some ⟨g,0,none⟩) (kids.length + 1) cap)) (.mk b (.slice (some ⟨g,0,none⟩) (kids.length + 1) cap) k t n (kids ++ [a])) (.mk k t n (Zr kids ++ [ta])) ∧
  RFr w0 (w2.setCell ⟨b,3,none⟩ (.slice (some ⟨g,0,none⟩) (kids.length + 1) cap)) rb∧Rd (w2.setCell ⟨b,3,none⟩ (.slice (some ⟨g,0,none⟩) (kids.length + 1) cap)) rb ts d:=by
 have hnd:=N.nodup;simp only [ATree.blocks,List.nodup_cons,List.mem_append,List.nodup_append,Option.mem_toList,not_or] at hnd;obtain ⟨⟨hb1,hb2⟩,_,hk1,hk2⟩:=hnd;have hbw:b < w.heap.size:=N.at'.lt;have hb0:w0.heap.size≤b:=(N.new b (by simp [ATree.blocks])).1;have hv0:∀ x,v.ownBlock=some x→w0.heap.size≤x∧x < wA.heap.size∧x < w.heap.size:=fun x hx=>
  ⟨(N.new x (by simp [ATree.blocks,hx])).1,hNA x (by simp [ATree.blocks,hx]),(N.new x (by simp [ATree.blocks,hx])).2⟩
 have hbA:b < wA.heap.size:=hNA b (by simp [ATree.blocks]);have hs1:w.heap.size≤w2.heap.size:=Ya hB1.size hg.size;have hsz:(w2.setCell ⟨b,3,none⟩ (.slice (some ⟨g,0,none⟩) (kids.length + 1) cap)).heap.size=w2.heap.size:=Yn ..;have far2:∀ x,x < w.heap.size→v.ownBlock≠some x→w2.heap[x]?=w.heap[x]?:=fun x hx hn=>(hg.block x (Ye hx hB1.size) (fun e=>hn e.symm)).trans (hB1.block x hx)
 have far:∀ x,x < w.heap.size→x≠b→v.ownBlock≠some x→(w2.setCell ⟨b,3,none⟩ (.slice (some ⟨g,0,none⟩) (kids.length + 1) cap)).heap[x]?=w.heap[x]?:=fun x hx hxb hn=>(Yg _ _ _ _ hxb).trans (far2 x hx hn);have hgb:g≠b:=by
  rcases hat with h | h;·rintro rfl; exact hb1 h
  ·omega
 have hgA:∀ x∈a.blocks,g≠x:=fun x hx=>by
  have h1:=A.new x hx;rcases hat with h | h;·have:=hv0 g h; omega
  ·omega
 have hgk:∀ x∈Z0f kids,g≠x:=fun x hx=>by
  rcases hat with h | h;·exact hk2 g h x hx
  ·have:=(N.new x (by simp [ATree.blocks,hx])).2; omega
 have hg0:w0.heap.size≤g:=by
  rcases hat with h | h;·exact (hv0 g h).1
  ·have:=F.size; omega
 refine ⟨⟨?_,?_,?_,?_⟩,⟨?_,?_,?_,?_,?_⟩,?_⟩
 ·simp only [ATree.tree,Z2j,Zr];rw [A.tree]
 ·refine .mk ?_ N.at'.le ?_ fun x hx => ?_
  ·have h1:=(far2 b hbw hb1).trans N.at'.blkOf;exact Z07 (o:=3) _ h1
  ·rw [Yq,Yu];exact Zq hown fun g' hg'=>Yg _ _ _ _ (by simp only [Value.ownBlock,Option.some.injEq] at hg'; rw [← hg']; exact hgb)
  ·rcases List.mem_append.1 hx with hx | hx
   ·have hT := N.at'.kid (k := x) hx;refine hT.keepB fun y hy => ?_;have hyk : y ∈ Z0f kids := by rw [Z1k]; exact List.mem_flatMap.2 ⟨x, hx, hy⟩
    exact far y (hT.has y hy).2 (fun e=>hb2 (by rw [← e]; exact hyk)) (fun e=>hk2 y e y hyk rfl)
   ·simp only [List.mem_singleton] at hx;subst hx;refine A.at'.keepB fun y hy=>?_;have h1:=A.new y hy;exact far y h1.2 (by omega) (fun e=>by have:=hv0 y e; omega)
 ·simp only [ATree.blocks, Value.ownBlock, Z20, Z0f, List.append_nil, List.nodup_cons, List.mem_append, List.nodup_append, Option.toList, List.mem_cons, List.not_mem_nil, or_false, not_or, List.nodup_nil, not_false_eq_true, true_and];refine ⟨⟨fun e => hgb e.symm, hb2, fun hm => by have := A.new b hm; omega⟩, ⟨hk1, A.nodup, fun x hx y hy e => by have h1 := hNA x (by simp [ATree.blocks, hx]); have h2 := A.new y hy; omega⟩, ?_⟩;rintro x rfl y hy;rcases hy with hy | hy;·exact hgk y hy
  ·exact hgA y hy
 ·intro x hx;rw [hsz];simp only [ATree.blocks, Value.ownBlock, Z20, Z0f, List.append_nil, List.mem_cons, List.mem_append, Option.toList, List.not_mem_nil, or_false] at hx;rcases hx with rfl | rfl | hx | hx;·exact ⟨hb0, by omega⟩
  ·exact ⟨hg0,hgl⟩
  ·have:=N.new x (by simp [ATree.blocks,hx]); omega
  ·have:=A.new x hx; omega
 ·exact (hg.os.trans hB1.os).trans F.os
 ·exact (hg.tape.trans hB1.tape).trans F.tape
 ·exact (hg.output.trans hB1.output).trans F.output
 ·rw [hsz]; have:=F.size; omega
 ·intro x hx hn;have:=F.size;exact (far x (by omega) (by omega) (fun e=>by have:=hv0 x e; omega)).trans (F.block x hx hn)
 ·have:=F.size;exact R.keep (by rw [hsz]; exact hs1) fun x hx=>far x (by have:=R.rlt; omega) (by omega) (fun e=>by have:=hv0 x e; omega)
theorem Got.text {w0 w:World} {rb B b d:Nat} {v:Value} {k n:Int} {t t':ByteArray} {kids:List ATree} {l:List Tree} {ts:List Tok} (hr:rb < B) (hB0:B≤w0.heap.size)
 (N:Got w0 B w (.mk b v k t n kids) (.mk k t n l)) (F:RFr w0 w rb) (R:Rd w rb ts d) :
 Got w0 B (w.setCell ⟨b,1,none⟩ (.string t')) (.mk b v k t' n kids) (.mk k t' n l)∧RFr w0 (w.setCell ⟨b,1,none⟩ (.string t')) rb∧Rd (w.setCell ⟨b,1,none⟩ (.string t')) rb ts d:=by
 have hnd:=N.nodup;simp only [ATree.blocks,List.nodup_cons,List.mem_append,Option.mem_toList,not_or] at hnd;obtain ⟨⟨hb1,hb2⟩,_⟩:=hnd;have hb0:w0.heap.size≤b:=(N.new b (by simp [ATree.blocks])).1;have hsz:(w.setCell ⟨b,1,none⟩ (.string t')).heap.size=w.heap.size:=Yn ..;have far:∀ x,x≠b→(w.setCell ⟨b,1,none⟩ (.string t')).heap[x]?=w.heap[x]?:=fun x hx=>Yg _ _ _ _ hx
 refine ⟨⟨?_,?_,N.nodup,?_⟩,⟨F.os,F.tape,F.output,by rw [hsz]; exact F.size,fun x hx hn=>(far x (by omega)).trans (F.block x hx hn)⟩,R.keep (by omega) fun x hx=>far x (by omega)⟩
 ·have:=N.tree;simp only [ATree.tree,Tree.mk.injEq,true_and] at this ⊢;exact this
 ·refine .mk (Z07 (o:=1) _ N.at'.blkOf) N.at'.le (Zq N.at'.rowOf fun g hg=>far g (fun e=>hb1 (by rw [← e]; exact hg))) fun x hx=>?_;have hT:=N.at'.kid (k:=x) hx;refine hT.keepB fun y hy=>far y fun e=>hb2 ?_;rw [Z1k,← e];exact List.mem_flatMap.2 ⟨x,hx,hy⟩
 ·intro x hx; rw [hsz]; exact N.new x hx
theorem Got.leaf {w0 w:World} {rb B:Nat} {k:Int} {t:ByteArray} {n:Int} (hB0:B≤w0.heap.size) (F:RFr w0 w rb) :
 Got w0 B (w.alloc (.cells #[.int .i64 k,.string t,.int .i64 n,.slice none 0 0] 38)) (.mk w.heap.size (.slice none 0 0) k t n []) (.mk k t n []):=by
 have hs:=F.size;exact ⟨rfl,TreeAt.new (Ya hB0 hs) (World.ownsRow_nil _ _ _ _) (fun a ha=>by cases ha),by simp [ATree.blocks,Value.ownBlock,Z0f],fun x hx=>by
  simp only [ATree.blocks,Value.ownBlock,Option.toList,Z0f,List.append_nil,List.mem_cons,List.not_mem_nil,or_false] at hx;subst hx;exact ⟨hs,by simp⟩⟩
theorem Zcp {w:World} {B:Nat} {l:List ATree} (hB:B≤w.heap.size) (hl:l.length≤1000) :
 (w.alloc (.cells (l.map ATree.ptr).toArray 22)).ownsRow B 22 1 (.slice (some ⟨w.heap.size,0,none⟩) l.length l.length) l.length (l.map ATree.ptr):=by
 refine ⟨by simp,.inr ⟨w.heap.size,l.length,(l.map ATree.ptr).toArray,rfl,hB,heap_alloc_new w _,Y5 _,by unfold maxLen; omega,by simp,?_⟩⟩;simp only [Nat.mul_one];exact Ym (by simp)
theorem Got.made {w0 w:World} {rb B:Nat} {k:Int} {t:ByteArray} {kids:List ATree} {ks:List Tree} (hB0:B≤w0.heap.size) (F:RFr w0 w rb) (hl:kids.length≤1000) (ht:Zr kids=ks)
 (hT:∀ a∈kids,TreeAt w B a) (hn:(Z0f kids).Nodup) (hb:∀ x∈Z0f kids,w0.heap.size≤x∧x < w.heap.size) :
 Got w0 B ((w.alloc (.cells (kids.map ATree.ptr).toArray 22)).alloc (.cells #[.int .i64 k,.string t,.int .i64 0,.slice (some ⟨w.heap.size,0,none⟩) kids.length kids.length] 38))
  (.mk (w.heap.size + 1) (.slice (some ⟨w.heap.size,0,none⟩) kids.length kids.length) k t 0 kids) (.mk k t 0 ks):=by
 have hs:=F.size;have hal:Below w.heap.size w (w.alloc (.cells (kids.map ATree.ptr).toArray 22)):=(Y8 _ _).alloc (Y5 _) _;have hz:(w.alloc (.cells (kids.map ATree.ptr).toArray 22)).heap.size=w.heap.size + 1:=by simp
 refine ⟨by simp [ATree.tree,ht],?_,?_,?_⟩
 ·rw [← hz];exact TreeAt.new (by rw [hz]; omega) (Zcp (by omega) hl) fun a ha=>(hT a ha).bel hal
 ·simp only [ATree.blocks,Value.ownBlock,Option.toList,List.nodup_cons,List.mem_append,List.nodup_append,List.mem_cons,List.not_mem_nil,or_false,not_or,List.nodup_nil,not_false_eq_true,true_and];refine ⟨⟨by omega,fun hm=>by have:=hb _ hm; omega⟩,hn,?_⟩;rintro x rfl y hy rfl;have:=hb _ hy;omega
 ·intro x hx;simp only [ATree.blocks, Value.ownBlock, Option.toList, List.mem_cons, List.mem_append, List.not_mem_nil, or_false] at hx;simp only [World.size_alloc];rcases hx with rfl | rfl | hx;·omega
  ·omega
  ·have:=hb x hx; omega
theorem Got.two {w0 w wA:World} {rb B:Nat} {k:Int} {t:ByteArray} {a c:ATree} {ta tc:Tree} (hB0:B≤w0.heap.size) (F:RFr w0 w rb) (A:Got w0 B w a ta) (hA:∀ x∈a.blocks,x < wA.heap.size) (hwA:w0.heap.size≤wA.heap.size) (C:Got wA B w c tc) :
 Got w0 B ((w.alloc (.cells #[a.ptr,c.ptr] 22)).alloc (.cells #[.int .i64 k,.string t,.int .i64 0,.slice (some ⟨w.heap.size,0,none⟩) 2 2] 38))
  (.mk (w.heap.size + 1) (.slice (some ⟨w.heap.size,0,none⟩) 2 2) k t 0 [a,c]) (.mk k t 0 [ta,tc]):=by
 refine Got.made (kids:=[a,c]) (rb:=rb) hB0 F (by simp) (by simp [Zr,A.tree,C.tree]) (fun x hx=>?_) ?_ ?_
 ·simp only [List.mem_cons, List.not_mem_nil, or_false] at hx;rcases hx with rfl | rfl;·exact A.at'
  ·exact C.at'
 ·simp only [Z0f,List.append_nil,List.nodup_append];exact ⟨A.nodup,C.nodup,fun x hx y hy e=>by have h1:=hA x hx; have h2:=C.new y hy; omega⟩
 ·intro x hx;simp only [Z0f, List.append_nil, List.mem_append] at hx;rcases hx with hx | hx;·exact A.new x hx
  ·have:=C.new x hx; omega
theorem Got.one {w0 w:World} {rb B:Nat} {k:Int} {t:ByteArray} {a:ATree} {ta:Tree} (hB0:B≤w0.heap.size) (F:RFr w0 w rb) (A:Got w0 B w a ta) :
 Got w0 B ((w.alloc (.cells #[a.ptr] 22)).alloc (.cells #[.int .i64 k,.string t,.int .i64 0,.slice (some ⟨w.heap.size,0,none⟩) 1 1] 38))
  (.mk (w.heap.size + 1) (.slice (some ⟨w.heap.size,0,none⟩) 1 1) k t 0 [a]) (.mk k t 0 [ta]):=by
 refine Got.made (kids:=[a]) (rb:=rb) hB0 F (by simp) (by simp [Zr,A.tree]) (fun x hx=>?_) ?_ ?_
 ·simp only [List.mem_cons,List.not_mem_nil,or_false] at hx;rw [hx]; exact A.at'
 ·simpa [Z0f] using A.nodup
 ·intro x hx;exact A.new x (by simpa [Z0f] using hx)
mutual
def Zcj {σ:Type} (g:σ→ATree→Bool×σ):ATree→σ→σ
 | .mk b v k t n l,s=>if (g s (.mk b v k t n l)).1 then Z82 g l (g s (.mk b v k t n l)).2 else (g s (.mk b v k t n l)).2
def Z82 {σ:Type} (g:σ→ATree→Bool×σ):List ATree→σ→σ
 | [],s=>s
 | a :: l,s=>Z82 g l (Zcj g a s)
end
mutual
def ATree.subs:ATree→List ATree
 | .mk b v k t n l=>.mk b v k t n l :: Z48 l
def Z48:List ATree→List ATree
 | []=>[]
 | a :: l=>a.subs ++ Z48 l
end
mutual
def ATree.many:ATree→Nat
 | .mk _ _ _ _ _ l=>Z4b l + 1
def Z4b:List ATree→Nat
 | []=>0
 | a :: l=>a.many + Z4b l
end
theorem Zik {σ:Type} (g:σ→ATree→Bool×σ) (a:ATree) (s:σ):Zcj g a s=if (g s a).1 then Z82 g a.kids (g s a).2 else (g s a).2:=by
 cases a; simp only [Zcj,ATree.kids]
theorem Zeu {σ:Type} (g:σ→ATree→Bool×σ) (l:List ATree) (a:ATree) (s:σ):Z82 g (l ++ [a]) s=Zcj g a (Z82 g l s):=by
 induction l generalizing s with
 | nil=>simp [Z82]
 | cons x l ih=>simp only [List.cons_append,Z82,ih]
theorem Zam {a k:ATree} (h:k∈a.kids):k.many < a.many:=by
 have key:∀ l:List ATree,k∈l→k.many≤Z4b l:=by
  intro l;induction l with
  | nil=>intro h; cases h
  | cons x l ih =>
    intro h;simp only [Z4b];rcases List.mem_cons.1 h with rfl | h;·omega
    ·have:=ih h; omega
 obtain ⟨b,v,kk,t,n,l⟩:=a;have:=key l h;simp only [ATree.many];omega
theorem Zb4 (a:ATree):a∈a.subs:=by cases a; simp [ATree.subs]
theorem Zdn {a k x:ATree} (h:k∈a.kids) (hx:x∈k.subs):x∈a.subs:=by
 have key:∀ l:List ATree,k∈l→x∈Z48 l:=by
  intro l;induction l with
  | nil=>intro h; cases h
  | cons y l ih =>
    intro h;simp only [Z48,List.mem_append];rcases List.mem_cons.1 h with rfl | h;·exact .inl hx
    ·exact .inr (ih h)
 obtain ⟨b,v,kk,t,n,l⟩:=a;simp only [ATree.subs,List.mem_cons];exact .inr (key l h)
mutual
theorem Z7l:∀ a:ATree,a.tree.many=a.many
 | .mk _ _ _ _ _ l=>by simp only [ATree.tree,Tree.many,ATree.many]; rw [Za9 l]
theorem Za9:∀ l:List ATree,Zv (Zr l)=Z4b l
 | []=>rfl
 | a :: l=>by simp only [Zr,Zv,Z4b]; rw [Z7l a,Za9 l]
end
theorem Z7b {l:List ATree} {k:Nat} {x:ATree} (h:l[k]?=some x):l.take (k + 1)=l.take k ++ [x]:=by
 rw [List.take_add_one,h]; rfl
inductive Reach {σ:Type} (g:σ→ATree→Bool×σ):ATree→σ→ATree→σ→Prop
 | self (a:ATree) (s:σ):Reach g a s a s
 | kid {a k x:ATree} {s s':σ} {i:Nat} (ok:(g s a).1=true) (hk:a.kids[i]?=some k) (h:Reach g k (Z82 g (a.kids.take i) (g s a).2) x s'):Reach g a s x s'
theorem Reach.sub {σ:Type} {g:σ→ATree→Bool×σ} {a x:ATree} {s s':σ} (h:Reach g a s x s'):x∈a.subs:=by
 induction h with
 | self a s=>exact Zb4 a
 | kid ok hk h ih=>exact Zdn (Yl hk) ih
end Go.Proofs.YtmeiggjboakmpaaGreatDoor
namespace Go.Proofs.YtmeiggjboakmpaaGreatDoor
open Go Go.RowKit Go.Maps
set_option maxRecDepth 100000
set_option maxHeartbeats 20000000
set_option linter.unusedVariables false
theorem Z9 {H:Type} {P:Program} (w:World) {ops:Array Oper} {rest:List Oper} {o:Oper} {a:Act} {Q:Exit→Act→World→Prop}
 (hg:o.guard=none) (m x v:Operand) (t:TypeId) (hop:o.op=Op.insert t m x v)
 (k e:TypeId) (K:Keyed P k) (ht:P.underlying t=some (.map k e)) (R:Value→Option (DataW H×List MemPlace)) (b n:Nat) (D:DataW H)
 (hm:a.eval m=.map (some b)) (hown:w.ownsMap P k R b n D) (hn:n < maxLen) (key val:Value) (kl:Lit) (hx:a.eval x=key) (hv:a.eval v=val) (hkey:keyOf P k key=some kl)
 (d:DataW H) (ps:List MemPlace) (hval:R val=some (d,ps))
 (hK:∀ w',w'.ownsMap P k R b (n + 1) (D.put kl d)→w.grownBy w' (some b)→wpList P ops Q rest (a.put o.dst undef) w') :
 wpList P ops Q (o :: rest) a w:=by
 refine wpList_plain hg fun K' hK'=>?_;obtain ⟨w',hrun,r1,r2⟩:=hown.update K ht hn hkey hval;unfold Oper.wp;simp [execOp,hop,hm,hx,hv,hrun,Result.andThen];exact hK' _ _ (hK w' r1 r2)
theorem Tryz.keyedS:Keyed Tryz.prog 9:=string_keyed Yr
theorem Tryz.zeroI (w:World):(zeroValue 3).run Tryz.prog w=.ok (.int .i64 0) w:=by kernel_rfl
theorem Z00 {B:Nat} {w w1 w2:World} {b:Nat} (h:Below B w w1) (hg:w1.grownBy w2 (some b)) (hb:B≤b) (hs:B≤w1.heap.size):Below B w w2:=
 h.grown hg hs fun j hj=>by cases hj; exact hb
def litD (l:List (ByteArray×Int)):DataW Unit:=l.foldl (fun D x=>D.put (.string x.1.data.toList) (.lit (.int .i64 x.2))) (.map [])
def Zk1:List (ByteArray×Int):=[(s_or,25),(Z5n,26),(Z3j,27),(Z4i,28),(Z51,29),(Z5p,30),(Z6n,31)]
end Go.Proofs.YtmeiggjboakmpaaGreatDoor
namespace Go.Proofs.YtmeiggjboakmpaaGreatDoor
open Go Go.RowKit
set_option maxRecDepth 100000
set_option maxHeartbeats 20000000
set_option linter.unusedVariables false
def Z6c (w:World) (B:Nat) (v:Value) (l:List ByteArray):Prop:=w.ownsRow B 9 1 v l.length (l.map Value.string)
def addL (l:List ByteArray) (s:ByteArray):List ByteArray:=if Lib.containsS l s then l else l ++ [s]
theorem Z6c.nil (w:World) (B:Nat):Z6c w B (.slice none 0 0) []:=World.ownsRow_nil w B _ _
theorem Z6c.cells {w:World} {B:Nat} {v:Value} {l:List ByteArray} (h:Z6c w B v l) {b:Nat} (hb:v.ownBlock=some b) {j:Nat} {s:ByteArray} (hs:l[j]?=some s):w.cell? ⟨b,j,none⟩=some (.string s):=
 Z17 h hb (by rw [Yo,hs]; rfl)
theorem Z6c.bel {w w':World} {B:Nat} {v:Value} {l:List ByteArray} (h:Z6c w B v l) (g:Below w.heap.size w w'):Z6c w' B v l:=
 Zq h fun k hk=>g.block k (Yh h k hk).2
theorem Z6c.form {w:World} {B:Nat} {v:Value} {l:List ByteArray} (h:Z6c w B v l):(v=.slice none 0 0∧l=[])∨∃ g cap,v=.slice (some ⟨g,0,none⟩) l.length cap∧l.length≤cap∧cap≤maxLen:=by
 rcases Zp h with ⟨h1,h2⟩ | ⟨g,cap,h1,h2,h3,_⟩;·exact .inl ⟨h1,List.eq_nil_of_length_eq_zero h2⟩
 ·exact .inr ⟨g,cap,h1,h2,h3⟩
theorem Za2 {w:World} {base:Nat} {c p:Int} (hb:base≤w.heap.size) :
 Z7g (w.alloc (.cells #[.int .i64 c,.int .i64 p] 89)) base (.panicked [{ v:=.iface 57 (.agg #[.iface 88 (.pointer (some ⟨w.heap.size,0,none⟩))]),recovered:=false }]) c p:=
 ⟨w.heap.size,rfl,hb,heap_alloc_new w _⟩
theorem Z7g.base {w:World} {b b':Nat} {e:Ending} {c p:Int} (h:Z7g w b e c p) (hb:b'≤b):Z7g w b' e c p:=by
 obtain ⟨x,h1,h2,h3⟩:=h;exact ⟨x,h1,Ya hb h2,h3⟩
theorem Z35 (w:World) (rb:Nat) (ts:List Tok) (d:Nat) (c:Int) (hR:Rd w rb ts d) :
 Calls Tryz.prog 72 #[.pointer (some ⟨rb,0,none⟩),.int .i64 c] w fun e w'=>Z7g w' w.heap.size e c (hdT ts).at'∧Below w.heap.size w w':=by
 obtain ⟨tb,off,cap,h⟩:=hR;have c0:=h.c0;have t3:=h.hd (j:=3) rfl;have hp:=h.pos;have hm:=h.most;have hle:=h.le;unfold maxLen at hm;obtain ⟨n,hn⟩:=zX ts.length
 rw [← hn] at c0 hp hle;have hlt:=h.lt;have hrt:=h.rlt;clear hn h;go_enter Tryz.func72,Tryz.ntmps72
 go_wp2;exact ⟨rfl,Za2 (Y5 _),(Y8 _ _).alloc (Y5 _) _⟩
theorem Z3k (w:World) (rb:Nat) (ts:List Tok) (d:Nat) (s:ByteArray) (hR:Rd w rb ts d) (hs:isT s ts=false) :
 Calls Tryz.prog 100 #[.pointer (some ⟨rb,0,none⟩),.string s] w fun e w'=>Z7g w' w.heap.size e 3 (hdT ts).at'∧Below w.heap.size w w':=by
 have HC:=lh (Z22 w rb ts d s hR hs);have HR:=lh hR;clear hs hR;go_enter Tryz.func100,Tryz.ntmps100
 go_wp2_with fail
 refine HC.out.mono ?_;rintro e w1 ⟨rfl,hB⟩;have HF:=lh (Z35 w1 rb ts d 3 (HR.out.below hB));have HB:=lh hB;clear hB;go_wp2_with fail
 refine HF.out.mono ?_;rintro e w2 ⟨⟨b,rfl,h1,h2⟩,hB⟩;exact ⟨rfl,⟨b,rfl,Ya HB.out.size h1,h2⟩,HB.out.trans (hB.mono HB.out.size)⟩
theorem Z2b (w:World) (rb:Nat) (ts:List Tok) (d:Nat) (s:ByteArray) (hR:Rd w rb ts d) (hs:isT s ts=true) :
 Calls Tryz.prog 100 #[.pointer (some ⟨rb,0,none⟩),.string s] w fun e w'=>e=.returned (.tuple #[])∧Rd w' rb ts.tail d∧RFr w w' rb:=by
 have HC:=lh (Z1g w rb ts d s hR hs);clear hs hR;go_enter Tryz.func100,Tryz.ntmps100
 go_wp2_with fail
 refine HC.out.mono ?_;rintro e w1 ⟨rfl,hR,hF⟩;have HR:=lh hR;have HF:=lh hF;clear hR hF;go_wp2;go_end0
 exact ⟨rfl,HR.out,HF.out⟩
theorem Z61 (w:World) (rb:Nat) (ts:List Tok) (d:Nat) (hR:Rd w rb ts d) (hk:(hdT ts).kind≠1) :
 Calls Tryz.prog 78 #[.pointer (some ⟨rb,0,none⟩)] w fun e w'=>Z7g w' w.heap.size e 3 (hdT ts).at'∧Below w.heap.size w w':=by
 have HR:=lh hR;obtain ⟨tb,off,cap,h⟩:=hR;have c0:=h.c0;have t0:=h.hd (j:=0) rfl;have t1:=h.hd (j:=1) rfl;have t2:=h.hd (j:=2) rfl;have t3:=h.hd (j:=3) rfl;have hp:=h.pos;have hm:=h.most;have hle:=h.le;unfold maxLen at hm;obtain ⟨n,hn⟩:=zX ts.length
 rw [← hn] at c0 hp hle;have hlt:=h.lt;have hrt:=h.rlt;have hk1:((hdT ts).kind == 1)=false:=by simpa using hk
 have hal:Below w.heap.size w (w.alloc (.cells #[.int .i64 (hdT ts).kind,.string (hdT ts).text,.int .i64 (hdT ts).n,.int .i64 (hdT ts).at'] 87)):=(Y8 _ _).alloc (Y5 _) _;have HF:=lh (Z35 _ rb ts d 3 (HR.out.below hal));have HAL:=lh hal;simp only [Nat.add_zero] at t0;clear hn h hk hal;go_enter Tryz.func78,Tryz.ntmps78
 go_wp2_with fail
 refine HF.out.mono ?_;rintro e w2 ⟨⟨b,rfl,h1,h2⟩,hB⟩;exact ⟨rfl,⟨b,rfl,Ya HAL.out.size h1,h2⟩,HAL.out.trans (hB.mono HAL.out.size)⟩
theorem Z44 (w:World) (rb:Nat) (ts:List Tok) (d:Nat) (hR:Rd w rb ts d) (hk:(hdT ts).kind=1) :
 Calls Tryz.prog 78 #[.pointer (some ⟨rb,0,none⟩)] w fun e w'=>e=.returned (.string (hdT ts).text)∧Rd w' rb ts.tail d∧RFr w w' rb:=by
 obtain ⟨tb,off,cap,h⟩:=hR;have c0:=h.c0;have t0:=h.hd (j:=0) rfl;have t1:=h.hd (j:=1) rfl;have t2:=h.hd (j:=2) rfl;have t3:=h.hd (j:=3) rfl;have h2:=h.two (by omega);have hm:=h.most;have hle:=h.le;have z0:=h.fz 0;unfold maxLen at hm;have H:=lh (h.tail (by omega));obtain ⟨n,hn⟩:=zX ts.length
 rw [← hn] at c0 h2 hle;have HN:=lh hn;have hlt:=h.lt;have hrt:=h.rlt;have HK:=lh hk;simp only [Nat.add_zero,hk] at t0;clear hn h hk;go_enter Tryz.func78,Tryz.ntmps78
 go_wp2;go_ret;have h4:=H.out;rw [← HN.out] at h4;have hb:∀ o,Below (w.setCell ⟨rb,0,none⟩ (.slice (some ⟨tb,off + 4,none⟩) (n - 1) (cap - 1))).heap.size (w.setCell ⟨rb,0,none⟩ (.slice (some ⟨tb,off + 4,none⟩) (n - 1) (cap - 1))) ((w.setCell ⟨rb,0,none⟩ (.slice (some ⟨tb,off + 4,none⟩) (n - 1) (cap - 1))).alloc o):=fun o=>(Y8 _ _).alloc (Y5 _) o;exact ⟨rfl,⟨tb,off + 4,cap - 1,h4.below (hb _)⟩,((RFr.refl w rb).set _ _).trans (RFr.below (hb _))⟩
theorem Z14 (w:World) (rb:Nat) (kind:Int) (text:ByteArray) (p:Option Addr) (m c:Nat) :
 Calls Tryz.prog 50 #[.pointer (some ⟨rb,0,none⟩),.int .i64 kind,.string text,.slice p m c] w fun e w'=>e=.returned (.pointer (some ⟨w.heap.size,0,none⟩))∧w'=w.alloc (.cells #[.int .i64 kind,.string text,.int .i64 0,.slice p m c] 38):=by
 go_enter Tryz.func50,Tryz.ntmps50
 go_wp2;go_ret;exact ⟨rfl,rfl⟩
theorem Z10 (w:World) (rb B:Nat) (ts:List Tok) (d:Nat) (p:PR) (r:Except (Int×Nat) (Tree×List Tok)) (hR:Rd w rb ts d) (hd:d < 1000) (hB:rb < B) (hr:Z1a d ts p=some r)
 (HC:d + 1≤30→p=some r→∀ w1,Rd w1 rb ts (d + 1)→w1.heap.size=w.heap.size→Calls Tryz.prog 53 #[.pointer (some ⟨rb,0,none⟩)] w1 (Z0t w1 rb B (d + 1) r)) :
 Calls Tryz.prog 52 #[.pointer (some ⟨rb,0,none⟩),.func (.func 53) #[.pointer (some ⟨rb,0,none⟩)] #[]] w (Z0t w rb B d r):=by
 obtain ⟨tb,off,cap,h⟩:=hR;have c1:=h.c1;have z1:=h.fz 1;have hrt:=h.rlt;have hS:Rd (w.setCell ⟨rb,1,none⟩ (.int .i64 ((d:Int) + 1))) rb ts (d + 1):=⟨tb,off,cap,h.deep (by omega)⟩
 have HS:=lh hS;have HH:=lh h;have HC:=lh HC;clear h hS;unfold Z1a at hr;by_cases hd30:30 < d + 1
 ·rw [Yb hd30] at hr;obtain rfl := Yk hr;have hd' : decide ((d : Int) + 1 > 30) = true := by simp; omega
  have HF:=lh (Z35 _ rb ts (d + 1) 4 HS.out);clear hr;go_enter Tryz.func52,Tryz.ntmps52
  go_wp2_with fail
  refine HF.out.mono ?_;rintro e w2 ⟨⟨b,rfl,h1,h2⟩,hB⟩;rw [Yn] at h1;refine ⟨rfl,⟨b,rfl,h1,h2⟩,?_⟩;exact ((RFr.refl w rb).set 1 _).trans (RFr.below hB)
 ·rw [Y9 hd30] at hr;have hsz : (w.setCell ⟨rb, 1, none⟩ (.int .i64 ((d : Int) + 1))).heap.size = w.heap.size := Yn ..;have HX := lh (HC.out (by omega) hr _ HS.out hsz);have HSZ := lh hsz;clear hsz hr;go_enter Tryz.func52, Tryz.ntmps52
  go_wp2_with fail
  refine HX.out.mono ?_;rcases r with ⟨c,p⟩ | ⟨t,ts'⟩
  ·rintro e w2 ⟨⟨b,rfl,h1,h2⟩,hF⟩;rw [HSZ.out] at h1;exact ⟨rfl,⟨b,rfl,h1,h2⟩,((RFr.refl w rb).set 1 _).trans hF⟩
  ·rintro e w2 ⟨a,rfl,hG,⟨tb2,off2,cap2,h2⟩,hF⟩;have k1:=h2.c1;have kz:=h2.fz 1;have H2:=lh h2;have HG:=lh hG;have HF:=lh hF;clear hG h2 hF;go_wp2;go_ret;exact ⟨a,rfl,(HG.out.rfr hB ((RFr.refl w2 rb).set _ _)).pre ((RFr.refl w rb).set 1 _),⟨tb2,off2,cap2,H2.out.deep (by omega)⟩,(((RFr.refl w rb).set 1 _).trans HF.out).set 1 _⟩
theorem Zah (w:World) (rb B:Nat) (ts:List Tok) (d:Nat) (p:PR) (r:Except (Int×Nat) (Tree×List Tok)) (hR:Rd w rb ts d) (hd:d < 1000) (hB:rb < B) (hr:Z1a d ts p=some r)
 (HC:d + 1≤30→p=some r→∀ w1,Rd w1 rb ts (d + 1)→w1.heap.size=w.heap.size→Calls Tryz.prog 101 #[.pointer (some ⟨rb,0,none⟩)] w1 (Z0t w1 rb B (d + 1) r)) :
 Calls Tryz.prog 52 #[.pointer (some ⟨rb,0,none⟩),.func (.func 101) #[.pointer (some ⟨rb,0,none⟩)] #[]] w (Z0t w rb B d r):=by
 obtain ⟨tb,off,cap,h⟩:=hR;have c1:=h.c1;have z1:=h.fz 1;have hrt:=h.rlt;have hS:Rd (w.setCell ⟨rb,1,none⟩ (.int .i64 ((d:Int) + 1))) rb ts (d + 1):=⟨tb,off,cap,h.deep (by omega)⟩
 have HS:=lh hS;have HH:=lh h;have HC:=lh HC;clear h hS;unfold Z1a at hr;by_cases hd30:30 < d + 1
 ·rw [Yb hd30] at hr;obtain rfl := Yk hr;have hd' : decide ((d : Int) + 1 > 30) = true := by simp; omega
  have HF:=lh (Z35 _ rb ts (d + 1) 4 HS.out);clear hr;go_enter Tryz.func52,Tryz.ntmps52
  go_wp2_with fail
  refine HF.out.mono ?_;rintro e w2 ⟨⟨b,rfl,h1,h2⟩,hB⟩;rw [Yn] at h1;refine ⟨rfl,⟨b,rfl,h1,h2⟩,?_⟩;exact ((RFr.refl w rb).set 1 _).trans (RFr.below hB)
 ·rw [Y9 hd30] at hr;have hsz : (w.setCell ⟨rb, 1, none⟩ (.int .i64 ((d : Int) + 1))).heap.size = w.heap.size := Yn ..;have HX := lh (HC.out (by omega) hr _ HS.out hsz);have HSZ := lh hsz;clear hsz hr;go_enter Tryz.func52, Tryz.ntmps52
  go_wp2_with fail
  refine HX.out.mono ?_;rcases r with ⟨c,p⟩ | ⟨t,ts'⟩
  ·rintro e w2 ⟨⟨b,rfl,h1,h2⟩,hF⟩;rw [HSZ.out] at h1;exact ⟨rfl,⟨b,rfl,h1,h2⟩,((RFr.refl w rb).set 1 _).trans hF⟩
  ·rintro e w2 ⟨a,rfl,hG,⟨tb2,off2,cap2,h2⟩,hF⟩;have k1:=h2.c1;have kz:=h2.fz 1;have H2:=lh h2;have HG:=lh hG;have HF:=lh hF;clear hG h2 hF;go_wp2;go_ret;exact ⟨a,rfl,(HG.out.rfr hB ((RFr.refl w2 rb).set _ _)).pre ((RFr.refl w rb).set 1 _),⟨tb2,off2,cap2,H2.out.deep (by omega)⟩,(((RFr.refl w rb).set 1 _).trans HF.out).set 1 _⟩
theorem Zb9 (w:World) (rb B:Nat) (ts:List Tok) (d:Nat) (p:PR) (r:Except (Int×Nat) (Tree×List Tok)) (hR:Rd w rb ts d) (hd:d < 1000) (hB:rb < B) (hr:Z1a d ts p=some r)
 (HC:d + 1≤30→p=some r→∀ w1,Rd w1 rb ts (d + 1)→w1.heap.size=w.heap.size→Calls Tryz.prog 126 #[.pointer (some ⟨rb,0,none⟩)] w1 (Z0t w1 rb B (d + 1) r)) :
 Calls Tryz.prog 52 #[.pointer (some ⟨rb,0,none⟩),.func (.func 126) #[.pointer (some ⟨rb,0,none⟩)] #[]] w (Z0t w rb B d r):=by
 obtain ⟨tb,off,cap,h⟩:=hR;have c1:=h.c1;have z1:=h.fz 1;have hrt:=h.rlt;have hS:Rd (w.setCell ⟨rb,1,none⟩ (.int .i64 ((d:Int) + 1))) rb ts (d + 1):=⟨tb,off,cap,h.deep (by omega)⟩
 have HS:=lh hS;have HH:=lh h;have HC:=lh HC;clear h hS;unfold Z1a at hr;by_cases hd30:30 < d + 1
 ·rw [Yb hd30] at hr;obtain rfl := Yk hr;have hd' : decide ((d : Int) + 1 > 30) = true := by simp; omega
  have HF:=lh (Z35 _ rb ts (d + 1) 4 HS.out);clear hr;go_enter Tryz.func52,Tryz.ntmps52
  go_wp2_with fail
  refine HF.out.mono ?_;rintro e w2 ⟨⟨b,rfl,h1,h2⟩,hB⟩;rw [Yn] at h1;refine ⟨rfl,⟨b,rfl,h1,h2⟩,?_⟩;exact ((RFr.refl w rb).set 1 _).trans (RFr.below hB)
 ·rw [Y9 hd30] at hr;have hsz : (w.setCell ⟨rb, 1, none⟩ (.int .i64 ((d : Int) + 1))).heap.size = w.heap.size := Yn ..;have HX := lh (HC.out (by omega) hr _ HS.out hsz);have HSZ := lh hsz;clear hsz hr;go_enter Tryz.func52, Tryz.ntmps52
  go_wp2_with fail
  refine HX.out.mono ?_;rcases r with ⟨c,p⟩ | ⟨t,ts'⟩
  ·rintro e w2 ⟨⟨b,rfl,h1,h2⟩,hF⟩;rw [HSZ.out] at h1;exact ⟨rfl,⟨b,rfl,h1,h2⟩,((RFr.refl w rb).set 1 _).trans hF⟩
  ·rintro e w2 ⟨a,rfl,hG,⟨tb2,off2,cap2,h2⟩,hF⟩;have k1:=h2.c1;have kz:=h2.fz 1;have H2:=lh h2;have HG:=lh hG;have HF:=lh hF;clear hG h2 hF;go_wp2;go_ret;exact ⟨a,rfl,(HG.out.rfr hB ((RFr.refl w2 rb).set _ _)).pre ((RFr.refl w rb).set 1 _),⟨tb2,off2,cap2,H2.out.deep (by omega)⟩,(((RFr.refl w rb).set 1 _).trans HF.out).set 1 _⟩
theorem Z1h {f:Nat} {job:Job} {d:Nat} {ts ts':List Tok} {t:Tree} (h:Z0 f job d ts=some (.ok (t,ts'))):ts'.length≤ts.length:=by
 have:=Z24 f job d ts t ts' h;have hl:job.least≤1:=by cases job <;> simp [Job.least]
 omega
theorem Zet (f:Nat) (hA:Says 101 rArg .assign f):Says 80 rArg .value (f + 1):=by
 intro w rb B d ts r hP hp;have hw:Z1a d ts (Z0 f .assign (d + 1) ts)=some r:=hp;have HC:=lh (Zah w rb B ts d _ r hP.rd (by have:=hP.deep; omega) hP.lt hw fun hd h1 w1 hR hs=>hA w1 rb B (d + 1) ts r ⟨hR,hd,hP.lt,by have:=hP.le; omega,hP.few⟩ h1);have hmf:∀ (fn:Fn) (first cap:Array Value) (w:World),(Instr.makeFunc fn first cap).run Tryz.prog w=.ok (.func fn first cap) w:=fun _ _ _ _=>rfl;clear hP hp hw hA;unfold rArg;go_enter Tryz.func80,Tryz.ntmps80
 go_wp2_with fail
 refine HC.out.mono ?_;rcases r with ⟨c,p⟩ | ⟨t,ts'⟩
 ·rintro e w2 ⟨⟨b,rfl,h1,h2⟩,hF⟩;exact ⟨rfl,⟨b,rfl,h1,h2⟩,hF⟩
 ·rintro e w2 ⟨a,rfl,hG,hR,hF⟩;have HG:=lh hG;have HR:=lh hR;have HF:=lh hF;clear hG hR hF HC;go_wp2;go_ret;exact ⟨a,rfl,HG.out,HR.out,HF.out⟩
theorem Zcy (f:Nat) (hV:Says 80 rArg .value f):Says 79 rArg .around (f + 1):=by
 intro w rb B d ts r hP hp;have hw:Z1e Z0u ts (fun ts=>Z0g (Z0 f .value d ts) fun x ts=>Z1e Z0v ts fun ts=>okT x ts)=some r:=hp;have HP:=lh hP;unfold rArg;rcases Z29 hw with ⟨hs,h1⟩ | ⟨hs,rfl⟩
 ·have HC := lh (Z2b w rb ts d Z0u hP.rd hs);have H1 := lh h1;clear hP hp hw hs h1;go_enter Tryz.func79, Tryz.ntmps79
  go_wp2_with fail
  refine HC.out.mono ?_;rintro e w1 ⟨rfl,hR1,hF1⟩;have P1:=lh (HP.out.tail hR1 hF1);have F1:=lh hF1;clear hR1 hF1 HC;rcases Z09 H1.out with ⟨⟨c,p⟩,hv,rfl⟩ | ⟨t,ts2,hv,h2⟩
  ·have HV := lh (hV w1 rb B d _ _ P1.out hv);clear hv;go_wp2_with fail
   refine HV.out.mono ?_;rintro e w2 ⟨⟨b,rfl,h1,h2⟩,hF⟩;exact ⟨rfl,Z0t.pre F1.out (r:=.error (c,p)) ⟨⟨b,rfl,h1,h2⟩,hF⟩⟩
  ·have HV := lh (hV w1 rb B d _ _ P1.out hv);have hl := Z1h hv;have H2 := lh h2;clear hv h2;go_wp2_with fail
   refine HV.out.mono ?_;rintro e w2 ⟨a,rfl,hG,hR2,hF2⟩;have P2:=lh (P1.out.next hR2 hF2 hl);have F2:=lh (F1.out.trans hF2);have G2:=lh (hG.pre F1.out);clear hG hR2 hF2 HV hl;rcases Z29 H2.out with ⟨hs,h3⟩ | ⟨hs,rfl⟩
   ·obtain rfl := Yk h3;have HC := lh (Z2b w2 rb ts2 d Z0v P2.out.rd hs);clear hs h3;go_wp2_with fail
    refine HC.out.mono ?_;rintro e w3 ⟨rfl,hR3,hF3⟩;have R3:=lh hR3;have F3:=lh hF3;clear hR3 hF3;go_wp2;go_ret;exact ⟨a,rfl,G2.out.rfr HP.out.lt F3.out,R3.out,F2.out.trans F3.out⟩
   ·have HC := lh (Z3k w2 rb ts2 d Z0v P2.out.rd hs);clear hs;go_wp2_with fail
    refine HC.out.mono ?_;rintro e w3 ⟨⟨b,rfl,h1,h2⟩,hB⟩;exact ⟨rfl,Z0t.err F2.out ⟨b,rfl,h1,h2⟩ hB⟩
 ·have HC := lh (Z3k w rb ts d Z0u hP.rd hs);clear hP hp hw hs;go_enter Tryz.func79, Tryz.ntmps79
  go_wp2_with fail
  refine HC.out.mono ?_;rintro e w3 ⟨⟨b,rfl,h1,h2⟩,hB⟩;exact ⟨rfl,Z0t.err (RFr.refl _ _) ⟨b,rfl,h1,h2⟩ hB⟩
theorem Z3l {t t':Tree} {ts ts':List Tok} (h:okT t ts=some (.ok (t',ts'))):t=t'∧ts=ts':=by simpa [okT] using h
theorem Z1u {p:PR} {k:Tree→List Tok→PR} {t:Tree} {ts:List Tok} (h:Z0g p k=some (.ok (t,ts))):∃ x us,p=some (.ok (x,us))∧k x us=some (.ok (t,ts)):=by
 rcases Z09 h with ⟨e,_,he⟩ | h;·cases he
 ·exact h
theorem Z5t {s:ByteArray} {us:List Tok} {k:List Tok→PR} {t:Tree} {ts:List Tok} (h:Z1e s us k=some (.ok (t,ts))):isT s us=true∧k us.tail=some (.ok (t,ts)):=by
 rcases Z29 h with h | ⟨_,h⟩;·exact h
 ·cases h
theorem Zac {us:List Tok} {k:ByteArray→List Tok→PR} {t:Tree} {ts:List Tok} (h:Z3f us k=some (.ok (t,ts))):(hdT us).kind=1∧k (hdT us).text us.tail=some (.ok (t,ts)):=by
 rcases Z3x h with h | ⟨_,h⟩;·exact h
 ·cases h
theorem Z9f {f d:Nat} {k:Int} {m:Bool} {us ts:List Tok} {t:Tree} (h:Z0 f (.decl k m) d us=some (.ok (t,ts))):t.kind=k:=by
 cases f with
 | zero=>cases h
 | succ f =>
   obtain ⟨_,h⟩:=Zac h;split at h;·cases h
   ·split at h
    ·obtain ⟨x,vs,_,h⟩:=Z1u h;obtain ⟨rfl,_⟩:=Z3l h; rfl
    ·obtain ⟨rfl,_⟩:=Z3l h; rfl
theorem Zgt {f d:Nat} {k:Int} {s:ByteArray} {us ts:List Tok} {t:Tree} (h:Z0 f (.func k s) d us=some (.ok (t,ts))):t.kind=k:=by
 cases f with
 | zero=>cases h
 | succ f =>
   obtain ⟨_,h⟩:=Z5t h;obtain ⟨x,vs,_,h⟩:=Z1u h;obtain ⟨_,h⟩:=Z5t h;obtain ⟨x,vs,_,h⟩:=Z1u h;obtain ⟨rfl,_⟩:=Z3l h; rfl
theorem Zel:∀ {f d:Nat} {k:Int} {acc:List Tree} {us ts:List Tok} {t:Tree},Z0 f (.stmts k acc) d us=some (.ok (t,ts))→t.kind=k:=by
 intro f;induction f with
 | zero=>intro d k acc us ts t h; cases h
 | succ f ih =>
   intro d k acc us ts t h;rw [Z0] at h;generalize (if k=1 then decide ((hdT us).kind=6) else isT Z01 us)=c at h;cases c
   ·obtain ⟨x,vs,_,h⟩:=Z1u h;exact ih h
   ·obtain ⟨rfl,_⟩:=Z3l h; rfl
theorem Zer {f d:Nat} {b:Bool} {us ts:List Tok} {t:Tree} (h:Z0 f (.block b) d us=some (.ok (t,ts))):t.kind=6:=by
 cases f with
 | zero=>cases h
 | succ f =>
   obtain ⟨_,h⟩:=Z5t h;obtain ⟨x,vs,hx,h⟩:=Z1u h;obtain ⟨_,h⟩:=Z5t h;obtain ⟨h1,_⟩:=Z3l h;cases b;·simp at h1; rw [← h1]; rfl
   ·simp at h1; rw [← h1]; exact Zel hx
theorem Zjb {f d:Nat} {us ts:List Tok} {t:Tree} (h:Z0 f .try_ d us=some (.ok (t,ts))):t.kind=12:=by
 cases f with
 | zero=>cases h
 | succ f =>
   have key:∀ (l:List Tree) (us:List Tok),(if isT Zt us=true then Z0g (Z0 f (.block false) d us.tail) fun c ts=>okT (.mk 12 ByteArray.empty 0 (l ++ [.mk 14 ByteArray.empty 0 [c]])) ts else if l.length=1 then Z30 3 us else okT (.mk 12 ByteArray.empty 0 l) us)=some (.ok (t,ts))→t.kind=12:=by
    intro l us h;by_cases c:isT Zt us=true
    ·rw [Yb c] at h;obtain ⟨x,vs,hx,h⟩:=Z1u h;obtain ⟨rfl,_⟩:=Z3l h; rfl
    ·rw [Y9 c] at h;by_cases c2 : l.length = 1;·rw [Yb c2] at h; cases h
     ·rw [Y9 c2] at h; obtain ⟨rfl,_⟩:=Z3l h; rfl
   rw [Z0] at h;obtain ⟨x,vs,hx,h⟩:=Z1u h;dsimp only at h
   by_cases c:isT Z0r vs=true
   ·rw [Yb c] at h;obtain ⟨_,h⟩:=Z5t h;obtain ⟨_,h⟩:=Zac h;obtain ⟨_,h⟩:=Z5t h;obtain ⟨x,vs,hx,h⟩:=Z1u h;exact key _ _ h
   ·rw [Y9 c] at h;exact key _ _ h
theorem Zc2 {f d:Nat} {us ts:List Tok} {t:Tree} (h:Z0 (f + 1) .stmt d us=some (.ok (t,ts))) (hk:t.kind=15):t.kids≠[]:=by
 have hend:∀ {n:Tree} {vs:List Tok},endT n vs=some (.ok (t,ts))→n=t:=fun h=>(Z3l (Z5t h).2).1;rw [Z0] at h;by_cases c0:isT Zi us=true
 ·rw [Yb c0] at h;have:=Zer h; omega
 rw [Y9 c0] at h;by_cases c1:isT Zs us=true
 ·rw [Yb c1] at h;obtain ⟨rfl,_⟩:=Z3l h; cases hk
 rw [Y9 c1] at h;by_cases c2:isT Z18 us=true
 ·rw [Yb c2] at h;obtain ⟨x,vs,hx,h⟩:=Z1u h;have:=Z9f hx; have:=hend h; subst this; omega
 rw [Y9 c2] at h;by_cases c3:isT Z1c us=true
 ·rw [Yb c3] at h;obtain ⟨x,vs,hx,h⟩:=Z1u h;have:=Z9f hx; have:=hend h; subst this; omega
 rw [Y9 c3] at h;by_cases c4:isT Z06 us=true
 ·rw [Yb c4] at h;obtain ⟨x,vs,hx,h⟩:=Z1u h;have:=Z9f hx; have:=hend h; subst this; omega
 rw [Y9 c4] at h;by_cases c5:isT Ze us=true
 ·rw [Yb c5] at h;obtain ⟨_,h⟩:=Zac h;have:=Zgt h; omega
 rw [Y9 c5] at h;by_cases c6:isT s_if us=true
 ·rw [Yb c6] at h;obtain ⟨x, vs, hx, h⟩ := Z1u h;obtain ⟨y, vs, hx, h⟩ := Z1u h;split at h
  ·obtain ⟨z,vs,hx,h⟩:=Z1u h;obtain ⟨rfl,_⟩:=Z3l h; cases hk
  ·obtain ⟨rfl,_⟩:=Z3l h; cases hk
 rw [Y9 c6] at h;by_cases c7:isT Zz us=true
 ·rw [Yb c7] at h;obtain ⟨x,vs,hx,h⟩:=Z1u h;obtain ⟨y,vs,hx,h⟩:=Z1u h;obtain ⟨rfl,_⟩:=Z3l h; cases hk
 rw [Y9 c7] at h;by_cases c8:isT Z0d us=true
 ·rw [Yb c8] at h;obtain ⟨x,vs,hx,h⟩:=Z1u h;obtain ⟨y,vs,hx,h⟩:=Z1u h;obtain ⟨rfl,_⟩:=Z3l h; cases hk
 rw [Y9 c8] at h;by_cases c9:isT Z08 us=true
 ·rw [Yb c9] at h;split at h;·have := hend h; subst this; cases hk
  ·obtain ⟨x,vs,hx,h⟩:=Z1u h;have:=hend h; subst this; cases hk
 rw [Y9 c9] at h;by_cases c10:isT Z0s us=true
 ·rw [Yb c10] at h;obtain ⟨x,vs,hx,h⟩:=Z1u h;have:=hend h; subst this; cases hk
 rw [Y9 c10] at h;by_cases c11:isT Z1j us=true
 ·rw [Yb c11] at h;have:=Zjb h; omega
 rw [Y9 c11] at h;obtain ⟨x,vs,hx,h⟩:=Z1u h;have:=hend h; subst this;simp [Tree.kids]
theorem Tryz.infoPtr:(Tryz.prog.info? 22).map (fun i=>(i.zero,i.size,i.bytes))=some (some (.pointer none),1,8):=by kernel_rfl
def leftOf (w:World) (rb:Nat):Nat:=match w.cell? ⟨rb,0,none⟩ with | some (.slice _ n _)=>n | _=>0
theorem Rd.left {w:World} {rb:Nat} {ts:List Tok} {d:Nat} (h:Rd w rb ts d):leftOf w rb=ts.length:=by
 obtain ⟨tb,off,cap,h⟩:=h;unfold leftOf;rw [h.c0]
theorem Zeh (F:Nat) (hS:∀ g,g < F→Says 53 rArg .stmt g) :
 Says 19 (fun rb=>#[.pointer (some ⟨rb,0,none⟩),.int .i64 6,.string Z01]) (.stmts 6 []) F:=by
 intro w rb B d ts r hP hp;have HC:=lh (Z14 w rb 6 ⟨#[]⟩ none 0 0);have HP:=lh hP;have HQ:=lh hp;have HS:=lh hS;have hmf:∀ (fn:Fn) (first cap:Array Value) (w:World),(Instr.makeFunc fn first cap).run Tryz.prog w=.ok (.func fn first cap) w:=fun _ _ _ _=>rfl;obtain ⟨nb,hnb⟩:=zX w.heap.size
 have G0:=Got.leaf (k:=6) (t:=⟨#[]⟩) (n:=0) hP.le (RFr.refl w rb);have R0:=hP.rd.below ((Y8 _ _).alloc (Y5 _) (.cells #[.int .i64 6,.string ⟨#[]⟩,.int .i64 0,.slice none 0 0] 38));have F0:RFr w (w.alloc (.cells #[.int .i64 6,.string ⟨#[]⟩,.int .i64 0,.slice none 0 0] 38)) rb:=RFr.below ((Y8 _ _).alloc (Y5 _) _);rw [← hnb] at G0 HC;unfold Z01;clear hP hp hS;simp only;go_enter Tryz.func19,Tryz.ntmps19
 go_wp2_with fail
 refine HC.out.mono ?_;rintro e w1 ⟨rfl,hw1⟩;rw [← hw1] at G0 R0 F0;have hst:∃ (g:Nat) (acc:List Tree) (us:List Tok) (v:Value) (kids:List ATree),g≤F∧Z0 g (.stmts 6 acc) d us=some r∧Got w B w1 (.mk nb v 6 ⟨#[]⟩ 0 kids) (.mk 6 ⟨#[]⟩ 0 acc)∧Rd w1 rb us d∧RFr w w1 rb∧acc.length + us.length≤ts.length∧(∀ x∈acc,x.kind=15→x.kids≠[]):=
  ⟨F,[],ts,_,[],Y5 _,HQ.out,G0,R0,F0,by simp,fun x hx=>by cases hx⟩
 have ST:=lh hst;have HNB:=lh hnb;clear hst hw1 G0 R0 F0 HC hnb;go_wp2_with fail
 go_loopw [] (fun wr=>∃ (g:Nat) (acc:List Tree) (us:List Tok) (v:Value) (kids:List ATree),g≤F∧Z0 g (.stmts 6 acc) d us=some r∧Got w B wr (.mk nb v 6 ⟨#[]⟩ 0 kids) (.mk 6 ⟨#[]⟩ 0 acc)∧Rd wr rb us d∧RFr w wr rb∧acc.length + us.length≤ts.length∧(∀ x∈acc,x.kind=15→x.kids≠[])) (fun wr=>leftOf wr rb)
 case atStart=>exact ST.out
 case round=>
  obtain ⟨g,acc,us,v,kids,hg,hq,hG,hR,hF,hl,hx⟩:=hrel;have G:=lh hG;have R:=lh hR;have FF:=lh hF;have HX:=lh hx;have RL:=lh hR.left;cases g with
  | zero=>cases hq
  | succ g=>
  rw [Z0] at hq;have HB:=Z4h wr rb us d Z01 hR;by_cases hb:isT Z01 us=true
  ·rw [hb] at HB;rw [Yb (by rw [Y9 (by omega)]; exact hb)] at hq;have hr := Yk hq;have HRr := lh hr.symm;have HB := lh HB;unfold Z01 at HB;clear hG hR hF hq hr hb hx ST;go_wp2_with fail
   refine HB.out.mono ?_;rintro e w2 ⟨rfl,hB2⟩;have hlt:=HP.out.lt;have F2:=lh (FF.out.trans (RFr.below (rb:=rb) hB2));have G2:=lh (G.out.rfr hlt (RFr.below (rb:=rb) hB2));have R2:=lh (R.out.below hB2);have hblk:=G2.out.at'.blkOf;have hrow:=G2.out.at'.rowOf;simp only [ATree.b,ATree.v,ATree.kind,ATree.text,ATree.n,ATree.kids] at hblk hrow;have n3:w2.cell? ⟨nb,3,none⟩=some v:=by simp [World.cell?,hblk]
   have nz:w2.frozen? ⟨nb,1,none⟩=false:=by simp [World.frozen?,hblk]
   have nc1:w2.cell? ⟨nb,1,none⟩=some (.string ⟨#[]⟩):=by simp [World.cell?,hblk]
   have htr:=G2.out.tree;simp only [ATree.tree,Tree.mk.injEq,true_and] at htr;have fin0:Z1w acc=false→Z0t w rb B d r (.returned (.pointer (some ⟨nb,0,none⟩))) w2:=fun h=>by
    rw [HRr.out,h];exact ⟨_,rfl,G2.out,R2.out,F2.out⟩
   have FIN0:=lh fin0;have fin1:Z1w acc=true→Z0t w rb B d r (.returned (.pointer (some ⟨nb,0,none⟩))) (w2.setCell ⟨nb,1,none⟩ (.string Z1d)):=fun h=>by
    rw [HRr.out,h];obtain ⟨h1,h2,h3⟩:=Got.text (t':=Z1d) hlt HP.out.le G2.out F2.out R2.out;exact ⟨_,rfl,h1,h3,h2⟩
   have FIN1:=lh fin1;have HTR:=lh htr;have hks:∀ a∈kids,TreeAt w2 B a:=fun a ha=>G2.out.at'.kid (k:=a) ha;have HKS:=lh hks;clear hB2 hblk fin0 fin1 htr hks HB FF G R;cases kids with
   | nil =>
     have hs0:Z1w acc=false:=by rw [← HTR.out]; rfl
     have H0:=lh (FIN0.out hs0);clear hs0;rcases Zp hrow with ⟨rfl,_⟩ | ⟨g0,cap0,rfl,_,_,_⟩
     all_goals
      clear hrow;go_wp2;go_ret;exact H0.out
   | cons a0 ks =>
     rcases Zp hrow with ⟨_,h0⟩ | ⟨g0,cap0,rfl,k1,k2,k3⟩;·simp at h0
     have p0:=Z17 hrow (g:=g0) rfl (i:=0) (x:=a0.ptr) rfl;have hT0:=HKS.out a0 (by simp);have hb0:=hT0.blkOf;have hr0:=hT0.rowOf;have hx0:=HX.out a0.tree (by rw [← HTR.out]; simp [Zr]);obtain ⟨b0,v0,kd0,t0,n0,l0⟩:=a0;simp only [ATree.b,ATree.v,ATree.kind,ATree.text,ATree.n,ATree.kids,ATree.ptr,List.length_cons] at hb0 hr0 p0 k1 n3 ⊢;unfold maxLen at k2;have d0:w2.cell? ⟨b0,0,none⟩=some (.int .i64 kd0):=by simp [World.cell?,hb0]
     have d3:w2.cell? ⟨b0,3,none⟩=some v0:=by simp [World.cell?,hb0]
     by_cases h15:kd0=15
     ·subst h15;cases l0 with
      | nil=>exact absurd rfl (hx0 rfl)
      | cons x xs=>
      rcases Zp hr0 with ⟨_,h0⟩ | ⟨g1,cap1,rfl,j1,j2,j3⟩;·simp at h0
      have p1:=Z17 hr0 (g:=g1) rfl (i:=0) (x:=x.ptr) rfl;have hb1:=(hT0.kid (k:=x) (by simp [ATree.kids])).blkOf;obtain ⟨b1,v1,kd1,t1,n1,l1⟩:=x;simp only [ATree.b,ATree.v,ATree.kind,ATree.text,ATree.n,ATree.ptr,List.length_cons] at hb1 p1 j1 d3;unfold maxLen at j2;have e0:w2.cell? ⟨b1,0,none⟩=some (.int .i64 kd1):=by simp [World.cell?,hb1]
      have e1:w2.cell? ⟨b1,1,none⟩=some (.string t1):=by simp [World.cell?,hb1]
      have hstr:Z1w acc=(decide (kd1=18) && Z15 t1 Z11):=by rw [← HTR.out]; rfl
      have HST:=lh hstr;clear hrow hr0 hT0 hb0 hb1 hx0 hstr;by_cases h18:kd1=18
      ·subst h18;by_cases hus : t1 = Z11
       ·subst hus;have H1:=lh (FIN1.out (by rw [HST.out]; simp [Z15]));unfold Z11 at e1;go_wp2;go_ret;exact H1.out
       ·have H0 := lh (FIN0.out (by rw [HST.out]; simp [Z15, hus]));have hne : ¬ t1.toList = Z11.toList := fun h => hus (Z25 h);have hne2 : (t1.toList == Z11.toList) = false := by simpa using hne
        have hl:Z11.toList=[117,115,101,32,115,116,114,105,99,116]:=by rw [Lib.toList_data]; rfl
        have hne3:¬ t1.toList=[117,115,101,32,115,116,114,105,99,116]:=by rw [← hl]; exact hne
        have hne4:(t1.toList == [117,115,101,32,115,116,114,105,99,116])=false:=by simpa using hne3
        unfold Z11 at hne hne2;clear hus hl;go_wp2;go_ret;exact H0.out
      ·have n18 : (kd1 == 18) = false := by simpa using h18
       have H0:=lh (FIN0.out (by rw [HST.out]; simp [h18]));clear h18;go_wp2;go_ret;exact H0.out
     ·have n15 : (kd0 == 15) = false := by simpa using h15
      have H0:=lh (FIN0.out (by rw [← HTR.out]; cases l0 <;> simp [Zr,ATree.tree,Z1w,h15]));clear hrow hr0 hT0 hb0 hx0 h15;go_wp2;go_ret;exact H0.out
  ·have hb' : isT Z01 us = false := by simpa using hb
   rw [hb'] at HB;rw [Y9 (by rw [Y9 (by omega)]; exact hb)] at hq;have HB:=lh HB;unfold Z01 at HB;have HQ2:=lh hq;clear hG hR hF hq hb hb' hx ST;go_wp2_with fail
   refine HB.out.mono ?_;rintro e w2 ⟨rfl,hB2⟩;have F2:=FF.out.trans (RFr.below (rb:=rb) hB2);have G2:=G.out.rfr HP.out.lt (RFr.below (rb:=rb) hB2);have R2:=R.out.below hB2;have n3:w2.cell? ⟨nb,3,none⟩=some v:=by have:=G2.at'.blkOf; simp only [ATree.b,ATree.v,ATree.kind,ATree.text,ATree.n] at this; simp [World.cell?,this]
   have F2:=lh F2;have G2:=lh G2;have R2:=lh R2;clear hB2 HB FF G R;go_wp2_with fail
   refine Zf [0,2,4,6,8,10,12,14,17,19,21] [11,12,13] (fun W=>W.cell? ⟨nb,3,none⟩=some v) n3 fun _=>?_;simp only [Zh,pD,zD,zE,zF,zG,zH,zI,zJ,zK]
   iterate 8
    first | refine Za _ ?_ | refine Zb ?_
    simp only [Act.put,zA,zB,zC]
   refine Z5 (fun K hK=>?_);go_simp
   have hlt:=HP.out.lt;have hRF2:RFr w2 w2.drew rb:=(RFr.refl w2 rb).drew;have hus:us.length≤4000:=by have:=HP.out.few; omega
   have hle2:B≤w2.drew.heap.size:=Ya HP.out.le F2.out.size;rcases Z09 HQ2.out with ⟨⟨c,p⟩,hv,rfl⟩ | ⟨t,vs,hv,hq3⟩
   ·refine (Z10 w2.drew rb B us d _ _ R2.out.drew (by have:=HP.out.deep; omega) hlt hv fun hd h1 w1 hR1 hs=>HS.out g (by omega) w1 rb B (d + 1) us _ ⟨hR1,hd,hlt,by omega,hus⟩ h1).mono ?_;rintro e w3 ⟨⟨b,rfl,h1,h2⟩,hF3⟩;exact ⟨rfl,Z0t.pre F2.out.drew (r:=.error (c,p)) ⟨⟨b,rfl,h1,h2⟩,hF3⟩⟩
   ·have hvl:vs.length < us.length:=Leaves.within (Z24 g .stmt (d + 1) us) t vs hv;have hvx:t.kind=15→t.kids≠[]:=by
     unfold Z1a at hv;by_cases h30:30 < d + 1;·rw [Yb h30] at hv; cases hv
     ·rw [Y9 h30] at hv;cases g with
      | zero=>cases hv
      | succ g=>exact Zc2 hv
    have HVX:=lh hvx;have HQ3:=lh hq3;refine (Z10 w2.drew rb B us d _ _ R2.out.drew (by have:=HP.out.deep; omega) hlt hv fun hd h1 w1 hR1 hs=>HS.out g (by omega) w1 rb B (d + 1) us _ ⟨hR1,hd,hlt,by omega,hus⟩ h1).mono ?_;rintro e w3 ⟨a,rfl,hA,hR3,hF3⟩;have hF23:RFr w2 w3 rb:=hRF2.trans hF3;have hN3:=G2.out.rfr hlt hF23;have hblk:=hN3.at'.blkOf;simp only [ATree.b,ATree.v,ATree.kind,ATree.text,ATree.n] at hblk;have m3:w3.cell? ⟨nb,3,none⟩=some v:=by simp [World.cell?,hblk]
    have mz:w3.frozen? ⟨nb,3,none⟩=false:=by simp [World.frozen?,hblk]
    have hnb3:nb < w3.heap.size:=(Y6.1 hblk).1;have hnd:=hN3.nodup;simp only [ATree.blocks,List.nodup_cons,List.mem_append,Option.mem_toList,not_or] at hnd;have hne:v.ownBlock≠some nb:=hnd.1.1;have hkl:kids.length=acc.length:=by
     have:=hN3.tree;simp only [ATree.tree,Tree.mk.injEq,true_and] at this;rw [← this,Z26,Yv]
    have hk4:kids.length≤4000:=by have:=HP.out.few; omega
    have N3:=lh hN3;have A3:=lh hA;have R3:=lh hR3;have F3:=lh (F2.out.trans hF23);have NE:=lh hne;have HKL:=lh hkl;refine hK _ _ m3 ?_;obtain ⟨i0,hi,hz0,hz1,hz2⟩:=info_parts Tryz.infoPtr;clear hK K hA hR3 hF3 hF23 hN3 hblk hnd hne hvx hq3 hv hkl n3 hRF2;refine Z5 (fun K hK=>?_);go_simp
    refine hK _ _ ((Z8 hnb3).trans m3) ?_;clear hK K;refine Z5 (fun K hK=>?_);refine step_append_lies _ (by rfl) (.tmp 37) (.tmp 42) 36 (by rfl) B 22 i0 _ 1 8 Tryz.underlying36 hi hz0 hz1 hz2 rfl (by decide) v kids.length (kids.map ATree.ptr) (by rfl) (N3.out.at'.rowOf.alloc _) ⟨w3.heap.size,0,none⟩ 1 1 [a.ptr] (by rfl) rfl (Yi (cs:=#[a.ptr]) (t:=22) (fr:=(0,0)) (heap_alloc_new w3 _)) (by simp [ATree.ptr,Value.oneCell']) (by decide) (by unfold maxLen; omega) (by omega) (by simp; have:=F3.out.size; have:=HP.out.le; omega) (w3.heap.size + 1) (by simp) ?_
    intro gg cap w4 hown4 hgrow4 hat4 hlt4;have m4:w4.cell? ⟨nb,3,none⟩=some v:=(hgrow4.cell_far ⟨nb,3,none⟩ (by simp; omega) (fun e=>NE.out e.symm)).trans ((Z8 hnb3).trans m3);have mz4:w4.frozen? ⟨nb,3,none⟩=false:=(hgrow4.frozen_far ⟨nb,3,none⟩ (by simp; omega) (fun e=>NE.out e.symm)).trans ((Z0m hnb3).trans mz);refine hK _ _ m4 ?_;clear hK K;simp only [Act.put,zA,zB,zC]
    have hfin:=Got.push hlt HP.out.le N3.out (wA:=w2.drew) (fun x hx=>(G2.out.new x hx).2) A3.out F3.out R3.out ((Y8 _ _).alloc (Y5 _) _) hgrow4 hown4 (by rcases hat4 with h | h; (exact .inl h); (exact .inr (by omega))) hlt4;have FIN:=lh hfin;clear hgrow4 hown4 hat4 hlt4 hfin;refine Z6 ?_;go_wp2;go_roundw
    case rel=>
     refine ⟨g,acc ++ [t],vs,.slice (some ⟨gg,0,none⟩) (kids.length + 1) cap,kids ++ [a],by omega,HQ3.out,?_,FIN.out.2.2,FIN.out.2.1,by simp; omega,fun x hx=>?_⟩
     ·have h1:=FIN.out.1;have h2:=G2.out.tree;simp only [ATree.tree,Tree.mk.injEq,true_and] at h2;rw [h2] at h1;exact h1
     ·rcases List.mem_append.1 hx with hx | hx;·exact HX.out x hx
      ·simp only [List.mem_singleton] at hx; subst hx; exact HVX.out
    case measure=>
     rw [FIN.out.2.2.left,RL.out];exact hvl
def Z62 (w:World) (B:Nat) (v:Value) (l:List ATree):Prop:=w.ownsRow B 22 1 v l.length (l.map ATree.ptr)
theorem Z62.nil (w:World) (B:Nat):Z62 w B (.slice none 0 0) []:=World.ownsRow_nil w B _ _
theorem Z62.bel {w w':World} {B:Nat} {v:Value} {l:List ATree} (h:Z62 w B v l) (g:Below w.heap.size w w'):Z62 w' B v l:=
 Zq h fun k hk=>g.block k (Yh h k hk).2
theorem Z62.form {w:World} {B:Nat} {v:Value} {l:List ATree} (h:Z62 w B v l):(v=.slice none 0 0∧l=[])∨∃ g cap,v=.slice (some ⟨g,0,none⟩) l.length cap∧l.length≤cap∧cap≤maxLen:=by
 rcases Zp h with ⟨h1,h2⟩ | ⟨g,cap,h1,h2,h3,_⟩;·exact .inl ⟨h1,List.eq_nil_of_length_eq_zero h2⟩
 ·exact .inr ⟨g,cap,h1,h2,h3⟩
theorem Z62.cell {w:World} {B:Nat} {v:Value} {l:List ATree} (h:Z62 w B v l) {b:Nat} (hb:v.ownBlock=some b) {j:Nat} {x:ATree} (hs:l[j]?=some x):w.cell? ⟨b,j,none⟩=some (.pointer (some ⟨x.b,0,none⟩)):=
 Z17 h hb (by rw [Yo,hs]; rfl)
theorem TreeAt.c0 {w:World} {B:Nat} {a:ATree} (h:TreeAt w B a):w.cell? ⟨a.b,0,none⟩=some (.int .i64 a.kind):=by simp [World.cell?,h.blkOf]
theorem TreeAt.c1 {w:World} {B:Nat} {a:ATree} (h:TreeAt w B a):w.cell? ⟨a.b,1,none⟩=some (.string a.text):=by simp [World.cell?,h.blkOf]
theorem TreeAt.c3 {w:World} {B:Nat} {a:ATree} (h:TreeAt w B a):w.cell? ⟨a.b,3,none⟩=some a.v:=by simp [World.cell?,h.blkOf]
theorem TreeAt.vOf {w:World} {B:Nat} {a:ATree} (h:TreeAt w B a):∃ p cp,a.v=.slice p a.kids.length cp∧a.kids.length≤cp∧cp≤maxLen:=by
 rcases Zp h.rowOf with ⟨h1,h2⟩ | ⟨g0,cap0,h1,h2,h3,_⟩;·exact ⟨none,0,by rw [h1,h2],by omega,by unfold maxLen; omega⟩
 ·exact ⟨_,_,h1,h2,h3⟩
theorem Z6c.slice {w:World} {B:Nat} {v:Value} {l:List ByteArray} (h:Z6c w B v l):∃ p n c,v=.slice p n c:=by
 rcases h.form with ⟨h,_⟩ | ⟨g,cap,h,_⟩;·exact ⟨_,_,_,h⟩
 ·exact ⟨_,_,_,h⟩
theorem Zf0 {l:List ByteArray} {s:ByteArray} (h:l.Nodup):(addL l s).Nodup:=by
 unfold addL;by_cases hc:Lib.containsS l s=true;·rw [Yb hc]; exact h
 ·rw [Y9 hc];rw [Lib.containsS_iff] at hc;rw [List.nodup_append];exact ⟨h,by simp,fun a ha b hb e=>hc (by simp at hb; rw [← hb,← e]; exact ha)⟩
theorem Zhw {l:List ByteArray} {s x:ByteArray} (h:x∈addL l s):x∈l∨x=s:=by
 unfold addL at h;split at h;·exact .inl h
 ·simpa using h
structure VInv (w0:World) (c:Nat) (T:List ByteArray) (l:List ByteArray) (w:World):Prop where
 cell:∃ v,w.heap[c]?=some (.cells #[v] 76 (0,0))∧Z6c w (c + 1) v l
 bel:Below c w0 w
 nd:l.Nodup
 sub:∀ s∈l,s∈T
section
variable {w0 w:World} {c B:Nat} {T l:List ByteArray} {a:ATree}
theorem VInv.lt (h:VInv w0 c T l w):c < w.heap.size:=by obtain ⟨v,hb,_⟩:=h.cell; exact (Y6.1 hb).1
theorem VInv.tree (h:VInv w0 c T l w) (hT:TreeAt w0 B a) (hc:w0.heap.size≤c):TreeAt w B a:=hT.keep fun k _ hk=>h.bel.block k (by omega)
theorem VInv.drew (h:VInv w0 c T l w):VInv w0 c T l w.drew:=⟨h.cell,h.bel.drew,h.nd,h.sub⟩
theorem VInv.add {w1:World} {v':Value} {s:ByteArray} (h:VInv w0 c T l w) (hs:s∈T) (hB:Below (c + 1) w w1) (ht:Z6c w1 (c + 1) v' (addL l s)):VInv w0 c T (addL l s) (w1.setCell ⟨c,0,none⟩ v'):=by
 obtain ⟨v,hb,_⟩:=h.cell;have hb1:w1.heap[c]?=some (.cells #[v] 76 (0,0)):=(hB.block c (by omega)).trans hb;refine ⟨⟨v',Z07 (o:=0) v' hb1,?_⟩,?_,Zf0 h.nd,fun x hx=>(Zhw hx).elim (h.sub x) (fun e=>by rw [e]; exact hs)⟩;·exact Zq ht fun k hk=>Yg _ _ _ _ (by have:=(Yh ht k hk).1; simp only; omega)
 ·exact (h.bel.trans (hB.mono (by omega))).setCell (p:=⟨c,0,none⟩) (Y5 _) _
end
theorem Zbk {T e:TypeId} {B b:Nat} {bs:List Value} {w w':World} (h:Lib.IsBuilder T e B b bs w) (hb:Below w.heap.size w w'):Lib.IsBuilder T e B b bs w':=by
 have lt:∀ {k:Nat} {o:Obj},w.heap[k]?=some o→k < w.heap.size:=fun h=>(Y6.1 h).1;rcases h with ⟨h1,v,h2,h3,h4⟩ | ⟨h1,v,h2,h3,h4⟩;·exact .inl ⟨h1,v,(hb.block b (lt h2)).trans h2,Zq h3 fun g hg=>hb.block g (Yh h3 g hg).2,h4⟩
 ·exact .inr ⟨h1,v,(hb.block b (lt h2)).trans h2,Zq h3 fun g hg=>hb.block g (Yh h3 g hg).2,h4⟩
structure BW (w0:World) (B b:Nat) (l:List UInt8) (w:World):Prop where
 is:Lib.IsBuilder 69 5 B b (Lib.byteCells l) w
 bel:Below w0.heap.size w0 w
 low:w0.heap.size≤B
 sz:B≤w.heap.size
section
variable {w0 w w':World} {B b:Nat} {l:List UInt8}
theorem BW.next {bs':List UInt8} (h:BW w0 B b l w) (h1:Lib.BuilderAt 69 5 B b (.pointer (some ⟨b,0,none⟩)) (Lib.byteCells bs') w') (h2:Below B w w'):BW w0 B b bs' w':=
 ⟨.inr h1,h.bel.trans (h2.mono h.low),h.low,Ya h.sz h2.size⟩
theorem BW.keep (h:BW w0 B b l w) (hb:Below w.heap.size w w'):BW w0 B b l w':=⟨Zbk h.is hb,h.bel.trans (hb.mono (Ya h.low h.sz)),h.low,Ya h.sz hb.size⟩
theorem BW.cell (h:BW w0 B b l w) {p:Addr} {v:Value} (hv:w0.cell? p=some v):w.cell? p=some v:=by
 have hl:p.block < w0.heap.size:=by
  unfold World.cell? at hv;split at hv
  ·rename_i hb;exact (Y6.1 hb).1
  ·cases hv
 exact (Yj (h.bel.block p.block hl)).trans hv
theorem BW.str (h:BW w0 B b l w) (s:ByteArray) (hl:l.length + s.data.toList.length≤140737488355328) :
 Calls Tryz.prog 55 #[.pointer (some ⟨b,0,none⟩),.string s] w fun e w'=>e=.returned (.tuple #[.int .i64 s.size,.nilIface])∧BW w0 B b (l ++ s.data.toList) w'∧Below B w w':=
 (Zii B b (Lib.byteCells l) s w h.is (by simp [Lib.byteCells] at hl ⊢; exact hl) h.sz).mono fun e w' ⟨h1,h2,h3⟩=>⟨h1,h.next (by rw [Lib.byteCells_append]; exact h2) h3,h3⟩
theorem BW.byte (h:BW w0 B b l w) (c:UInt8) (hl:l.length + 1≤140737488355328) :
 Calls Tryz.prog 24 #[.pointer (some ⟨b,0,none⟩),.int .u8 c.toNat] w fun e w'=>e=.returned .nilIface∧BW w0 B b (l ++ [c]) w'∧Below B w w':=
 (Zfo B b (Lib.byteCells l) c.toNat w h.is (by rw [show (Lib.byteCells l).length=l.length by simp [Lib.byteCells]]; exact hl) h.sz).mono fun e w' ⟨h1,h2,h3⟩=>⟨h1,h.next (by rw [Lib.byteCells_append]; exact h2) h3,h3⟩
theorem BW.byteD (h:BW w0 B b l w) (c:UInt8) (hl:l.length + 1≤140737488355328) (u:FrameMode) :
 CallsD Tryz.prog 24 #[.pointer (some ⟨b,0,none⟩),.int .u8 c.toNat] u w fun e u' w'=>u'=u∧(e=.returned .nilIface∧BW w0 B b (l ++ [c]) w'∧Below B w w'):=
 (Zec B b (Lib.byteCells l) c.toNat w h.is (by rw [show (Lib.byteCells l).length=l.length by simp [Lib.byteCells]]; exact hl) h.sz u).mono fun e u' w' ⟨h0,h1,h2,h3⟩=>⟨h0,h1,h.next (by rw [Lib.byteCells_append]; exact h2) h3,h3⟩
end
def Wrote (w0:World) (B b:Nat) (l:List UInt8) (w:World) (m:List UInt8) (e:Ending) (w':World):Prop:=
 e=.returned (.tuple #[])∧BW w0 B b (l ++ m) w'∧Below B w w'
def Fits (l m:List UInt8):Prop:=l.length + m.length≤140737488355328
def Z0e (w0:World) (a:ATree):Prop:=∀ (need:Int) (B b:Nat) (l:List UInt8) (w:World),BW w0 B b l w→Fits l (Zd (vP a.tree need)) →
 Calls Tryz.prog 56 #[.pointer (some ⟨b,0,none⟩),a.ptr,.int .i64 need] w (Wrote w0 B b l w (Zd (vP a.tree need)))
def Z2e (w0:World) (a:ATree):Prop:=∀ (B b:Nat) (l:List UInt8) (w:World),BW w0 B b l w→Fits l (Zd (sP a.tree)) →
 Calls Tryz.prog 23 #[.pointer (some ⟨b,0,none⟩),a.ptr] w (Wrote w0 B b l w (Zd (sP a.tree)))
theorem Z0b (k:Int) (w:World):Calls Tryz.prog 83 #[.int .i64 k] w fun e w'=>e=.returned (.int .i64 (Zo k))∧w'=w:=by
 by_cases h1:k=24;·subst h1; go_enter Tryz.func83,Tryz.ntmps83; go_wp2; go_ret; exact ⟨rfl,rfl⟩
 by_cases h2:k=25;·subst h2; go_enter Tryz.func83,Tryz.ntmps83; go_wp2; go_ret; exact ⟨rfl,rfl⟩
 by_cases h3:k=26;·subst h3; go_enter Tryz.func83,Tryz.ntmps83; go_wp2; go_ret; exact ⟨rfl,rfl⟩
 by_cases h4:k=27;·subst h4; go_enter Tryz.func83,Tryz.ntmps83; go_wp2; go_ret; exact ⟨rfl,rfl⟩
 by_cases h5:k=28;·subst h5; go_enter Tryz.func83,Tryz.ntmps83; go_wp2; go_ret; exact ⟨rfl,rfl⟩
 by_cases h6:k=29;·subst h6; go_enter Tryz.func83,Tryz.ntmps83; go_wp2; go_ret; exact ⟨rfl,rfl⟩
 by_cases h7:k=30;·subst h7; go_enter Tryz.func83,Tryz.ntmps83; go_wp2; go_ret; exact ⟨rfl,rfl⟩
 by_cases h8:k=31;·subst h8; go_enter Tryz.func83,Tryz.ntmps83; go_wp2; go_ret; exact ⟨rfl,rfl⟩
 by_cases h9:k=32;·subst h9; go_enter Tryz.func83,Tryz.ntmps83; go_wp2; go_ret; exact ⟨rfl,rfl⟩
 by_cases h10:k=33;·subst h10; go_enter Tryz.func83,Tryz.ntmps83; go_wp2; go_ret; exact ⟨rfl,rfl⟩
 by_cases h11:k=34;·subst h11; go_enter Tryz.func83,Tryz.ntmps83; go_wp2; go_ret; exact ⟨rfl,rfl⟩
 by_cases h12:k=35;·subst h12; go_enter Tryz.func83,Tryz.ntmps83; go_wp2; go_ret; exact ⟨rfl,rfl⟩
 by_cases h13:k=36;·subst h13; go_enter Tryz.func83,Tryz.ntmps83; go_wp2; go_ret; exact ⟨rfl,rfl⟩
 have hs:Zo k=9:=by
  unfold Zo;rw [Y9 h1,Y9 h2,Y9 h3,Y9 h4,Y9 h5,Y9 (by omega),Y9 h8,Y9 (by omega),Y9 (by omega)]
 rw [hs];have b1:(k == 24)=false:=by simp [h1]
 have b2:(k == 25)=false:=by simp [h2]
 have b3:(k == 26)=false:=by simp [h3]
 have b4:(k == 27)=false:=by simp [h4]
 have b5:(k == 28)=false:=by simp [h5]
 have b6:(k == 29)=false:=by simp [h6]
 have b7:(k == 30)=false:=by simp [h7]
 have b8:(k == 31)=false:=by simp [h8]
 have b9:(k == 32)=false:=by simp [h9]
 have b10:(k == 33)=false:=by simp [h10]
 have b11:(k == 34)=false:=by simp [h11]
 have b12:(k == 35)=false:=by simp [h12]
 have b13:(k == 36)=false:=by simp [h13]
 go_enter Tryz.func83,Tryz.ntmps83
 go_wp2;go_ret;exact ⟨rfl,rfl⟩
theorem Z8b (w:World):(callFunc 157 #[]).run Tryz.prog w=.ok (.value (.tuple #[])) w:=run_call_mark0 Tryz.func157 (by kernel_rfl) (by kernel_rfl) (by kernel_rfl) .disable (by kernel_rfl) w
theorem Z9a (w:World):(callFunc 159 #[]).run Tryz.prog w=.ok (.value (.tuple #[])) w:=run_call_mark0 Tryz.func159 (by kernel_rfl) (by kernel_rfl) (by kernel_rfl) .enable (by kernel_rfl) w
theorem Zb2 (a:Addr) (w:World):(callFunc 160 #[.pointer (some a)]).run Tryz.prog w=.ok (.value (.tuple #[])) w:=run_call_marked Tryz.func160 (by kernel_rfl) (by kernel_rfl) (by kernel_rfl) .acquire (by kernel_rfl) a w
theorem Zbi (a:Addr) (w:World):(callFunc 162 #[.pointer (some a)]).run Tryz.prog w=.ok (.value (.tuple #[])) w:=run_call_marked Tryz.func162 (by kernel_rfl) (by kernel_rfl) (by kernel_rfl) .releaseMerge (by kernel_rfl) a w
theorem Z9r (a:Addr) (x:Value) (u:FrameMode) (w:World) (hc:w.cell? a=some x) (hz:w.frozen? a=false) :
 CallsD Tryz.prog 144 #[.pointer (some a),.bool true] u w fun e u' w'=>u'=u∧(e=.returned (.tuple #[])∧w'=w.drew.setCell a (.int .u32 1)):=by
 have hc':w.drew.cell? a=some x:=by go_simp
 have hz':w.drew.frozen? a=false:=by go_simp
 have hst:=run_call_store (P:=Tryz.prog) Tryz.func152 (by kernel_rfl) (by kernel_rfl) (by kernel_rfl) (by kernel_rfl) (k:=.u32) (y:=1) hc' hz';go_enter_d Tryz.func144,Tryz.ntmps144
 go_wp2;go_region_calls
 all_goals (go_end0; exact ⟨rfl,rfl⟩)
theorem unlock_deferred (a:Addr) (u:FrameMode) (w:World) (hc:w.cell? a=some (.int .i32 1)) (hz:w.frozen? a=false) :
 CallsD Tryz.prog 143 #[.pointer (some a)] u w fun e u' w'=>u'=u∧(e=.returned (.tuple #[])∧w'=w.setCell a (.int .i32 0)):=by
 have hd:=Z8b;have he:=Z9a;have hr:=Zbi;have hadd:=run_call_add (P:=Tryz.prog) Tryz.func163 (by kernel_rfl) (by kernel_rfl) (by kernel_rfl) .i32 (by kernel_rfl) (y:=-1) (s:=0) hc hz (by simp [go_sem]; rfl);have hcv:=run_convert_to_unsafe (P:=Tryz.prog) (src:=235) (dst:=120) Tryz.underlying235 Tryz.underlying120 (by kernel_rfl) hc;go_enter_d Tryz.func143,Tryz.ntmps143
 go_wp2;go_end0
 go_wp2;all_goals (go_end0; exact ⟨rfl,rfl⟩)
theorem lock_free (a:Addr) (w:World) (hc:w.cell? a=some (.int .i32 0)) (hz:w.frozen? a=false) :
 Calls Tryz.prog 142 #[.pointer (some a)] w fun e w'=>e=.returned (.tuple #[])∧w'=w.setCell a (.int .i32 1):=by
 have hd:=Z8b;have he:=Z9a;have ha:=Zb2;have hcas:=run_call_cas_hit (P:=Tryz.prog) Tryz.func158 (by kernel_rfl) (by kernel_rfl) (by kernel_rfl) .i32 (by kernel_rfl) (y:=1) hc hz;have hc':(w.setCell a (.int .i32 1)).cell? a=some (.int .i32 1):=World.cell?_setCell_same w a _ hc;have hcv:=run_convert_to_unsafe (P:=Tryz.prog) (src:=235) (dst:=120) Tryz.underlying235 Tryz.underlying120 (by kernel_rfl) hc';go_enter Tryz.func142,Tryz.ntmps142
 go_wp2;first | go_end0 | (simp only [Exit.inBlock,Exit.then]; refine bodyPost_ret (results_none rfl _ _ _) rfl ?_) | refine bodyPost_ret (results_none rfl _ _ _) rfl ?_
 go_wp2;all_goals (go_end0; exact ⟨rfl,rfl⟩)
end Go.Proofs.YtmeiggjboakmpaaGreatDoor
