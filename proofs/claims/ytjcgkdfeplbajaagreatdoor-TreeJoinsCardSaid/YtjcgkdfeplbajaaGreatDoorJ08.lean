/- Package tree: the reader, and the small ones of its functions. -/
import Derived.Test.YtjcgkdfeplbajaaGreatDoorJ07
import Derived.Maps.Own
import Derived.Maps.OwnOps
import Derived.Maps.RangeWalk
namespace Go.Proofs.YtjcgkdfeplbajaaGreatDoor
open Go Go.RowKit
set_option maxRecDepth 100000
set_option maxHeartbeats 20000000
structure RFr (w w':World) (rb:Nat):Prop where
 os:w'.os=w.os
 tape:w'.tape=w.tape
 output:w'.output=w.output
 size:w.heap.size≤w'.heap.size
 block:∀ k,k < w.heap.size→k≠rb→w'.heap[k]?=w.heap[k]?
theorem RFr.refl (w:World) (rb:Nat):RFr w w rb:=⟨rfl,rfl,rfl,Y0 _,fun _ _ _=>rfl⟩
theorem RFr.trans {w w' w'':World} {rb:Nat} (h:RFr w w' rb) (g:RFr w' w'' rb):RFr w w'' rb:=
 ⟨g.os.trans h.os,g.tape.trans h.tape,g.output.trans h.output,Y4 h.size g.size,fun k hk hn=>(g.block k (Y7 hk h.size) hn).trans (h.block k hk hn)⟩
theorem RFr.below {w w':World} {rb:Nat} (h:Below w.heap.size w w'):RFr w w' rb:=⟨h.os,h.tape,h.output,h.size,fun k hk _=>h.block k hk⟩
theorem RFr.drew {w w':World} {rb:Nat} (h:RFr w w' rb):RFr w w'.drew rb:=⟨h.os,h.tape,h.output,h.size,h.block⟩
theorem RFr.cell {w w':World} {rb:Nat} (h:RFr w w' rb) {p:Addr} (hp:p.block < w.heap.size) (hn:p.block≠rb):w'.cell? p=w.cell? p:=Yb (h.block p.block hp hn)
def levL:Nat→List ByteArray
 | 0=>[s_or]
 | 1=>[Z5a]
 | 2=>[Z3k]
 | 3=>[Z45]
 | 4=>[Z5t,Z66]
 | 5=>[Z68]
 | _=>[]
def Z2l (w:World) (rb:Nat):Prop:=∀ lv,lv < 6→∃ b off cap,5 < rb∧b < rb∧w.cell? ⟨5,lv,none⟩=some (.slice (some ⟨b,off,none⟩) (levL lv).length cap) ∧
 (levL lv).length≤cap∧∀ i x,(levL lv)[i]?=some x→w.cell? ⟨b,off + i,none⟩=some (.string x)
theorem Z2l.keep {w w':World} {rb:Nat} (h:Z2l w rb) (hk:∀ k,k < rb→w'.heap[k]?=w.heap[k]?):Z2l w' rb:=by
 intro lv hl;obtain ⟨b,off,cap,h1,h2,h3,h4,h5⟩:=h lv hl;exact ⟨b,off,cap,h1,h2,(Yb (hk _ h1)).trans h3,h4,fun i x hx=>(Yb (hk b h2)).trans (h5 i x hx)⟩
structure RAt (w:World) (rb tb off cap:Nat) (ts:List Tok) (d:Nat):Prop where
 blk:w.heap[rb]?=some (.cells #[.slice (some ⟨tb,off,none⟩) ts.length cap,.int .i64 d] 46 (0,0))
 le:ts.length≤cap
 most:cap≤maxLen
 ord:tb < rb
 lt:tb < w.heap.size
 cells:∀ k t j x,ts[k]?=some t→t.cells[j]?=some x→w.cell? ⟨tb,off + (k * 4 + j),none⟩=some x
 last:∃ l e,ts=l ++ [e]∧e.kind=6∧∀ t∈l,t.kind≠6
 lev:Z2l w rb
def Rd (w:World) (rb:Nat) (ts:List Tok) (d:Nat):Prop:=∃ tb off cap,RAt w rb tb off cap ts d
section
variable {w w':World} {rb tb off cap d:Nat} {ts:List Tok}
theorem RAt.ne (h:RAt w rb tb off cap ts d):tb≠rb:=by have:=h.ord; omega
theorem RAt.keep (h:RAt w rb tb off cap ts d) (hs:w.heap.size≤w'.heap.size) (hr:w'.heap[rb]?=w.heap[rb]?) (ht:w'.heap[tb]?=w.heap[tb]?) (hl:∀ k,k < rb→w'.heap[k]?=w.heap[k]?):RAt w' rb tb off cap ts d:=
 ⟨hr.trans h.blk,h.le,h.most,h.ord,Y7 h.lt hs,fun k t j x h1 h2=>(Yb ht).trans (h.cells k t j x h1 h2),h.last,h.lev.keep hl⟩
theorem RAt.rlt (h:RAt w rb tb off cap ts d):rb < w.heap.size:=(Y1.1 h.blk).1
theorem RAt.below (h:RAt w rb tb off cap ts d) (hB:Below w.heap.size w w'):RAt w' rb tb off cap ts d:=h.keep hB.size (hB.block rb h.rlt) (hB.block tb h.lt) fun k hk=>hB.block k (Nat.lt_trans hk h.rlt)
theorem Rd.keep (h:Rd w rb ts d) (hs:w.heap.size≤w'.heap.size) (hk:∀ k,k≤rb→w'.heap[k]?=w.heap[k]?):Rd w' rb ts d:=by
 obtain ⟨tb,off,cap,h⟩:=h;exact ⟨tb,off,cap,h.keep hs (hk rb (Y0 _)) (hk tb (Nat.le_of_lt h.ord)) fun k h=>hk k (Nat.le_of_lt h)⟩
theorem Rd.below (h:Rd w rb ts d) (hB:Below w.heap.size w w'):Rd w' rb ts d:=by obtain ⟨tb,off,cap,h⟩:=h; exact ⟨tb,off,cap,h.below hB⟩
theorem Rd.rlt (h:Rd w rb ts d):rb < w.heap.size:=by obtain ⟨tb,off,cap,h⟩:=h; exact h.rlt
theorem RAt.drew (h:RAt w rb tb off cap ts d):RAt w.drew rb tb off cap ts d:=h.keep (Y0 _) rfl rfl fun _ _=>rfl
theorem Rd.drew (h:Rd w rb ts d):Rd w.drew rb ts d:=by obtain ⟨tb,off,cap,h⟩:=h; exact ⟨tb,off,cap,h.drew⟩
theorem RAt.c0 (h:RAt w rb tb off cap ts d):w.cell? ⟨rb,0,none⟩=some (.slice (some ⟨tb,off,none⟩) ts.length cap):=by simp [World.cell?,h.blk]
theorem RAt.c1 (h:RAt w rb tb off cap ts d):w.cell? ⟨rb,1,none⟩=some (.int .i64 d):=by simp [World.cell?,h.blk]
theorem RAt.fz (h:RAt w rb tb off cap ts d) (i:Nat):w.frozen? ⟨rb,i,none⟩=false:=by simp [World.frozen?,h.blk]
theorem RAt.head (h:RAt w rb tb off cap ts d):∃ l,ts=hdT ts :: l:=by
 obtain ⟨l,e,h1,_,_⟩:=h.last;cases ts with
 | nil=>simp at h1
 | cons t l'=>exact ⟨l',rfl⟩
theorem RAt.hd (h:RAt w rb tb off cap ts d) {j:Nat} {x:Value} (hj:(hdT ts).cells[j]?=some x):w.cell? ⟨tb,off + j,none⟩=some x:=by
 obtain ⟨l,hl⟩:=h.head;have:=h.cells 0 (hdT ts) j x (by rw [hl]; rfl) hj;simpa using this
theorem RAt.pos (h:RAt w rb tb off cap ts d):0 < ts.length:=by obtain ⟨l,hl⟩:=h.head; rw [hl]; simp
theorem RAt.two (h:RAt w rb tb off cap ts d) (hk:(hdT ts).kind≠6):2≤ts.length:=by
 obtain ⟨l,e,h1,h2,_⟩:=h.last;cases l with
 | nil=>rw [h1] at hk; exact absurd h2 hk
 | cons a l=>rw [h1]; simp
theorem RAt.tail (h:RAt w rb tb off cap ts d) (hk:(hdT ts).kind≠6):RAt (w.setCell ⟨rb,0,none⟩ (.slice (some ⟨tb,off + 4,none⟩) (ts.length - 1) (cap - 1))) rb tb (off + 4) (cap - 1) ts.tail d:=by
 obtain ⟨l,hl⟩:=h.head;have h2:=h.two hk;have hle:=h.le;refine ⟨?_,?_,by have:=h.most; omega,h.ord,by rw [Yf]; exact h.lt,fun k t j x h3 h4=>?_,?_,?_⟩
 ·have:=Z09 (o:=0) (.slice (some ⟨tb,off + 4,none⟩) (ts.length - 1) (cap - 1)) h.blk;rw [List.length_tail];exact this
 ·rw [List.length_tail]; omega
 ·have h5:=h.cells (k + 1) t j x (by rw [hl] at h3 ⊢; simpa using h3) h4;have hb:=Y8 w ⟨rb,0,none⟩ (.slice (some ⟨tb,off + 4,none⟩) (ts.length - 1) (cap - 1)) tb h.ne;rw [show off + 4 + (k * 4 + j)=off + ((k + 1) * 4 + j) by omega];exact (Yb hb).trans h5
 ·obtain ⟨l', e, h6, h7, h8⟩ := h.last;cases l' with
  | nil=>rw [h6] at hk; exact absurd h7 hk
  | cons a l'=>exact ⟨l',e,by rw [h6]; rfl,h7,fun t ht=>h8 t (List.mem_cons_of_mem _ ht)⟩
 ·exact h.lev.keep fun k hk=>Y8 _ _ _ _ (by simp only; omega)
theorem RAt.deep (h:RAt w rb tb off cap ts d) {x:Int} {d':Nat} (hx:x=d'):RAt (w.setCell ⟨rb,1,none⟩ (.int .i64 x)) rb tb off cap ts d':=by
 subst hx;have hb:=Y8 w ⟨rb,1,none⟩ (.int .i64 (d':Int)) tb h.ne;exact ⟨Z09 (o:=1) (.int .i64 (d':Int)) h.blk,h.le,h.most,h.ord,by rw [Yf]; exact h.lt,fun k t j x h3 h4=>(Yb hb).trans (h.cells k t j x h3 h4),h.last,h.lev.keep fun k hk=>Y8 _ _ _ _ (by simp only; omega)⟩
theorem RFr.set (h:RFr w w' rb) (o:Nat) (x:Value):RFr w (w'.setCell ⟨rb,o,none⟩ x) rb:=
 ⟨h.os,h.tape,h.output,by rw [Yf]; exact h.size,fun k hk hn=>(Y8 _ _ _ _ hn).trans (h.block k hk hn)⟩
end
theorem Ze2 {s:ByteArray} {ts:List Tok} (h:isT s ts=true):(hdT ts).kind≠6:=by
 simp only [isT,Bool.and_eq_true,Bool.or_eq_true,decide_eq_true_eq] at h;omega
theorem Z2k (w:World) (rb:Nat) (ts:List Tok) (d:Nat) (s:ByteArray) (hR:Rd w rb ts d) :
 Calls Tryz.prog 29 #[.pointer (some ⟨rb,0,none⟩),.string s] w fun e w'=>e=.returned (.bool (isT s ts))∧Below w.heap.size w w':=by
 obtain ⟨tb,off,cap,h⟩:=hR;have c0:=h.c0;have t0:=h.hd (j:=0) rfl;have t1:=h.hd (j:=1) rfl;have t2:=h.hd (j:=2) rfl;have t3:=h.hd (j:=3) rfl;have hp:=h.pos;have hm:=h.most;have hle:=h.le;unfold maxLen at hm;obtain ⟨n,hn⟩:=zX ts.length
 rw [← hn] at c0 hp hle;have hlt:=h.lt;have hrt:=h.rlt;obtain ⟨B,hB⟩:=zX (isT s ts)
 rw [← hB];unfold isT at hB;obtain ⟨⟨k,tx,tn,ta⟩,ht⟩:∃ t,t=hdT ts:=⟨_,rfl⟩
 rw [← ht] at t0 t1 t2 t3 hB;simp only [Nat.add_zero] at t0 hB;clear ht hn h;have hal:∀ o,Below w.heap.size w (w.alloc o):=fun o=>(Y2 _ _).alloc (Y0 _) o;have HAL:=lh hal;clear hal;by_cases h5:k=5
 ·subst h5;have hB2 : B = Z1f tx s := by simpa using hB
  have HB:=lh hB2;clear hB hB2;go_enter Tryz.func29,Tryz.ntmps29
  go_wp2;go_ret;rw [HB.out,← Z6o];exact ⟨rfl,HAL.out _⟩
 have n5:(k == 5)=false:=by simpa using h5
 by_cases h2:k=2
 ·subst h2;have hB2 : B = Z1f tx s := by simpa using hB
  have HB:=lh hB2;clear hB hB2 h5;go_enter Tryz.func29,Tryz.ntmps29
  go_wp2;go_ret;rw [HB.out,← Z6o];exact ⟨rfl,HAL.out _⟩
 have n2:(k == 2)=false:=by simpa using h2
 have hB2:B=false:=by rw [hB]; simp [h5,h2]
 have HB:=lh hB2;clear hB hB2 h5 h2;go_enter Tryz.func29,Tryz.ntmps29
 go_wp2;go_ret;rw [HB.out];exact ⟨rfl,HAL.out _⟩
theorem Z11 (w:World) (rb:Nat) (ts:List Tok) (d:Nat) (s:ByteArray) (hR:Rd w rb ts d) (hs:isT s ts=false) :
 Calls Tryz.prog 46 #[.pointer (some ⟨rb,0,none⟩),.string s] w fun e w'=>e=.returned (.bool false)∧Below w.heap.size w w':=by
 have HC:=Z2k w rb ts d s hR;rw [hs] at HC;have HC:=lh HC;clear hs hR;go_enter Tryz.func46,Tryz.ntmps46
 go_wp2_with fail
 refine HC.out.mono ?_;rintro e w1 ⟨rfl,hB⟩;have HB:=lh hB;clear hB;go_wp2;go_ret;exact ⟨rfl,HB.out⟩
theorem Z0j (w:World) (rb:Nat) (ts:List Tok) (d:Nat) (s:ByteArray) (hR:Rd w rb ts d) (hs:isT s ts=true) :
 Calls Tryz.prog 46 #[.pointer (some ⟨rb,0,none⟩),.string s] w fun e w'=>e=.returned (.bool true)∧Rd w' rb ts.tail d∧RFr w w' rb:=by
 have HC:=Z2k w rb ts d s hR;rw [hs] at HC;have HC:=lh HC;have HR:=lh hR;have HK:=lh (Ze2 hs);clear hs hR;go_enter Tryz.func46,Tryz.ntmps46
 go_wp2_with fail
 refine HC.out.mono ?_;rintro e w1 ⟨rfl,hB⟩;obtain ⟨tb,off,cap,h⟩:=HR.out.below hB;have c0:=h.c0;have z0:=h.fz 0;have h2:=h.two HK.out;have hm:=h.most;have hle:=h.le;unfold maxLen at hm;have H:=lh h;have HB:=lh hB;obtain ⟨n,hn⟩:=zX ts.length
 rw [← hn] at c0 h2 hle;have HN:=lh hn;clear hB h hn HC;go_wp2;go_ret;refine ⟨rfl,⟨tb,off + 4,cap - 1,?_⟩,?_⟩
 ·have:=H.out.tail HK.out;rw [← HN.out] at this;exact this
 ·exact (RFr.below HB.out).set _ _
inductive ATree
 | mk (b:Nat) (v:Value) (kind:Int) (text:ByteArray) (n:Int) (kids:List ATree)
def ATree.b:ATree→Nat | .mk b _ _ _ _ _=>b
def ATree.v:ATree→Value | .mk _ v _ _ _ _=>v
def ATree.kind:ATree→Int | .mk _ _ k _ _ _=>k
def ATree.text:ATree→ByteArray | .mk _ _ _ t _ _=>t
def ATree.n:ATree→Int | .mk _ _ _ _ n _=>n
def ATree.kids:ATree→List ATree | .mk _ _ _ _ _ l=>l
def ATree.ptr (a:ATree):Value:=.pointer (some ⟨a.b,0,none⟩)
mutual
def ATree.tree:ATree→Tree
 | .mk _ _ k t n l=>.mk k t n (Zg l)
def Zg:List ATree→List Tree
 | []=>[]
 | a :: l=>a.tree :: Zg l
end
mutual
def ATree.blocks:ATree→List Nat
 | .mk b v _ _ _ l=>b :: (v.ownBlock.toList ++ Z08 l)
def Z08:List ATree→List Nat
 | []=>[]
 | a :: l=>a.blocks ++ Z08 l
end
theorem Z1i (l:List ATree):Zg l=l.map ATree.tree:=by
 induction l with
 | nil=>rfl
 | cons a l ih=>simp [Zg,ih]
theorem Z1v (l:List ATree):Z08 l=l.flatMap ATree.blocks:=by
 induction l with
 | nil=>rfl
 | cons a l ih=>simp [Z08,ih]
theorem Z1z (l m:List ATree):Zg (l ++ m)=Zg l ++ Zg m:=by simp [Z1i]
theorem Z1t (l m:List ATree):Z08 (l ++ m)=Z08 l ++ Z08 m:=by simp [Z1v]
inductive TreeAt (w:World) (B:Nat):ATree→Prop
 | mk {b:Nat} {v:Value} {kind:Int} {text:ByteArray} {n:Int} {kids:List ATree} (blk:w.heap[b]?=some (.cells #[.int .i64 kind,.string text,.int .i64 n,v] 34 (0,0)))
  (le:B≤b) (row:w.ownsRow B 22 1 v kids.length (kids.map ATree.ptr)) (all:∀ a∈kids,TreeAt w B a):TreeAt w B (.mk b v kind text n kids)
section
variable {w w':World} {B rb:Nat} {a:ATree}
theorem TreeAt.keep (h:TreeAt w B a) (hb:∀ k,B≤k→k < w.heap.size→w'.heap[k]?=w.heap[k]?):TreeAt w' B a:=by
 induction h with
 | mk blk le row _ ih =>
   exact .mk ((hb _ le (Y1.1 blk).1).trans blk) le (Zr row fun g hg=>hb g (row.lt g hg).1 (row.lt g hg).2) ih
theorem TreeAt.keepB (h:TreeAt w B a) (hb:∀ k∈a.blocks,w'.heap[k]?=w.heap[k]?):TreeAt w' B a:=by
 induction h with
 | @mk b v kind text n kids blk le row _ ih =>
   refine .mk ((hb b (by simp [ATree.blocks])).trans blk) le (Zr row fun g hg=>hb g (by simp [ATree.blocks,hg])) fun a ha=>ih a ha fun k hk=>hb k ?_;simp only [ATree.blocks,Z1v,List.mem_cons,List.mem_append,List.mem_flatMap];exact .inr (.inr ⟨a,ha,hk⟩)
theorem TreeAt.has (h:TreeAt w B a):∀ k∈a.blocks,B≤k∧k < w.heap.size:=by
 induction h with
 | @mk b v kind text n kids blk le row _ ih =>
   intro k hk;simp only [ATree.blocks,Z1v,List.mem_cons,List.mem_append,List.mem_flatMap,Option.mem_toList] at hk;rcases hk with rfl | hk | ⟨a,ha,hk⟩;·exact ⟨le,(Y1.1 blk).1⟩
   ·exact row.lt k hk
   ·exact ih a ha k hk
theorem TreeAt.bel (h:TreeAt w B a) (hB:Below w.heap.size w w'):TreeAt w' B a:=h.keep fun k _ hk=>hB.block k hk
theorem TreeAt.rfr (h:TreeAt w B a) (hr:rb < B) (f:RFr w w' rb):TreeAt w' B a:=h.keep fun k hk hl=>f.block k hl (by omega)
theorem TreeAt.drew (h:TreeAt w B a):TreeAt w.drew B a:=h.keep fun _ _ _=>rfl
theorem TreeAt.blkOf (h:TreeAt w B a):w.heap[a.b]?=some (.cells #[.int .i64 a.kind,.string a.text,.int .i64 a.n,a.v] 34 (0,0)):=by cases h; assumption
theorem TreeAt.rowOf (h:TreeAt w B a):w.ownsRow B 22 1 a.v a.kids.length (a.kids.map ATree.ptr):=by cases h; assumption
theorem TreeAt.kid (h:TreeAt w B a) {k:ATree} (hk:k∈a.kids):TreeAt w B k:=by cases h; rename_i all; exact all k hk
theorem TreeAt.le (h:TreeAt w B a):B≤a.b:=by cases h; assumption
theorem TreeAt.lt (h:TreeAt w B a):a.b < w.heap.size:=(Y1.1 h.blkOf).1
theorem TreeAt.base {B':Nat} (h:TreeAt w B a) (hB:B'≤B):TreeAt w B' a:=by
 induction h with
 | mk blk le row _ ih=>exact .mk blk (Y4 hB le) (Z54 hB row) ih
end
def Z4m (w:World) (base:Nat) (e:Ending) (c p:Int):Prop:=
 ∃ b,e=.panicked [{ v:=.iface 42 (.agg #[.iface 67 (.pointer (some ⟨b,0,none⟩))]),recovered:=false }]∧base≤b∧w.heap[b]?=some (.cells #[.int .i64 c,.int .i64 p] 69 (0,0))
structure Got (w:World) (B:Nat) (w':World) (a:ATree) (t:Tree):Prop where
 tree:a.tree=t
 at':TreeAt w' B a
 nodup:a.blocks.Nodup
 new:∀ x∈a.blocks,w.heap.size≤x∧x < w'.heap.size
theorem Got.rfr {w w' w'':World} {B rb:Nat} {a:ATree} {t:Tree} (h:Got w B w' a t) (hr:rb < B) (f:RFr w' w'' rb):Got w B w'' a t:=
 ⟨h.tree,h.at'.rfr hr f,h.nodup,fun x hx=>⟨(h.new x hx).1,Y7 (h.new x hx).2 f.size⟩⟩
theorem Got.pre {w w' w'':World} {B rb:Nat} {a:ATree} {t:Tree} (h:Got w' B w'' a t) (f:RFr w w' rb):Got w B w'' a t:=
 ⟨h.tree,h.at',h.nodup,fun x hx=>⟨Y4 f.size (h.new x hx).1,(h.new x hx).2⟩⟩
def Z01 (w:World) (rb B d:Nat) (r:Except (Int×Nat) (Tree×List Tok)) (e:Ending) (w':World):Prop:=
 match r with
 | .ok (t,ts)=>∃ a,e=.returned (.pointer (some ⟨a.b,0,none⟩))∧Got w B w' a t∧Rd w' rb ts d∧RFr w w' rb
 | .error (c,p)=>Z4m w' w.heap.size e c p∧RFr w w' rb
theorem TreeAt.new {w:World} {B:Nat} {v:Value} {kind:Int} {text:ByteArray} {n:Int} {kids:List ATree} (hB:B≤w.heap.size) (row:w.ownsRow B 22 1 v kids.length (kids.map ATree.ptr)) (all:∀ a∈kids,TreeAt w B a) :
 TreeAt (w.alloc (.cells #[.int .i64 kind,.string text,.int .i64 n,v] 34)) B (.mk w.heap.size v kind text n kids):=by
 have hal:Below w.heap.size w (w.alloc (.cells #[.int .i64 kind,.string text,.int .i64 n,v] 34)):=(Y2 _ _).alloc (Y0 _) _;exact .mk (heap_alloc_new w _) hB (row.alloc _) fun a ha=>(all a ha).bel hal
structure Pre (w:World) (rb B d:Nat) (ts:List Tok):Prop where
 rd:Rd w rb ts d
 deep:d≤30
 lt:rb < B
 le:B≤w.heap.size
 few:ts.length≤4000
theorem Pre.below {w w':World} {rb B d:Nat} {ts:List Tok} (h:Pre w rb B d ts) (hB:Below w.heap.size w w'):Pre w' rb B d ts:=
 ⟨h.rd.below hB,h.deep,h.lt,Y4 h.le hB.size,h.few⟩
theorem Pre.next {w w':World} {rb B d:Nat} {ts ts':List Tok} (h:Pre w rb B d ts) (hR:Rd w' rb ts' d) (f:RFr w w' rb) (hl:ts'.length≤ts.length):Pre w' rb B d ts':=
 ⟨hR,h.deep,h.lt,Y4 h.le f.size,Y4 hl h.few⟩
theorem Pre.tail {w w':World} {rb B d:Nat} {ts:List Tok} (h:Pre w rb B d ts) (hR:Rd w' rb ts.tail d) (f:RFr w w' rb):Pre w' rb B d ts.tail:=h.next hR f (by cases ts <;> simp)
def Says (F:FuncId) (args:Nat→Array Value) (job:Job) (f:Nat):Prop:=
 ∀ (w:World) (rb B d:Nat) (ts:List Tok) (r:Except (Int×Nat) (Tree×List Tok)),Pre w rb B d ts→Z0 f job d ts=some r→Calls Tryz.prog F (args rb) w (Z01 w rb B d r)
def rArg (rb:Nat):Array Value:=#[.pointer (some ⟨rb,0,none⟩)]
theorem Z01.pre {w w1 w2:World} {rb B d:Nat} {r:Except (Int×Nat) (Tree×List Tok)} {e:Ending} (f:RFr w w1 rb) (h:Z01 w1 rb B d r e w2):Z01 w rb B d r e w2:=by
 rcases r with ⟨c,p⟩ | ⟨t,ts⟩
 ·obtain ⟨⟨b,h1,h2,h3⟩,g⟩:=h;exact ⟨⟨b,h1,Y4 f.size h2,h3⟩,f.trans g⟩
 ·obtain ⟨a,h1,h2,h3,h4⟩:=h;exact ⟨a,h1,h2.pre f,h3,f.trans h4⟩
theorem Z01.err {w w1 w2:World} {rb B d:Nat} {e:Ending} {c:Int} {p:Nat} (f:RFr w w1 rb) (h:Z4m w2 w1.heap.size e c p) (g:Below w1.heap.size w1 w2):Z01 w rb B d (.error (c,p)) e w2:=by
 obtain ⟨b,h1,h2,h3⟩:=h;exact ⟨⟨b,h1,Y4 f.size h2,h3⟩,f.trans (RFr.below g)⟩
theorem Zp {p:PR} {k:Tree→List Tok→PR} {r:Except (Int×Nat) (Tree×List Tok)} (h:Zz p k=some r):(∃ e,p=some (.error e)∧r=.error e)∨∃ t ts,p=some (.ok (t,ts))∧k t ts=some r:=by
 cases p with
 | none=>simp [Zz] at h
 | some x =>
   cases x with
   | error e=>exact .inl ⟨e,rfl,by simpa [Zz] using h.symm⟩
   | ok y=>obtain ⟨t,ts⟩:=y; exact .inr ⟨t,ts,rfl,h⟩
theorem Z17 {s:ByteArray} {ts:List Tok} {k:List Tok→PR} {r:Except (Int×Nat) (Tree×List Tok)} (h:Z0i s ts k=some r):(isT s ts=true∧k ts.tail=some r)∨(isT s ts=false∧r=.error (3,(hdT ts).at')):=by
 unfold Z0i at h;by_cases hs:isT s ts=true;·rw [Y5 hs] at h; exact .inl ⟨hs,h⟩
 ·rw [Y3 hs] at h; exact .inr ⟨by simpa using hs,by simpa [Z1k] using h.symm⟩
theorem Z2a {ts:List Tok} {k:ByteArray→List Tok→PR} {r:Except (Int×Nat) (Tree×List Tok)} (h:Z1m ts k=some r):((hdT ts).kind=1∧k (hdT ts).text ts.tail=some r)∨((hdT ts).kind≠1∧r=.error (3,(hdT ts).at')):=by
 unfold Z1m at h;by_cases hs:(hdT ts).kind=1;·rw [Y5 hs] at h; exact .inl ⟨hs,h⟩
 ·rw [Y3 hs] at h; exact .inr ⟨hs,by simpa [Z1k] using h.symm⟩
theorem Got.push {w0 wA w w1 w2:World} {rb B b d g cap:Nat} {v:Value} {k n:Int} {t:ByteArray} {kids:List ATree} {a:ATree} {tn ta:Tree} {ts:List Tok} (hr:rb < B) (hB0:B≤w0.heap.size)
 (N:Got w0 B w (.mk b v k t n kids) tn) (hNA:∀ x∈(ATree.mk b v k t n kids).blocks,x < wA.heap.size) (A:Got wA B w a ta) (F:RFr w0 w rb) (R:Rd w rb ts d)
 (hB1:Below w.heap.size w w1) (hg:w1.grownBy w2 v.ownBlock) (hown:w2.ownsRow B 22 1 (.slice (some ⟨g,0,none⟩) (kids.length + 1) cap) (kids.length + 1) (kids.map ATree.ptr ++ [a.ptr]))
 (hat:v.ownBlock=some g∨w.heap.size≤g) (hgl:g < w2.heap.size) :
 Got w0 B (w2.setCell ⟨b,3,none⟩ (.slice (some ⟨g,0,none⟩) (kids.length + 1) cap)) (.mk b (.slice (some ⟨g,0,none⟩) (kids.length + 1) cap) k t n (kids ++ [a])) (.mk k t n (Zg kids ++ [ta])) ∧
  RFr w0 (w2.setCell ⟨b,3,none⟩ (.slice (some ⟨g,0,none⟩) (kids.length + 1) cap)) rb∧Rd (w2.setCell ⟨b,3,none⟩ (.slice (some ⟨g,0,none⟩) (kids.length + 1) cap)) rb ts d:=by
 have hnd:=N.nodup;simp only [ATree.blocks,List.nodup_cons,List.mem_append,List.nodup_append,Option.mem_toList,not_or] at hnd;obtain ⟨⟨hb1,hb2⟩,_,hk1,hk2⟩:=hnd;have hbw:b < w.heap.size:=N.at'.lt;have hb0:w0.heap.size≤b:=(N.new b (by simp [ATree.blocks])).1;have hv0:∀ x,v.ownBlock=some x→w0.heap.size≤x∧x < wA.heap.size∧x < w.heap.size:=fun x hx=>
  ⟨(N.new x (by simp [ATree.blocks,hx])).1,hNA x (by simp [ATree.blocks,hx]),(N.new x (by simp [ATree.blocks,hx])).2⟩
 have hbA:b < wA.heap.size:=hNA b (by simp [ATree.blocks]);have hs1:w.heap.size≤w2.heap.size:=Y4 hB1.size hg.size;have hsz:(w2.setCell ⟨b,3,none⟩ (.slice (some ⟨g,0,none⟩) (kids.length + 1) cap)).heap.size=w2.heap.size:=Yf ..;have far2:∀ x,x < w.heap.size→v.ownBlock≠some x→w2.heap[x]?=w.heap[x]?:=fun x hx hn=>(hg.block x (Y7 hx hB1.size) (fun e=>hn e.symm)).trans (hB1.block x hx)
 have far:∀ x,x < w.heap.size→x≠b→v.ownBlock≠some x→(w2.setCell ⟨b,3,none⟩ (.slice (some ⟨g,0,none⟩) (kids.length + 1) cap)).heap[x]?=w.heap[x]?:=fun x hx hxb hn=>(Y8 _ _ _ _ hxb).trans (far2 x hx hn);have hgb:g≠b:=by
  rcases hat with h | h;·rintro rfl; exact hb1 h
  ·omega
 have hgA:∀ x∈a.blocks,g≠x:=fun x hx=>by
  have h1:=A.new x hx;rcases hat with h | h;·have:=hv0 g h; omega
  ·omega
 have hgk:∀ x∈Z08 kids,g≠x:=fun x hx=>by
  rcases hat with h | h;·exact hk2 g h x hx
  ·have:=(N.new x (by simp [ATree.blocks,hx])).2; omega
 have hg0:w0.heap.size≤g:=by
  rcases hat with h | h;·exact (hv0 g h).1
  ·have:=F.size; omega
 refine ⟨⟨?_,?_,?_,?_⟩,⟨?_,?_,?_,?_,?_⟩,?_⟩
 ·simp only [ATree.tree,Z1z,Zg];rw [A.tree]
 ·refine .mk ?_ N.at'.le ?_ fun x hx => ?_
  ·have h1:=(far2 b hbw hb1).trans N.at'.blkOf;exact Z09 (o:=3) _ h1
  ·rw [Yi,List.map_append];exact Zr hown fun g' hg'=>Y8 _ _ _ _ (by simp only [Value.ownBlock,Option.some.injEq] at hg'; rw [← hg']; exact hgb)
  ·rcases List.mem_append.1 hx with hx | hx
   ·have hT := N.at'.kid (k := x) hx;refine hT.keepB fun y hy => ?_;have hyk : y ∈ Z08 kids := by rw [Z1v]; exact List.mem_flatMap.2 ⟨x, hx, hy⟩
    exact far y (hT.has y hy).2 (fun e=>hb2 (by rw [← e]; exact hyk)) (fun e=>hk2 y e y hyk rfl)
   ·simp only [List.mem_singleton] at hx;subst hx;refine A.at'.keepB fun y hy=>?_;have h1:=A.new y hy;exact far y h1.2 (by omega) (fun e=>by have:=hv0 y e; omega)
 ·simp only [ATree.blocks, Value.ownBlock, Z1t, Z08, List.append_nil, List.nodup_cons, List.mem_append, List.nodup_append, Option.toList, List.mem_cons, List.not_mem_nil, or_false, not_or, List.nodup_nil, not_false_eq_true, true_and];refine ⟨⟨fun e => hgb e.symm, hb2, fun hm => by have := A.new b hm; omega⟩, ⟨hk1, A.nodup, fun x hx y hy e => by have h1 := hNA x (by simp [ATree.blocks, hx]); have h2 := A.new y hy; omega⟩, ?_⟩;rintro x rfl y hy;rcases hy with hy | hy;·exact hgk y hy
  ·exact hgA y hy
 ·intro x hx;rw [hsz];simp only [ATree.blocks, Value.ownBlock, Z1t, Z08, List.append_nil, List.mem_cons, List.mem_append, Option.toList, List.not_mem_nil, or_false] at hx;rcases hx with rfl | rfl | hx | hx;·exact ⟨hb0, by omega⟩
  ·exact ⟨hg0,hgl⟩
  ·have:=N.new x (by simp [ATree.blocks,hx]); omega
  ·have:=A.new x hx; omega
 ·exact (hg.os.trans hB1.os).trans F.os
 ·exact (hg.tape.trans hB1.tape).trans F.tape
 ·exact (hg.output.trans hB1.output).trans F.output
 ·rw [hsz]; have:=F.size; omega
 ·intro x hx hn;have:=F.size;exact (far x (by omega) (by omega) (fun e=>by have:=hv0 x e; omega)).trans (F.block x hx hn)
 ·have:=F.size;exact R.keep (by rw [hsz]; exact hs1) fun x hx=>far x (by have:=R.rlt; omega) (by omega) (fun e=>by have:=hv0 x e; omega)
theorem Got.text {w0 w:World} {rb B b d:Nat} {v:Value} {k n:Int} {t t':ByteArray} {kids:List ATree} {l:List Tree} {ts:List Tok} (hr:rb < B) (hB0:B≤w0.heap.size)
 (N:Got w0 B w (.mk b v k t n kids) (.mk k t n l)) (F:RFr w0 w rb) (R:Rd w rb ts d) :
 Got w0 B (w.setCell ⟨b,1,none⟩ (.string t')) (.mk b v k t' n kids) (.mk k t' n l)∧RFr w0 (w.setCell ⟨b,1,none⟩ (.string t')) rb∧Rd (w.setCell ⟨b,1,none⟩ (.string t')) rb ts d:=by
 have hnd:=N.nodup;simp only [ATree.blocks,List.nodup_cons,List.mem_append,Option.mem_toList,not_or] at hnd;obtain ⟨⟨hb1,hb2⟩,_⟩:=hnd;have hb0:w0.heap.size≤b:=(N.new b (by simp [ATree.blocks])).1;have hsz:(w.setCell ⟨b,1,none⟩ (.string t')).heap.size=w.heap.size:=Yf ..;have far:∀ x,x≠b→(w.setCell ⟨b,1,none⟩ (.string t')).heap[x]?=w.heap[x]?:=fun x hx=>Y8 _ _ _ _ hx
 refine ⟨⟨?_,?_,N.nodup,?_⟩,⟨F.os,F.tape,F.output,by rw [hsz]; exact F.size,fun x hx hn=>(far x (by omega)).trans (F.block x hx hn)⟩,R.keep (by omega) fun x hx=>far x (by omega)⟩
 ·have:=N.tree;simp only [ATree.tree,Tree.mk.injEq,true_and] at this ⊢;exact this
 ·refine .mk (Z09 (o:=1) _ N.at'.blkOf) N.at'.le (Zr N.at'.rowOf fun g hg=>far g (fun e=>hb1 (by rw [← e]; exact hg))) fun x hx=>?_;have hT:=N.at'.kid (k:=x) hx;refine hT.keepB fun y hy=>far y fun e=>hb2 ?_;rw [Z1v,← e];exact List.mem_flatMap.2 ⟨x,hx,hy⟩
 ·intro x hx; rw [hsz]; exact N.new x hx
theorem Got.leaf {w0 w:World} {rb B:Nat} {k:Int} {t:ByteArray} {n:Int} (hB0:B≤w0.heap.size) (F:RFr w0 w rb) :
 Got w0 B (w.alloc (.cells #[.int .i64 k,.string t,.int .i64 n,.slice none 0 0] 34)) (.mk w.heap.size (.slice none 0 0) k t n []) (.mk k t n []):=by
 have hs:=F.size;exact ⟨rfl,TreeAt.new (Y4 hB0 hs) (World.ownsRow_nil _ _ _ _) (fun a ha=>by cases ha),by simp [ATree.blocks,Value.ownBlock,Z08],fun x hx=>by
  simp only [ATree.blocks,Value.ownBlock,Option.toList,Z08,List.append_nil,List.mem_cons,List.not_mem_nil,or_false] at hx;subst hx;exact ⟨hs,by simp⟩⟩
theorem Zc6 {w:World} {B:Nat} {l:List ATree} (hB:B≤w.heap.size) (hl:l.length≤1000) :
 (w.alloc (.cells (l.map ATree.ptr).toArray 22)).ownsRow B 22 1 (.slice (some ⟨w.heap.size,0,none⟩) l.length l.length) l.length (l.map ATree.ptr):=by
 refine ⟨by simp,.inr ⟨w.heap.size,l.length,(l.map ATree.ptr).toArray,rfl,hB,heap_alloc_new w _,Y0 _,by unfold maxLen; omega,by simp,?_⟩⟩;simp only [Nat.mul_one];exact Ye (by simp)
theorem Got.made {w0 w:World} {rb B:Nat} {k:Int} {t:ByteArray} {kids:List ATree} {ks:List Tree} (hB0:B≤w0.heap.size) (F:RFr w0 w rb) (hl:kids.length≤1000) (ht:Zg kids=ks)
 (hT:∀ a∈kids,TreeAt w B a) (hn:(Z08 kids).Nodup) (hb:∀ x∈Z08 kids,w0.heap.size≤x∧x < w.heap.size) :
 Got w0 B ((w.alloc (.cells (kids.map ATree.ptr).toArray 22)).alloc (.cells #[.int .i64 k,.string t,.int .i64 0,.slice (some ⟨w.heap.size,0,none⟩) kids.length kids.length] 34))
  (.mk (w.heap.size + 1) (.slice (some ⟨w.heap.size,0,none⟩) kids.length kids.length) k t 0 kids) (.mk k t 0 ks):=by
 have hs:=F.size;have hal:Below w.heap.size w (w.alloc (.cells (kids.map ATree.ptr).toArray 22)):=(Y2 _ _).alloc (Y0 _) _;have hz:(w.alloc (.cells (kids.map ATree.ptr).toArray 22)).heap.size=w.heap.size + 1:=by simp
 refine ⟨by simp [ATree.tree,ht],?_,?_,?_⟩
 ·rw [← hz];exact TreeAt.new (by rw [hz]; omega) (Zc6 (by omega) hl) fun a ha=>(hT a ha).bel hal
 ·simp only [ATree.blocks,Value.ownBlock,Option.toList,List.nodup_cons,List.mem_append,List.nodup_append,List.mem_cons,List.not_mem_nil,or_false,not_or,List.nodup_nil,not_false_eq_true,true_and];refine ⟨⟨by omega,fun hm=>by have:=hb _ hm; omega⟩,hn,?_⟩;rintro x rfl y hy rfl;have:=hb _ hy;omega
 ·intro x hx;simp only [ATree.blocks, Value.ownBlock, Option.toList, List.mem_cons, List.mem_append, List.not_mem_nil, or_false] at hx;simp only [World.size_alloc];rcases hx with rfl | rfl | hx;·omega
  ·omega
  ·have:=hb x hx; omega
theorem Got.two {w0 w wA:World} {rb B:Nat} {k:Int} {t:ByteArray} {a c:ATree} {ta tc:Tree} (hB0:B≤w0.heap.size) (F:RFr w0 w rb) (A:Got w0 B w a ta) (hA:∀ x∈a.blocks,x < wA.heap.size) (hwA:w0.heap.size≤wA.heap.size) (C:Got wA B w c tc) :
 Got w0 B ((w.alloc (.cells #[a.ptr,c.ptr] 22)).alloc (.cells #[.int .i64 k,.string t,.int .i64 0,.slice (some ⟨w.heap.size,0,none⟩) 2 2] 34))
  (.mk (w.heap.size + 1) (.slice (some ⟨w.heap.size,0,none⟩) 2 2) k t 0 [a,c]) (.mk k t 0 [ta,tc]):=by
 refine Got.made (kids:=[a,c]) (rb:=rb) hB0 F (by simp) (by simp [Zg,A.tree,C.tree]) (fun x hx=>?_) ?_ ?_
 ·simp only [List.mem_cons, List.not_mem_nil, or_false] at hx;rcases hx with rfl | rfl;·exact A.at'
  ·exact C.at'
 ·simp only [Z08,List.append_nil,List.nodup_append];exact ⟨A.nodup,C.nodup,fun x hx y hy e=>by have h1:=hA x hx; have h2:=C.new y hy; omega⟩
 ·intro x hx;simp only [Z08, List.append_nil, List.mem_append] at hx;rcases hx with hx | hx;·exact A.new x hx
  ·have:=C.new x hx; omega
theorem Got.one {w0 w:World} {rb B:Nat} {k:Int} {t:ByteArray} {a:ATree} {ta:Tree} (hB0:B≤w0.heap.size) (F:RFr w0 w rb) (A:Got w0 B w a ta) :
 Got w0 B ((w.alloc (.cells #[a.ptr] 22)).alloc (.cells #[.int .i64 k,.string t,.int .i64 0,.slice (some ⟨w.heap.size,0,none⟩) 1 1] 34))
  (.mk (w.heap.size + 1) (.slice (some ⟨w.heap.size,0,none⟩) 1 1) k t 0 [a]) (.mk k t 0 [ta]):=by
 refine Got.made (kids:=[a]) (rb:=rb) hB0 F (by simp) (by simp [Zg,A.tree]) (fun x hx=>?_) ?_ ?_
 ·simp only [List.mem_cons,List.not_mem_nil,or_false] at hx;rw [hx]; exact A.at'
 ·simpa [Z08] using A.nodup
 ·intro x hx;exact A.new x (by simpa [Z08] using hx)
mutual
def Z8y {σ:Type} (g:σ→ATree→Bool×σ):ATree→σ→σ
 | .mk b v k t n l,s=>if (g s (.mk b v k t n l)).1 then Z4u g l (g s (.mk b v k t n l)).2 else (g s (.mk b v k t n l)).2
def Z4u {σ:Type} (g:σ→ATree→Bool×σ):List ATree→σ→σ
 | [],s=>s
 | a :: l,s=>Z4u g l (Z8y g a s)
end
mutual
def ATree.subs:ATree→List ATree
 | .mk b v k t n l=>.mk b v k t n l :: Zd0 l
def Zd0:List ATree→List ATree
 | []=>[]
 | a :: l=>a.subs ++ Zd0 l
end
mutual
def ATree.many:ATree→Nat
 | .mk _ _ _ _ _ l=>Z3l l + 1
def Z3l:List ATree→Nat
 | []=>0
 | a :: l=>a.many + Z3l l
end
theorem Zdp {σ:Type} (g:σ→ATree→Bool×σ) (a:ATree) (s:σ):Z8y g a s=if (g s a).1 then Z4u g a.kids (g s a).2 else (g s a).2:=by
 cases a; simp only [Z8y,ATree.kids]
theorem Zaj {σ:Type} (g:σ→ATree→Bool×σ) (l:List ATree) (a:ATree) (s:σ):Z4u g (l ++ [a]) s=Z8y g a (Z4u g l s):=by
 induction l generalizing s with
 | nil=>simp [Z4u]
 | cons x l ih=>simp only [List.cons_append,Z4u,ih]
theorem Z9l {a k:ATree} (h:k∈a.kids):k.many < a.many:=by
 have key:∀ l:List ATree,k∈l→k.many≤Z3l l:=by
  intro l;induction l with
  | nil=>intro h; cases h
  | cons x l ih =>
    intro h;simp only [Z3l];rcases List.mem_cons.1 h with rfl | h;·omega
    ·have:=ih h; omega
 obtain ⟨b,v,kk,t,n,l⟩:=a;have:=key l h;simp only [ATree.many];omega
theorem Z7t (a:ATree):a∈a.subs:=by cases a; simp [ATree.subs]
theorem Z9n {a k x:ATree} (h:k∈a.kids) (hx:x∈k.subs):x∈a.subs:=by
 have key:∀ l:List ATree,k∈l→x∈Zd0 l:=by
  intro l;induction l with
  | nil=>intro h; cases h
  | cons y l ih =>
    intro h;simp only [Zd0,List.mem_append];rcases List.mem_cons.1 h with rfl | h;·exact .inl hx
    ·exact .inr (ih h)
 obtain ⟨b,v,kk,t,n,l⟩:=a;simp only [ATree.subs,List.mem_cons];exact .inr (key l h)
mutual
theorem Z40:∀ a:ATree,a.tree.many=a.many
 | .mk _ _ _ _ _ l=>by simp only [ATree.tree,Tree.many,ATree.many]; rw [Z6k l]
theorem Z6k:∀ l:List ATree,Zn (Zg l)=Z3l l
 | []=>rfl
 | a :: l=>by simp only [Zg,Zn,Z3l]; rw [Z40 a,Z6k l]
end
theorem Z6t {l:List ATree} {k:Nat} {x:ATree} (h:l[k]?=some x):l.take (k + 1)=l.take k ++ [x]:=by
 rw [List.take_add_one,h]; rfl
inductive Reach {σ:Type} (g:σ→ATree→Bool×σ):ATree→σ→ATree→σ→Prop
 | self (a:ATree) (s:σ):Reach g a s a s
 | kid {a k x:ATree} {s s':σ} {i:Nat} (ok:(g s a).1=true) (hk:a.kids[i]?=some k) (h:Reach g k (Z4u g (a.kids.take i) (g s a).2) x s'):Reach g a s x s'
theorem Reach.sub {σ:Type} {g:σ→ATree→Bool×σ} {a x:ATree} {s s':σ} (h:Reach g a s x s'):x∈a.subs:=by
 induction h with
 | self a s=>exact Z7t a
 | kid ok hk h ih=>exact Z9n (Yd hk) ih
end Go.Proofs.YtjcgkdfeplbajaaGreatDoor
namespace Go.Proofs.YtjcgkdfeplbajaaGreatDoor
open Go Go.RowKit Go.Maps
set_option maxRecDepth 100000
set_option maxHeartbeats 20000000
theorem Z07 {H:Type} {P:Program} (w:World) {ops:Array Oper} {rest:List Oper} {o:Oper} {a:Act} {Q:Exit→Act→World→Prop}
 (hg:o.guard=none) (m x v:Operand) (t:TypeId) (hop:o.op=Op.insert t m x v)
 (k e:TypeId) (K:Keyed P k) (ht:P.underlying t=some (.map k e)) (R:Value→Option (DataW H×List MemPlace)) (b n:Nat) (D:DataW H)
 (hm:a.eval m=.map (some b)) (hown:w.ownsMap P k R b n D) (hn:n < maxLen) (key val:Value) (kl:Lit) (hx:a.eval x=key) (hv:a.eval v=val) (hkey:keyOf P k key=some kl)
 (d:DataW H) (ps:List MemPlace) (hval:R val=some (d,ps))
 (hK:∀ w',w'.ownsMap P k R b (n + 1) (D.put kl d)→w.grownBy w' (some b)→wpList P ops Q rest (a.put o.dst undef) w') :
 wpList P ops Q (o :: rest) a w:=by
 refine wpList_plain hg fun K' hK'=>?_;obtain ⟨w',hrun,r1,r2⟩:=hown.update K ht hn hkey hval;unfold Oper.wp;simp [execOp,hop,hm,hx,hv,hrun,Result.andThen];exact hK' _ _ (hK w' r1 r2)
theorem Tryz.keyedS:Keyed Tryz.prog 9:=string_keyed Yj
theorem Tryz.zeroI (w:World):(zeroValue 3).run Tryz.prog w=.ok (.int .i64 0) w:=by kernel_rfl
theorem Z1h {B:Nat} {w w1 w2:World} {b:Nat} (h:Below B w w1) (hg:w1.grownBy w2 (some b)) (hb:B≤b) (hs:B≤w1.heap.size):Below B w w2:=
 h.grown hg hs fun j hj=>by cases hj; exact hb
def litD (l:List (ByteArray×Int)):DataW Unit:=l.foldl (fun D x=>D.put (.string x.1.data.toList) (.lit (.int .i64 x.2))) (.map [])
def Zfg:List (ByteArray×Int):=[(s_or,25),(Z5a,26),(Z3k,27),(Z45,28),(Z5t,29),(Z66,30),(Z68,31)]
end Go.Proofs.YtjcgkdfeplbajaaGreatDoor
namespace Go.Proofs.YtjcgkdfeplbajaaGreatDoor
open Go Go.RowKit
set_option maxRecDepth 100000
set_option maxHeartbeats 20000000
set_option linter.unusedVariables false
def Z3v (w:World) (B:Nat) (v:Value) (l:List ByteArray):Prop:=w.ownsRow B 9 1 v l.length (l.map Value.string)
def addL (l:List ByteArray) (s:ByteArray):List ByteArray:=if Lib.containsS l s then l else l ++ [s]
theorem Z3v.nil (w:World) (B:Nat):Z3v w B (.slice none 0 0) []:=World.ownsRow_nil w B _ _
theorem Z3v.cells {w:World} {B:Nat} {v:Value} {l:List ByteArray} (h:Z3v w B v l) {b:Nat} (hb:v.ownBlock=some b) {j:Nat} {s:ByteArray} (hs:l[j]?=some s):w.cell? ⟨b,j,none⟩=some (.string s):=
 Z0z h hb (by rw [Yg,hs]; rfl)
theorem Z3v.bel {w w':World} {B:Nat} {v:Value} {l:List ByteArray} (h:Z3v w B v l) (g:Below w.heap.size w w'):Z3v w' B v l:=
 Zr h fun k hk=>g.block k (Y9 h k hk).2
theorem Z3v.form {w:World} {B:Nat} {v:Value} {l:List ByteArray} (h:Z3v w B v l):(v=.slice none 0 0∧l=[])∨∃ g cap,v=.slice (some ⟨g,0,none⟩) l.length cap∧l.length≤cap∧cap≤maxLen:=by
 rcases Zm h with ⟨h1,h2⟩ | ⟨g,cap,h1,h2,h3,_⟩;·exact .inl ⟨h1,List.eq_nil_of_length_eq_zero h2⟩
 ·exact .inr ⟨g,cap,h1,h2,h3⟩
end Go.Proofs.YtjcgkdfeplbajaaGreatDoor
namespace Go.Proofs.YtjcgkdfeplbajaaGreatDoor
open Go Go.RowKit
set_option maxRecDepth 100000
set_option maxHeartbeats 20000000
theorem Z6i {w:World} {base:Nat} {c p:Int} (hb:base≤w.heap.size) :
 Z4m (w.alloc (.cells #[.int .i64 c,.int .i64 p] 69)) base (.panicked [{ v:=.iface 42 (.agg #[.iface 67 (.pointer (some ⟨w.heap.size,0,none⟩))]),recovered:=false }]) c p:=
 ⟨w.heap.size,rfl,hb,heap_alloc_new w _⟩
theorem Z4m.base {w:World} {b b':Nat} {e:Ending} {c p:Int} (h:Z4m w b e c p) (hb:b'≤b):Z4m w b' e c p:=by
 obtain ⟨x,h1,h2,h3⟩:=h;exact ⟨x,h1,Y4 hb h2,h3⟩
theorem Z1r (w:World) (rb:Nat) (ts:List Tok) (d:Nat) (c:Int) (hR:Rd w rb ts d) :
 Calls Tryz.prog 44 #[.pointer (some ⟨rb,0,none⟩),.int .i64 c] w fun e w'=>Z4m w' w.heap.size e c (hdT ts).at'∧Below w.heap.size w w':=by
 obtain ⟨tb,off,cap,h⟩:=hR;have c0:=h.c0;have t3:=h.hd (j:=3) rfl;have hp:=h.pos;have hm:=h.most;have hle:=h.le;unfold maxLen at hm;obtain ⟨n,hn⟩:=zX ts.length
 rw [← hn] at c0 hp hle;have hlt:=h.lt;have hrt:=h.rlt;clear hn h;go_enter Tryz.func44,Tryz.ntmps44
 go_wp2;exact ⟨rfl,Z6i (Y0 _),(Y2 _ _).alloc (Y0 _) _⟩
theorem Z25 (w:World) (rb:Nat) (ts:List Tok) (d:Nat) (s:ByteArray) (hR:Rd w rb ts d) (hs:isT s ts=false) :
 Calls Tryz.prog 64 #[.pointer (some ⟨rb,0,none⟩),.string s] w fun e w'=>Z4m w' w.heap.size e 3 (hdT ts).at'∧Below w.heap.size w w':=by
 have HC:=lh (Z11 w rb ts d s hR hs);have HR:=lh hR;clear hs hR;go_enter Tryz.func64,Tryz.ntmps64
 go_wp2_with fail
 refine HC.out.mono ?_;rintro e w1 ⟨rfl,hB⟩;have HF:=lh (Z1r w1 rb ts d 3 (HR.out.below hB));have HB:=lh hB;clear hB;go_wp2_with fail
 refine HF.out.mono ?_;rintro e w2 ⟨⟨b,rfl,h1,h2⟩,hB⟩;exact ⟨rfl,⟨b,rfl,Y4 HB.out.size h1,h2⟩,HB.out.trans (hB.mono HB.out.size)⟩
theorem Z19 (w:World) (rb:Nat) (ts:List Tok) (d:Nat) (s:ByteArray) (hR:Rd w rb ts d) (hs:isT s ts=true) :
 Calls Tryz.prog 64 #[.pointer (some ⟨rb,0,none⟩),.string s] w fun e w'=>e=.returned (.tuple #[])∧Rd w' rb ts.tail d∧RFr w w' rb:=by
 have HC:=lh (Z0j w rb ts d s hR hs);clear hs hR;go_enter Tryz.func64,Tryz.ntmps64
 go_wp2_with fail
 refine HC.out.mono ?_;rintro e w1 ⟨rfl,hR,hF⟩;have HR:=lh hR;have HF:=lh hF;clear hR hF;go_wp2;go_end0
 exact ⟨rfl,HR.out,HF.out⟩
theorem Z3o (w:World) (rb:Nat) (ts:List Tok) (d:Nat) (hR:Rd w rb ts d) (hk:(hdT ts).kind≠1) :
 Calls Tryz.prog 50 #[.pointer (some ⟨rb,0,none⟩)] w fun e w'=>Z4m w' w.heap.size e 3 (hdT ts).at'∧Below w.heap.size w w':=by
 have HR:=lh hR;obtain ⟨tb,off,cap,h⟩:=hR;have c0:=h.c0;have t0:=h.hd (j:=0) rfl;have t1:=h.hd (j:=1) rfl;have t2:=h.hd (j:=2) rfl;have t3:=h.hd (j:=3) rfl;have hp:=h.pos;have hm:=h.most;have hle:=h.le;unfold maxLen at hm;obtain ⟨n,hn⟩:=zX ts.length
 rw [← hn] at c0 hp hle;have hlt:=h.lt;have hrt:=h.rlt;have hk1:((hdT ts).kind == 1)=false:=by simpa using hk
 have hal:Below w.heap.size w (w.alloc (.cells #[.int .i64 (hdT ts).kind,.string (hdT ts).text,.int .i64 (hdT ts).n,.int .i64 (hdT ts).at'] 65)):=(Y2 _ _).alloc (Y0 _) _;have HF:=lh (Z1r _ rb ts d 3 (HR.out.below hal));have HAL:=lh hal;simp only [Nat.add_zero] at t0;clear hn h hk hal;go_enter Tryz.func50,Tryz.ntmps50
 go_wp2_with fail
 refine HF.out.mono ?_;rintro e w2 ⟨⟨b,rfl,h1,h2⟩,hB⟩;exact ⟨rfl,⟨b,rfl,Y4 HAL.out.size h1,h2⟩,HAL.out.trans (hB.mono HAL.out.size)⟩
theorem Z2c (w:World) (rb:Nat) (ts:List Tok) (d:Nat) (hR:Rd w rb ts d) (hk:(hdT ts).kind=1) :
 Calls Tryz.prog 50 #[.pointer (some ⟨rb,0,none⟩)] w fun e w'=>e=.returned (.string (hdT ts).text)∧Rd w' rb ts.tail d∧RFr w w' rb:=by
 obtain ⟨tb,off,cap,h⟩:=hR;have c0:=h.c0;have t0:=h.hd (j:=0) rfl;have t1:=h.hd (j:=1) rfl;have t2:=h.hd (j:=2) rfl;have t3:=h.hd (j:=3) rfl;have h2:=h.two (by omega);have hm:=h.most;have hle:=h.le;have z0:=h.fz 0;unfold maxLen at hm;have H:=lh (h.tail (by omega));obtain ⟨n,hn⟩:=zX ts.length
 rw [← hn] at c0 h2 hle;have HN:=lh hn;have hlt:=h.lt;have hrt:=h.rlt;have HK:=lh hk;simp only [Nat.add_zero,hk] at t0;clear hn h hk;go_enter Tryz.func50,Tryz.ntmps50
 go_wp2;go_ret;have h4:=H.out;rw [← HN.out] at h4;have hb:∀ o,Below (w.setCell ⟨rb,0,none⟩ (.slice (some ⟨tb,off + 4,none⟩) (n - 1) (cap - 1))).heap.size (w.setCell ⟨rb,0,none⟩ (.slice (some ⟨tb,off + 4,none⟩) (n - 1) (cap - 1))) ((w.setCell ⟨rb,0,none⟩ (.slice (some ⟨tb,off + 4,none⟩) (n - 1) (cap - 1))).alloc o):=fun o=>(Y2 _ _).alloc (Y0 _) o;exact ⟨rfl,⟨tb,off + 4,cap - 1,h4.below (hb _)⟩,((RFr.refl w rb).set _ _).trans (RFr.below (hb _))⟩
theorem Z0a (w:World) (rb:Nat) (kind:Int) (text:ByteArray) (p:Option Addr) (m c:Nat) :
 Calls Tryz.prog 28 #[.pointer (some ⟨rb,0,none⟩),.int .i64 kind,.string text,.slice p m c] w fun e w'=>e=.returned (.pointer (some ⟨w.heap.size,0,none⟩))∧w'=w.alloc (.cells #[.int .i64 kind,.string text,.int .i64 0,.slice p m c] 34):=by
 go_enter Tryz.func28,Tryz.ntmps28
 go_wp2;go_ret;exact ⟨rfl,rfl⟩
theorem Z04 (w:World) (rb B:Nat) (ts:List Tok) (d:Nat) (p:PR) (r:Except (Int×Nat) (Tree×List Tok)) (hR:Rd w rb ts d) (hd:d < 1000) (hB:rb < B) (hr:Z00 d ts p=some r)
 (HC:d + 1≤30→p=some r→∀ w1,Rd w1 rb ts (d + 1)→w1.heap.size=w.heap.size→Calls Tryz.prog 31 #[.pointer (some ⟨rb,0,none⟩)] w1 (Z01 w1 rb B (d + 1) r)) :
 Calls Tryz.prog 30 #[.pointer (some ⟨rb,0,none⟩),.func (.func 31) #[.pointer (some ⟨rb,0,none⟩)] #[]] w (Z01 w rb B d r):=by
 obtain ⟨tb,off,cap,h⟩:=hR;have c1:=h.c1;have z1:=h.fz 1;have hrt:=h.rlt;have hS:Rd (w.setCell ⟨rb,1,none⟩ (.int .i64 ((d:Int) + 1))) rb ts (d + 1):=⟨tb,off,cap,h.deep (by omega)⟩
 have HS:=lh hS;have HH:=lh h;have HC:=lh HC;clear h hS;unfold Z00 at hr;by_cases hd30:30 < d + 1
 ·rw [Y5 hd30] at hr;obtain rfl := Yc hr;have hd' : decide ((d : Int) + 1 > 30) = true := by simp; omega
  have HF:=lh (Z1r _ rb ts (d + 1) 4 HS.out);clear hr;go_enter Tryz.func30,Tryz.ntmps30
  go_wp2_with fail
  refine HF.out.mono ?_;rintro e w2 ⟨⟨b,rfl,h1,h2⟩,hB⟩;rw [Yf] at h1;refine ⟨rfl,⟨b,rfl,h1,h2⟩,?_⟩;exact ((RFr.refl w rb).set 1 _).trans (RFr.below hB)
 ·rw [Y3 hd30] at hr;have hsz : (w.setCell ⟨rb, 1, none⟩ (.int .i64 ((d : Int) + 1))).heap.size = w.heap.size := Yf ..;have HX := lh (HC.out (by omega) hr _ HS.out hsz);have HSZ := lh hsz;clear hsz hr;go_enter Tryz.func30, Tryz.ntmps30
  go_wp2_with fail
  refine HX.out.mono ?_;rcases r with ⟨c,p⟩ | ⟨t,ts'⟩
  ·rintro e w2 ⟨⟨b,rfl,h1,h2⟩,hF⟩;rw [HSZ.out] at h1;exact ⟨rfl,⟨b,rfl,h1,h2⟩,((RFr.refl w rb).set 1 _).trans hF⟩
  ·rintro e w2 ⟨a,rfl,hG,⟨tb2,off2,cap2,h2⟩,hF⟩;have k1:=h2.c1;have kz:=h2.fz 1;have H2:=lh h2;have HG:=lh hG;have HF:=lh hF;clear hG h2 hF;go_wp2;go_ret;exact ⟨a,rfl,(HG.out.rfr hB ((RFr.refl w2 rb).set _ _)).pre ((RFr.refl w rb).set 1 _),⟨tb2,off2,cap2,H2.out.deep (by omega)⟩,(((RFr.refl w rb).set 1 _).trans HF.out).set 1 _⟩
theorem Z6w (w:World) (rb B:Nat) (ts:List Tok) (d:Nat) (p:PR) (r:Except (Int×Nat) (Tree×List Tok)) (hR:Rd w rb ts d) (hd:d < 1000) (hB:rb < B) (hr:Z00 d ts p=some r)
 (HC:d + 1≤30→p=some r→∀ w1,Rd w1 rb ts (d + 1)→w1.heap.size=w.heap.size→Calls Tryz.prog 65 #[.pointer (some ⟨rb,0,none⟩)] w1 (Z01 w1 rb B (d + 1) r)) :
 Calls Tryz.prog 30 #[.pointer (some ⟨rb,0,none⟩),.func (.func 65) #[.pointer (some ⟨rb,0,none⟩)] #[]] w (Z01 w rb B d r):=by
 obtain ⟨tb,off,cap,h⟩:=hR;have c1:=h.c1;have z1:=h.fz 1;have hrt:=h.rlt;have hS:Rd (w.setCell ⟨rb,1,none⟩ (.int .i64 ((d:Int) + 1))) rb ts (d + 1):=⟨tb,off,cap,h.deep (by omega)⟩
 have HS:=lh hS;have HH:=lh h;have HC:=lh HC;clear h hS;unfold Z00 at hr;by_cases hd30:30 < d + 1
 ·rw [Y5 hd30] at hr;obtain rfl := Yc hr;have hd' : decide ((d : Int) + 1 > 30) = true := by simp; omega
  have HF:=lh (Z1r _ rb ts (d + 1) 4 HS.out);clear hr;go_enter Tryz.func30,Tryz.ntmps30
  go_wp2_with fail
  refine HF.out.mono ?_;rintro e w2 ⟨⟨b,rfl,h1,h2⟩,hB⟩;rw [Yf] at h1;refine ⟨rfl,⟨b,rfl,h1,h2⟩,?_⟩;exact ((RFr.refl w rb).set 1 _).trans (RFr.below hB)
 ·rw [Y3 hd30] at hr;have hsz : (w.setCell ⟨rb, 1, none⟩ (.int .i64 ((d : Int) + 1))).heap.size = w.heap.size := Yf ..;have HX := lh (HC.out (by omega) hr _ HS.out hsz);have HSZ := lh hsz;clear hsz hr;go_enter Tryz.func30, Tryz.ntmps30
  go_wp2_with fail
  refine HX.out.mono ?_;rcases r with ⟨c,p⟩ | ⟨t,ts'⟩
  ·rintro e w2 ⟨⟨b,rfl,h1,h2⟩,hF⟩;rw [HSZ.out] at h1;exact ⟨rfl,⟨b,rfl,h1,h2⟩,((RFr.refl w rb).set 1 _).trans hF⟩
  ·rintro e w2 ⟨a,rfl,hG,⟨tb2,off2,cap2,h2⟩,hF⟩;have k1:=h2.c1;have kz:=h2.fz 1;have H2:=lh h2;have HG:=lh hG;have HF:=lh hF;clear hG h2 hF;go_wp2;go_ret;exact ⟨a,rfl,(HG.out.rfr hB ((RFr.refl w2 rb).set _ _)).pre ((RFr.refl w rb).set 1 _),⟨tb2,off2,cap2,H2.out.deep (by omega)⟩,(((RFr.refl w rb).set 1 _).trans HF.out).set 1 _⟩
theorem Z7f (w:World) (rb B:Nat) (ts:List Tok) (d:Nat) (p:PR) (r:Except (Int×Nat) (Tree×List Tok)) (hR:Rd w rb ts d) (hd:d < 1000) (hB:rb < B) (hr:Z00 d ts p=some r)
 (HC:d + 1≤30→p=some r→∀ w1,Rd w1 rb ts (d + 1)→w1.heap.size=w.heap.size→Calls Tryz.prog 73 #[.pointer (some ⟨rb,0,none⟩)] w1 (Z01 w1 rb B (d + 1) r)) :
 Calls Tryz.prog 30 #[.pointer (some ⟨rb,0,none⟩),.func (.func 73) #[.pointer (some ⟨rb,0,none⟩)] #[]] w (Z01 w rb B d r):=by
 obtain ⟨tb,off,cap,h⟩:=hR;have c1:=h.c1;have z1:=h.fz 1;have hrt:=h.rlt;have hS:Rd (w.setCell ⟨rb,1,none⟩ (.int .i64 ((d:Int) + 1))) rb ts (d + 1):=⟨tb,off,cap,h.deep (by omega)⟩
 have HS:=lh hS;have HH:=lh h;have HC:=lh HC;clear h hS;unfold Z00 at hr;by_cases hd30:30 < d + 1
 ·rw [Y5 hd30] at hr;obtain rfl := Yc hr;have hd' : decide ((d : Int) + 1 > 30) = true := by simp; omega
  have HF:=lh (Z1r _ rb ts (d + 1) 4 HS.out);clear hr;go_enter Tryz.func30,Tryz.ntmps30
  go_wp2_with fail
  refine HF.out.mono ?_;rintro e w2 ⟨⟨b,rfl,h1,h2⟩,hB⟩;rw [Yf] at h1;refine ⟨rfl,⟨b,rfl,h1,h2⟩,?_⟩;exact ((RFr.refl w rb).set 1 _).trans (RFr.below hB)
 ·rw [Y3 hd30] at hr;have hsz : (w.setCell ⟨rb, 1, none⟩ (.int .i64 ((d : Int) + 1))).heap.size = w.heap.size := Yf ..;have HX := lh (HC.out (by omega) hr _ HS.out hsz);have HSZ := lh hsz;clear hsz hr;go_enter Tryz.func30, Tryz.ntmps30
  go_wp2_with fail
  refine HX.out.mono ?_;rcases r with ⟨c,p⟩ | ⟨t,ts'⟩
  ·rintro e w2 ⟨⟨b,rfl,h1,h2⟩,hF⟩;rw [HSZ.out] at h1;exact ⟨rfl,⟨b,rfl,h1,h2⟩,((RFr.refl w rb).set 1 _).trans hF⟩
  ·rintro e w2 ⟨a,rfl,hG,⟨tb2,off2,cap2,h2⟩,hF⟩;have k1:=h2.c1;have kz:=h2.fz 1;have H2:=lh h2;have HG:=lh hG;have HF:=lh hF;clear hG h2 hF;go_wp2;go_ret;exact ⟨a,rfl,(HG.out.rfr hB ((RFr.refl w2 rb).set _ _)).pre ((RFr.refl w rb).set 1 _),⟨tb2,off2,cap2,H2.out.deep (by omega)⟩,(((RFr.refl w rb).set 1 _).trans HF.out).set 1 _⟩
end Go.Proofs.YtjcgkdfeplbajaaGreatDoor
namespace Go.Proofs.YtjcgkdfeplbajaaGreatDoor
open Go Go.RowKit
set_option maxRecDepth 100000
set_option maxHeartbeats 20000000
set_option linter.unusedVariables false
theorem Z0k {f:Nat} {job:Job} {d:Nat} {ts ts':List Tok} {t:Tree} (h:Z0 f job d ts=some (.ok (t,ts'))):ts'.length≤ts.length:=by
 have:=Z0c f job d ts t ts' h;have hl:job.least≤1:=by cases job <;> simp [Job.least]
 omega
theorem Za0 (f:Nat) (hA:Says 65 rArg .assign f):Says 52 rArg .value (f + 1):=by
 intro w rb B d ts r hP hp;have hw:Z00 d ts (Z0 f .assign (d + 1) ts)=some r:=hp;have HC:=lh (Z6w w rb B ts d _ r hP.rd (by have:=hP.deep; omega) hP.lt hw fun hd h1 w1 hR hs=>hA w1 rb B (d + 1) ts r ⟨hR,hd,hP.lt,by have:=hP.le; omega,hP.few⟩ h1);have hmf:∀ (fn:Fn) (first cap:Array Value) (w:World),(Instr.makeFunc fn first cap).run Tryz.prog w=.ok (.func fn first cap) w:=fun _ _ _ _=>rfl;clear hP hp hw hA;unfold rArg;go_enter Tryz.func52,Tryz.ntmps52
 go_wp2_with fail
 refine HC.out.mono ?_;rcases r with ⟨c,p⟩ | ⟨t,ts'⟩
 ·rintro e w2 ⟨⟨b,rfl,h1,h2⟩,hF⟩;exact ⟨rfl,⟨b,rfl,h1,h2⟩,hF⟩
 ·rintro e w2 ⟨a,rfl,hG,hR,hF⟩;have HG:=lh hG;have HR:=lh hR;have HF:=lh hF;clear hG hR hF HC;go_wp2;go_ret;exact ⟨a,rfl,HG.out,HR.out,HF.out⟩
theorem Z8w (f:Nat) (hV:Says 52 rArg .value f):Says 51 rArg .around (f + 1):=by
 intro w rb B d ts r hP hp;have hw:Z0i Z15 ts (fun ts=>Zz (Z0 f .value d ts) fun x ts=>Z0i Z16 ts fun ts=>okT x ts)=some r:=hp;have HP:=lh hP;unfold rArg;rcases Z17 hw with ⟨hs,h1⟩ | ⟨hs,rfl⟩
 ·have HC := lh (Z19 w rb ts d Z15 hP.rd hs);have H1 := lh h1;clear hP hp hw hs h1;go_enter Tryz.func51, Tryz.ntmps51
  go_wp2_with fail
  refine HC.out.mono ?_;rintro e w1 ⟨rfl,hR1,hF1⟩;have P1:=lh (HP.out.tail hR1 hF1);have F1:=lh hF1;clear hR1 hF1 HC;rcases Zp H1.out with ⟨⟨c,p⟩,hv,rfl⟩ | ⟨t,ts2,hv,h2⟩
  ·have HV := lh (hV w1 rb B d _ _ P1.out hv);clear hv;go_wp2_with fail
   refine HV.out.mono ?_;rintro e w2 ⟨⟨b,rfl,h1,h2⟩,hF⟩;exact ⟨rfl,Z01.pre F1.out (r:=.error (c,p)) ⟨⟨b,rfl,h1,h2⟩,hF⟩⟩
  ·have HV := lh (hV w1 rb B d _ _ P1.out hv);have hl := Z0k hv;have H2 := lh h2;clear hv h2;go_wp2_with fail
   refine HV.out.mono ?_;rintro e w2 ⟨a,rfl,hG,hR2,hF2⟩;have P2:=lh (P1.out.next hR2 hF2 hl);have F2:=lh (F1.out.trans hF2);have G2:=lh (hG.pre F1.out);clear hG hR2 hF2 HV hl;rcases Z17 H2.out with ⟨hs,h3⟩ | ⟨hs,rfl⟩
   ·obtain rfl := Yc h3;have HC := lh (Z19 w2 rb ts2 d Z16 P2.out.rd hs);clear hs h3;go_wp2_with fail
    refine HC.out.mono ?_;rintro e w3 ⟨rfl,hR3,hF3⟩;have R3:=lh hR3;have F3:=lh hF3;clear hR3 hF3;go_wp2;go_ret;exact ⟨a,rfl,G2.out.rfr HP.out.lt F3.out,R3.out,F2.out.trans F3.out⟩
   ·have HC := lh (Z25 w2 rb ts2 d Z16 P2.out.rd hs);clear hs;go_wp2_with fail
    refine HC.out.mono ?_;rintro e w3 ⟨⟨b,rfl,h1,h2⟩,hB⟩;exact ⟨rfl,Z01.err F2.out ⟨b,rfl,h1,h2⟩ hB⟩
 ·have HC := lh (Z25 w rb ts d Z15 hP.rd hs);clear hP hp hw hs;go_enter Tryz.func51, Tryz.ntmps51
  go_wp2_with fail
  refine HC.out.mono ?_;rintro e w3 ⟨⟨b,rfl,h1,h2⟩,hB⟩;exact ⟨rfl,Z01.err (RFr.refl _ _) ⟨b,rfl,h1,h2⟩ hB⟩
end Go.Proofs.YtjcgkdfeplbajaaGreatDoor
