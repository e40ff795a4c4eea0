/- Package tree: the reader, and the small ones of its functions. -/
import Derived.Test.YtjikfacdcdiddaaGreatDoorJ07
import Derived.Defers
import Derived.Maps.Own
import Derived.Maps.OwnOps
import Derived.Maps.RangeWalk
set_option linter.unusedSimpArgs false
set_option maxRecDepth 100000
set_option maxHeartbeats 20000000
set_option linter.unusedVariables false
namespace Go.Proofs.YtjikfacdcdiddaaGreatDoor
open Go Go.RowKit
structure RFr(w w':World)(rb:Nat):Prop where
 os:w'.os=w.os
 tape:w'.tape=w.tape
 output:w'.output=w.output
 size:w.heap.size<=w'.heap.size
 block:∀k,k<w.heap.size->k≠rb->w'.heap[k]?=w.heap[k]?
theorem RFr.refl(w:World)(rb:Nat):RFr w w rb:=⟨rfl,rfl,rfl,Y0 _,λ_ _ _=>rfl⟩
theorem RFr.trans{w w' dQ:World}{rb:Nat}(h:RFr w w' rb)(g:RFr w' dQ rb):RFr w dQ rb:=
 ⟨g.os.trans h.os,g.tape.trans h.tape,g.output.trans h.output,Y4 h.size g.size,λk hk hn=>(g.block k (Y7 hk h.size) hn).trans (h.block k hk hn)⟩
theorem RFr.below{w w':World}{rb:Nat}(h:Below w.heap.size w w'):RFr w w' rb:=⟨h.os,h.tape,h.output,h.size,λk hk _=>h.block k hk⟩
theorem RFr.drew{w w':World}{rb:Nat}(h:RFr w w' rb):RFr w w'.drew rb:=⟨h.os,h.tape,h.output,h.size,h.block⟩
theorem RFr.cell{w w':World}{rb:Nat}(h:RFr w w' rb){p:Addr}(hp:p.block<w.heap.size)(hn:p.block≠rb):w'.cell? p=w.cell? p:=Yb (h.block p.block hp hn)
def ky:Nat->List ByteArray
 |0=>[BN]
 |1=>[TZ]
 |2=>[T8]
 |3=>[TQ]
 |4=>[Tp,T2]
 |5=>[T7]
 |_=>[]
def B7(w:World)(rb:Nat):Prop:=∀lv,lv<6->∃b off cap,5<rb∧b<rb∧w.cell? ⟨5,lv,none⟩=some (.slice (some ⟨b,off,none⟩) (ky lv).length cap)∧
 (ky lv).length<=cap∧∀i x,(ky lv)[i]?=some x->w.cell? ⟨b,off+i,none⟩=some (.string x)
theorem B7.keep{w w':World}{rb:Nat}(h:B7 w rb)(hk:∀k,k<rb->w'.heap[k]?=w.heap[k]?):B7 w' rb:=by
 intro lv hl;obtain⟨b,off,cap,g,m,o,p,h5⟩:=h lv hl;exact⟨b,off,cap,g,m,(Yb (hk _ g)).trans o,p,λi x hx=>(Yb (hk b m)).trans (h5 i x hx)⟩
structure RAt(w:World)(rb tb off cap:Nat)(ts:List Tok)(d:Nat):Prop where
 blk:w.heap[rb]?=some (.cells #[.slice (some ⟨tb,off,none⟩) ts.length cap,vI d] 87 (0,0))
 le:ts.length<=cap
 most:cap<=maxLen
 ord:tb<rb
 lt:tb<w.heap.size
 cells:∀k t j x,ts[k]?=some t->t.cells[j]?=some x->w.cell? ⟨tb,off+(k*4+j),none⟩=some x
 last:∃l e,ts=l++[e]∧e.kind=6∧∀t∈l,t.kind≠6
 lev:B7 w rb
def Rd(w:World)(rb:Nat)(ts:List Tok)(d:Nat):Prop:=∃tb off cap,RAt w rb tb off cap ts d
section
variable {w w':World}{rb tb off cap d:Nat}{ts:List Tok}
theorem RAt.ne(h:RAt w rb tb off cap ts d):tb≠rb:=by have:=h.ord;omega
theorem RAt.keep(h:RAt w rb tb off cap ts d)(hs:w.heap.size<=w'.heap.size)(hr:w'.heap[rb]?=w.heap[rb]?)(ht:w'.heap[tb]?=w.heap[tb]?)(hl:∀k,k<rb->w'.heap[k]?=w.heap[k]?):RAt w' rb tb off cap ts d:=
 ⟨hr.trans h.blk,h.le,h.most,h.ord,Y7 h.lt hs,λk t j x g m=>(Yb ht).trans (h.cells k t j x g m),h.last,h.lev.keep hl⟩
theorem RAt.rlt(h:RAt w rb tb off cap ts d):rb<w.heap.size:=(Y1.1 h.blk).1
theorem RAt.below(h:RAt w rb tb off cap ts d)(g:Below w.heap.size w w'):RAt w' rb tb off cap ts d:=h.keep g.size (g.block rb h.rlt) (g.block tb h.lt) λk hk=>g.block k (Nat.lt_trans hk h.rlt)
theorem Rd.keep(h:Rd w rb ts d)(hs:w.heap.size<=w'.heap.size)(hk:∀k,k<=rb->w'.heap[k]?=w.heap[k]?):Rd w' rb ts d:=by
 obtain⟨tb,off,cap,h⟩:=h;exact⟨tb,off,cap,h.keep hs (hk rb (Y0 _)) (hk tb (Nat.le_of_lt h.ord)) λk h=>hk k (Nat.le_of_lt h)⟩
theorem Rd.below(h:Rd w rb ts d)(g:Below w.heap.size w w'):Rd w' rb ts d:=by obtain⟨tb,off,cap,h⟩:=h;exact⟨tb,off,cap,h.below g⟩
theorem Rd.rlt(h:Rd w rb ts d):rb<w.heap.size:=by obtain⟨tb,off,cap,h⟩:=h;exact h.rlt
theorem RAt.drew(h:RAt w rb tb off cap ts d):RAt w.drew rb tb off cap ts d:=h.keep (Y0 _) rfl rfl λ_ _=>rfl
theorem Rd.drew(h:Rd w rb ts d):Rd w.drew rb ts d:=by obtain⟨tb,off,cap,h⟩:=h;exact⟨tb,off,cap,h.drew⟩
theorem RAt.c0(h:RAt w rb tb off cap ts d):vC w rb 0 (.slice (some ⟨tb,off,none⟩) ts.length cap):=by simp[vC,World.cell?,h.blk]
theorem RAt.c1(h:RAt w rb tb off cap ts d):vC w rb 1 (vI d):=by simp[vC,World.cell?,h.blk]
theorem RAt.fz(h:RAt w rb tb off cap ts d)(i:Nat):w.frozen? ⟨rb,i,none⟩=false:=by simp[World.frozen?,h.blk]
theorem RAt.head(h:RAt w rb tb off cap ts d):∃l,ts=bL ts::l:=by
 obtain⟨l,e,g,_,_⟩:=h.last;cases ts with
 |nil=>simp at g
 |cons t m=>exact⟨m,rfl⟩
theorem RAt.hd(h:RAt w rb tb off cap ts d){j:Nat}{x:Value}(g:(bL ts).cells[j]?=some x):w.cell? ⟨tb,off+j,none⟩=some x:=by
 obtain⟨l,hl⟩:=h.head;have:=h.cells 0 (bL ts) j x (by rw[hl];rfl) g;simpa using this
theorem RAt.pos(h:RAt w rb tb off cap ts d):0<ts.length:=by obtain⟨l,hl⟩:=h.head;rw[hl];simp
theorem RAt.two(h:RAt w rb tb off cap ts d)(hk:(bL ts).kind≠6):2<=ts.length:=by
 obtain⟨l,e,g,m,_⟩:=h.last;cases l with
 |nil=>rw[g]at hk;exact absurd m hk
 |cons a l=>rw[g];simp
theorem RAt.tail(h:RAt w rb tb off cap ts d)(hk:(bL ts).kind≠6):RAt (w.setCell ⟨rb,0,none⟩ (.slice (some ⟨tb,off+4,none⟩) (ts.length-1) (cap-1))) rb tb (off+4) (cap-1) ts.tail d:=by
 obtain⟨l,hl⟩:=h.head;have F:=h.two hk;have G:=h.le;refine⟨?_,?_,by have:=h.most;omega,h.ord,by rw[Yf];exact h.lt,λk t j x m y=>?_,?_,?_⟩
 .have:=Zh (o:=0) (.slice (some ⟨tb,off+4,none⟩) (ts.length-1) (cap-1)) h.blk;rw[List.length_tail];exact this
 .rw[List.length_tail];omega
 .have h5:=h.cells (k+1) t j x (by rw[hl]at m ⊢;simpa using m) y;have hb:=Y8 w ⟨rb,0,none⟩ (.slice (some ⟨tb,off+4,none⟩) (ts.length-1) (cap-1)) tb h.ne;rw[show off+4+(k*4+j)=off+((k+1)*4+j) by omega];exact(Yb hb).trans h5
 .obtain⟨g,e,p,u,E⟩:=h.last;cases g with
  |nil=>rw[p]at hk;exact absurd u hk
  |cons a g=>exact⟨g,e,by rw[p];rfl,u,λt ht=>E t (List.mem_cons_of_mem _ ht)⟩
 .exact h.lev.keep λk hk=>Y8 _ _ _ _ (by simp only;omega)
theorem RAt.deep(h:RAt w rb tb off cap ts d){x:Int}{d':Nat}(hx:x=d'):RAt (w.setCell ⟨rb,1,none⟩ (vI x)) rb tb off cap ts d':=by
 subst hx;have hb:=Y8 w ⟨rb,1,none⟩ (vI (d':Int)) tb h.ne;exact⟨Zh (o:=1) (vI (d':Int)) h.blk,h.le,h.most,h.ord,by rw[Yf];exact h.lt,λk t j x g m=>(Yb hb).trans (h.cells k t j x g m),h.last,h.lev.keep λk hk=>Y8 _ _ _ _ (by simp only;omega)⟩
theorem RFr.set(h:RFr w w' rb)(o:Nat)(x:Value):RFr w (w'.setCell ⟨rb,o,none⟩ x) rb:=
 ⟨h.os,h.tape,h.output,by rw[Yf];exact h.size,λk hk hn=>(Y8 _ _ _ _ hn).trans (h.block k hk hn)⟩
end
theorem Zon{s:ByteArray}{ts:List Tok}(h:aa s ts=true):(bL ts).kind≠6:=by
 simp only[aa,Bool.and_eq_true,Bool.or_eq_true,decide_eq_true_eq]at h;omega
theorem LI(w:World)(rb:Nat)(ts:List Tok)(d:Nat)(s:ByteArray)(u:Rd w rb ts d) :
 Calls Tryz.prog 63 #[vP rb,.string s] w λe w'=>e=.returned (.bool (aa s ts))∧Below w.heap.size w w':=by
 obtain⟨tb,off,cap,h⟩:=u;have c0:=h.c0;refine Zov ?_;intro t0 t1 t2 t3;have hp:=h.pos;refine Znc ?_;intro hm dG n hn;rw[<-hn]at c0 hp dG;have y:=h.lt;have E:=h.rlt;obtain⟨B,g⟩:=zX (aa s ts)
 rw[<-g];unfold aa at g;obtain⟨⟨k,tx,F,I⟩,ht⟩:∃t,t=bL ts:=⟨_,rfl⟩
 rw[<-ht]at t0 t1 t2 t3 g;simp only[Nat.add_zero]at t0 g;clear ht hn h;have p:∀o,Below w.heap.size w (w.alloc o):=λo=>(Y2 _ _).alloc (Y0 _) o;have rW:=lh p;clear p;by_cases h5:k=5
 .subst h5;have m:B=Zg tx s:=by simpa using g
  have HB:=lh m;clear g m;exact Zv8
 have J:(k==5)=false:=Rn
 by_cases h2:k=2
 .subst h2;have m:B=Zg tx s:=by simpa using g
  have HB:=lh m;clear g m h5;exact Zv8
 have O:(k==2)=false:=Q6
 have m:B=false:=by rw[g];simp[h5,h2]
 have HB:=lh m;clear g m h5 h2;go_enter Tryz.func63,Tryz.ntmps63
 go_wp2;go_ret;rw[HB.o];exact⟨rfl,rW.o _⟩
theorem xk(w:World)(rb:Nat)(ts:List Tok)(d:Nat)(s:ByteArray)(m:Rd w rb ts d)(hs:aa s ts=false) :
 Calls Tryz.prog 96 #[vP rb,.string s] w λe w'=>e=.returned (.bool false)∧Below w.heap.size w w':=by
 have g:=LI w rb ts d s m;rw[hs]at g;have g:=lh g;clear hs m;go_enter Tryz.func96,Tryz.ntmps96
 go_wp2_with fail
 refine g.o.mono ?_;rintro e w1⟨rfl,o⟩;have p:=lh o;clear o;go_wp2;go_ret;exact⟨rfl,p.o⟩
theorem wR(w:World)(rb:Nat)(ts:List Tok)(d:Nat)(s:ByteArray)(m:Rd w rb ts d)(hs:aa s ts=true) :
 Calls Tryz.prog 96 #[vP rb,.string s] w λe w'=>e=.returned (.bool true)∧Rd w' rb ts.tail d∧RFr w w' rb:=by
 have g:=LI w rb ts d s m;rw[hs]at g;have g:=lh g;have u:=lh m;have p:=lh (Zon hs);clear hs m;go_enter Tryz.func96,Tryz.ntmps96
 go_wp2_with fail
 refine g.o.mono ?_;rintro e w1⟨rfl,o⟩;obtain⟨tb,off,cap,h⟩:=u.o.below o;have c0:=h.c0;have z0:=h.fz 0;have y:=h.two p.o;have E:=h.most;have F:=h.le;unfold maxLen at E;have H:=lh h;have G:=lh o;obtain⟨n,hn⟩:=zX ts.length
 rw[<-hn]at c0 y F;have I:=lh hn;clear o h hn g;go_wp2;go_ret;refine⟨rfl,⟨tb,off+4,cap-1,?_⟩,?_⟩
 .have:=H.o.tail p.o;rw[<-I.o]at this;exact this
 .exact(RFr.below G.o).set _ _
inductive ATree
 |mk(b:Nat)(v:Value)(kind:Int)(text:ByteArray)(n:Int)(kids:List ATree)
def ATree.b:ATree->Nat| .mk b _ _ _ _ _=>b
def ATree.v:ATree->Value| .mk _ v _ _ _ _=>v
def ATree.kind:ATree->Int| .mk _ _ k _ _ _=>k
def ATree.text:ATree->ByteArray| .mk _ _ _ t _ _=>t
def ATree.n:ATree->Int| .mk _ _ _ _ n _=>n
def ATree.kids:ATree->List ATree| .mk _ _ _ _ _ l=>l
def ATree.ptr(a:ATree):Value:=(vP a.b)
mutual
def ATree.tree:ATree->Tree
 | .mk _ _ k t n l=>.mk k t n (fs l)
def fs:List ATree->List Tree
 | []=>[]
 |a::l=>a.tree::fs l
end
mutual
def ATree.blocks:ATree->List Nat
 | .mk b v _ _ _ l=>b::(v.ownBlock.toList++Zl l)
def Zl:List ATree->List Nat
 | []=>[]
 |a::l=>a.blocks++Zl l
end
theorem Z87(l:List ATree):fs l=l.map ATree.tree:=by
 induction l with
 |nil=>rfl
 |cons a l g=>simp[fs,g]
theorem UQ(l:List ATree):Zl l=l.flatMap ATree.blocks:=by
 induction l with
 |nil=>rfl
 |cons a l g=>simp[Zl,g]
theorem Z9i(l m:List ATree):fs (l++m)=fs l++fs m:=by simp[Z87]
theorem Vq(l m:List ATree):Zl (l++m)=Zl l++Zl m:=by simp[UQ]
theorem Zx1(a:ATree):a.b∈a.blocks:=by cases a;simp[ATree.blocks,ATree.b]
inductive TreeAt(w:World)(B:Nat):ATree->Prop
 |mk {b:Nat} {v:Value} {kind:Int} {text:ByteArray} {n:Int} {kids:List ATree} (blk:w.heap[b]?=some (.cells #[vI kind,.string text,vI n,v] 42 (0,0)))
  (le:B<=b) (row:w.ownsRow B 22 1 v kids.length (kids.map ATree.ptr)) (all:∀a∈kids,TreeAt w B a):TreeAt w B (.mk b v kind text n kids)
section
variable {w w':World}{B rb:Nat}{a:ATree}
theorem TreeAt.keep(h:TreeAt w B a)(hb:∀k,B<=k->k<w.heap.size->w'.heap[k]?=w.heap[k]?):TreeAt w' B a:=by
 induction h with
 | mk blk le row _ o =>
   exact .mk ((hb _ le (Y1.1 blk).1).trans blk) le (Z2 row λg m=>hb g (row.lt g m).1 (row.lt g m).2) o
theorem TreeAt.keepB(h:TreeAt w B a)(hb:∀k∈a.blocks,w'.heap[k]?=w.heap[k]?):TreeAt w' B a:=by
 induction h with
 | @mk b v kind text n kids blk le row _ o =>
   refine .mk ((hb b QV).trans blk) le (Z2 row λg hg=>hb g Re) λa m=>o a m λk hk=>hb k ?_;simp only[ATree.blocks,UQ,List.mem_cons,List.mem_append,List.mem_flatMap];exact .inr (.inr ⟨a,m,hk⟩)
theorem TreeAt.has(h:TreeAt w B a):∀k∈a.blocks,B<=k∧k<w.heap.size:=by
 induction h with
 | @mk b v kind text n kids blk le row _ g =>
   intro k hk;simp only[ATree.blocks,UQ,List.mem_cons,List.mem_append,List.mem_flatMap,Option.mem_toList]at hk;rcases hk with rfl|hk|⟨a,m,hk⟩;·exact⟨le,(Y1.1 blk).1⟩
   .exact row.lt k hk
   .exact g a m k hk
theorem TreeAt.bel(h:TreeAt w B a)(g:Below w.heap.size w w'):TreeAt w' B a:=h.keep λk _ hk=>g.block k hk
theorem TreeAt.rfr(h:TreeAt w B a)(hr:rb<B)(f:RFr w w' rb):TreeAt w' B a:=h.keep λk hk hl=>f.block k hl O'
theorem TreeAt.drew(h:TreeAt w B a):TreeAt w.drew B a:=h.keep λ_ _ _=>rfl
theorem TreeAt.blkOf(h:TreeAt w B a):w.heap[a.b]?=some (.cells #[vI a.kind,.string a.text,vI a.n,a.v] 42 (0,0)):=by cases h;assumption
theorem TreeAt.rowOf(h:TreeAt w B a):w.ownsRow B 22 1 a.v a.kids.length (a.kids.map ATree.ptr):=by cases h;assumption
theorem TreeAt.kid(h:TreeAt w B a){k:ATree}(hk:k∈a.kids):TreeAt w B k:=by cases h;rename_i g;exact g k hk
theorem TreeAt.le(h:TreeAt w B a):B<=a.b:=by cases h;assumption
theorem TreeAt.lt(h:TreeAt w B a):a.b<w.heap.size:=(Y1.1 h.blkOf).1
theorem TreeAt.base{g:Nat}(h:TreeAt w B a)(m:g<=B):TreeAt w g a:=by
 induction h with
 |mk blk le row _ o=>exact .mk blk (Y4 m le) (Z8u m row) o
end
def TT(w:World)(base:Nat)(e:Ending)(c p:Int):Prop:=
 ∃b,e=.panicked [{v:=.iface 83 (.agg #[.iface 142 (vP b)]),recovered:=false}]∧base<=b∧w.heap[b]?=some (.cells #[vI c,vI p] 144 (0,0))
structure Got(w:World)(B:Nat)(w':World)(a:ATree)(t:Tree):Prop where
 tree:a.tree=t
 at':TreeAt w' B a
 nodup:a.blocks.Nodup
 new:∀x∈a.blocks,w.heap.size<=x∧x<w'.heap.size
theorem Got.rfr{w w' dQ:World}{B rb:Nat}{a:ATree}{t:Tree}(h:Got w B w' a t)(hr:rb<B)(f:RFr w' dQ rb):Got w B dQ a t:=
 ⟨h.tree,h.at'.rfr hr f,h.nodup,λx hx=>⟨(h.new x hx).1,Y7 (h.new x hx).2 f.size⟩⟩
theorem Got.pre{w w' dQ:World}{B rb:Nat}{a:ATree}{t:Tree}(h:Got w' B dQ a t)(f:RFr w w' rb):Got w B dQ a t:=
 ⟨h.tree,h.at',h.nodup,λx hx=>⟨Y4 f.size (h.new x hx).1,(h.new x hx).2⟩⟩
def ll(w:World)(rb B d:Nat)(r:Except (Int×Nat) (Tree×List Tok))(e:Ending)(w':World):Prop:=
 match r with
 | .ok (t,ts)=>∃a,e=.returned (vP a.b)∧Got w B w' a t∧Rd w' rb ts d∧RFr w w' rb
 | .error (c,p)=>TT w' w.heap.size e c p∧RFr w w' rb
theorem TreeAt.new{w:World}{B:Nat}{v:Value}{kind:Int}{text:ByteArray}{n:Int}{kids:List ATree}(m:B<=w.heap.size)(row:w.ownsRow B 22 1 v kids.length (kids.map ATree.ptr))(g:∀a∈kids,TreeAt w B a) :
 TreeAt (w.alloc (.cells #[vI kind,.string text,vI n,v] 42)) B (.mk w.heap.size v kind text n kids):=by
 have o:Below w.heap.size w (w.alloc (.cells #[vI kind,.string text,vI n,v] 42)):=(Y2 _ _).alloc (Y0 _) _;exact .mk (heap_alloc_new w _) m (row.alloc _) λa p=>(g a p).bel o
structure Pre(w:World)(rb B d:Nat)(ts:List Tok):Prop where
 rd:Rd w rb ts d
 deep:d<=30
 lt:rb<B
 le:B<=w.heap.size
 few:ts.length<=4000
theorem Pre.below{w w':World}{rb B d:Nat}{ts:List Tok}(h:Pre w rb B d ts)(g:Below w.heap.size w w'):Pre w' rb B d ts:=
 ⟨h.rd.below g,h.deep,h.lt,Y4 h.le g.size,h.few⟩
theorem Pre.next{w w':World}{rb B d:Nat}{ts ts':List Tok}(h:Pre w rb B d ts)(g:Rd w' rb ts' d)(f:RFr w w' rb)(hl:ts'.length<=ts.length):Pre w' rb B d ts':=
 ⟨g,h.deep,h.lt,Y4 h.le f.size,Y4 hl h.few⟩
theorem Pre.tail{w w':World}{rb B d:Nat}{ts:List Tok}(h:Pre w rb B d ts)(g:Rd w' rb ts.tail d)(f:RFr w w' rb):Pre w' rb B d ts.tail:=h.next g f (by cases ts<;>simp)
def c9(F:FuncId)(args:Nat->Array Value)(g:Job)(f:Nat):Prop:=
 ∀(w:World) (rb B d:Nat) (ts:List Tok) (r:Except (Int×Nat) (Tree×List Tok)),Pre w rb B d ts->Z3 f g d ts=some r->Calls Tryz.prog F (args rb) w (ll w rb B d r)
def cQ(rb:Nat):Array Value:=#[vP rb]
theorem ll.pre{w w1 w2:World}{rb B d:Nat}{r:Except (Int×Nat) (Tree×List Tok)}{e:Ending}(f:RFr w w1 rb)(h:ll w1 rb B d r e w2):ll w rb B d r e w2:=by
 rcases r with⟨c,p⟩|⟨t,ts⟩
 .obtain⟨⟨b,m,o,u⟩,g⟩:=h;exact⟨⟨b,m,Y4 f.size o,u⟩,f.trans g⟩
 .obtain⟨a,m,o,u,y⟩:=h;exact⟨a,m,o.pre f,u,f.trans y⟩
theorem ll.err{w w1 w2:World}{rb B d:Nat}{e:Ending}{c:Int}{p:Nat}(f:RFr w w1 rb)(h:TT w2 w1.heap.size e c p)(g:Below w1.heap.size w1 w2):ll w rb B d (.error (c,p)) e w2:=by
 obtain⟨b,m,o,u⟩:=h;exact⟨⟨b,m,Y4 f.size o,u⟩,f.trans (RFr.below g)⟩
theorem Zf{p:PR}{k:Tree->List Tok->PR}{r:Except (Int×Nat) (Tree×List Tok)}(h:Zr p k=some r):(∃e,p=some (.error e)∧r=.error e)∨∃t ts,p=some (.ok (t,ts))∧k t ts=some r:=by
 cases p with
 |none=>simp[Zr]at h
 | some x =>
   cases x with
   |error e=>exact .inl ⟨e,rfl,by simpa[Zr]using h.symm⟩
   |ok y=>obtain⟨t,ts⟩:=y;exact .inr ⟨t,ts,rfl,h⟩
theorem Sy{s:ByteArray}{ts:List Tok}{k:List Tok->PR}{r:Except (Int×Nat) (Tree×List Tok)}(h:iB s ts k=some r):(aa s ts=true∧k ts.tail=some r)∨(aa s ts=false∧r=.error (3,(bL ts).at')):=by
 unfold iB at h;by_cases hs:aa s ts=true;·rw[Y5 hs]at h;exact .inl ⟨hs,h⟩
 .rw[Y3 hs]at h;exact .inr ⟨by simpa using hs,by simpa[vg]using h.symm⟩
theorem V5{ts:List Tok}{k:ByteArray->List Tok->PR}{r:Except (Int×Nat) (Tree×List Tok)}(h:wc ts k=some r):((bL ts).kind=1∧k (bL ts).text ts.tail=some r)∨((bL ts).kind≠1∧r=.error (3,(bL ts).at')):=by
 unfold wc at h;by_cases hs:(bL ts).kind=1;·rw[Y5 hs]at h;exact .inl ⟨hs,h⟩
 .rw[Y3 hs]at h;exact .inr ⟨hs,by simpa[vg]using h.symm⟩
theorem Got.push{w0 wA w w1 w2:World}{rb B b d g cap:Nat}{v:Value}{k n:Int}{t:ByteArray}{kids:List ATree}{a:ATree}{tn X:Tree}{ts:List Tok}(hr:rb<B)(cE:B<=w0.heap.size)
 (N:Got w0 B w (.mk b v k t n kids) tn)(O:∀x∈(ATree.mk b v k t n kids).blocks,x<wA.heap.size)(A:Got wA B w a X)(F:RFr w0 w rb)(R:Rd w rb ts d)
 (p:Below w.heap.size w w1)(u:w1.grownBy w2 v.ownBlock)(af:w2.ownsRow B 22 1 (.slice (some ⟨g,0,none⟩) (kids.length+1) cap) (kids.length+1) (kids.map ATree.ptr++[a.ptr]))
 (J:v.ownBlock=some g∨w.heap.size<=g)(cY:g<w2.heap.size) :
 Got w0 B (w2.setCell ⟨b,3,none⟩ (.slice (some ⟨g,0,none⟩) (kids.length+1) cap)) (.mk b (.slice (some ⟨g,0,none⟩) (kids.length+1) cap) k t n (kids++[a])) (.mk k t n (fs kids++[X]))∧
  RFr w0 (w2.setCell ⟨b,3,none⟩ (.slice (some ⟨g,0,none⟩) (kids.length+1) cap)) rb∧Rd (w2.setCell ⟨b,3,none⟩ (.slice (some ⟨g,0,none⟩) (kids.length+1) cap)) rb ts d:=by
 have Y:=N.nodup;simp only[ATree.blocks,List.nodup_cons,List.mem_append,List.nodup_append,Option.mem_toList,not_or]at Y;obtain⟨⟨Z,ax⟩,_,ct,aR⟩:=Y;have cH:b<w.heap.size:=N.at'.lt;have fA:w0.heap.size<=b:=(N.new b QV).1;have E:∀x,v.ownBlock=some x->w0.heap.size<=x∧x<wA.heap.size∧x<w.heap.size:=λx hx=>
  ⟨(N.new x P8).1,O x P8,(N.new x P8).2⟩
 have N9:b<wA.heap.size:=O b QV;have aG:w.heap.size<=w2.heap.size:=Y4 p.size u.size;have U:(w2.setCell ⟨b,3,none⟩ (.slice (some ⟨g,0,none⟩) (kids.length+1) cap)).heap.size=w2.heap.size:=Yf ..;have cR:∀x,x<w.heap.size->v.ownBlock≠some x->w2.heap[x]?=w.heap[x]?:=λx hx hn=>(u.block x (Y7 hx p.size) (λe=>hn e.symm)).trans (p.block x hx)
 have far:∀x,x<w.heap.size->x≠b->v.ownBlock≠some x->(w2.setCell ⟨b,3,none⟩ (.slice (some ⟨g,0,none⟩) (kids.length+1) cap)).heap[x]?=w.heap[x]?:=λx hx ij hn=>(Y8 _ _ _ _ ij).trans (cR x hx hn);have gU:g≠b:=by
  rcases J with h|h;·rintro rfl;exact Z h
  .omega
 have Lq:∀x∈a.blocks,g≠x:=λx hx=>by
  have I:=A.new x hx;rcases J with h|h;·have:=E g h;omega
  .omega
 have vb:∀x∈Zl kids,g≠x:=λx hx=>by
  rcases J with h|h;·exact aR g h x hx
  .have:=(N.new x P8).2;omega
 have rl:w0.heap.size<=g:=by
  rcases J with h|h;·exact(E g h).1
  .have:=F.size;omega
 refine⟨⟨?_,?_,?_,?_⟩,⟨?_,?_,?_,?_,?_⟩,?_⟩
 .simp only[ATree.tree,Z9i,fs];rw[A.tree]
 .refine .mk ?_ N.at'.le ?_ λx hx=>?_
  .have I:=(cR b cH Z).trans N.at'.blkOf;exact Zh (o:=3) _ I
  .rw[Yi,Yl];exact Z2 af λg' ez=>Y8 _ _ _ _ (by simp only[Value.ownBlock,Option.some.injEq]at ez;rw[<-ez];exact gU)
  .rcases List.mem_append.1 hx with hx|hx
   .have hT:=N.at'.kid (k:=x) hx;refine hT.keepB λy m=>?_;have y7:y∈Zl kids:=by rw[UQ];exact List.mem_flatMap.2 ⟨x,hx,m⟩
    exact far y (hT.has y m).2 (λe=>ax (by rw[<-e];exact y7)) (λe=>aR y e y y7 rfl)
   .simp only[List.mem_singleton]at hx;subst hx;refine A.at'.keepB λy m=>?_;have I:=A.new y m;exact far y I.2 O' (λe=>by have:=E y e;omega)
 .simp only[ATree.blocks,Value.ownBlock,Vq,Zl,List.append_nil,List.nodup_cons,List.mem_append,List.nodup_append,Option.toList,List.mem_cons,List.not_mem_nil,or_false,not_or,List.nodup_nil,not_false_eq_true,true_and];refine⟨⟨λe=>gU e.symm,ax,λhm=>by have :=A.new b hm;omega⟩,⟨ct,A.nodup,λx hx y m e=>by have I:=O x (by simp[ATree.blocks,hx]);have h2:=A.new y m;omega⟩,?_⟩;rintro x rfl y m;rcases m with m|m;·exact vb y m
  .exact Lq y m
 .intro x hx;rw[U];simp only[ATree.blocks,Value.ownBlock,Vq,Zl,List.append_nil,List.mem_cons,List.mem_append,Option.toList,List.not_mem_nil,or_false]at hx;rcases hx with rfl|rfl|hx|hx;·exact⟨fA,by omega⟩
  .exact⟨rl,cY⟩
  .have:=N.new x P8;omega
  .have:=A.new x hx;omega
 .exact(u.os.trans p.os).trans F.os
 .exact(u.tape.trans p.tape).trans F.tape
 .exact(u.output.trans p.output).trans F.output
 .rw[U];have:=F.size;omega
 .intro x hx hn;have:=F.size;exact(far x O' O' (λe=>by have:=E x e;omega)).trans (F.block x hx hn)
 .have:=F.size;exact R.keep (by rw[U];exact aG) λx hx=>far x (by have:=R.rlt;omega) O' (λe=>by have:=E x e;omega)
theorem Got.text{w0 w:World}{rb B b d:Nat}{v:Value}{k n:Int}{t t':ByteArray}{kids:List ATree}{l:List Tree}{ts:List Tok}(hr:rb<B)(U:B<=w0.heap.size)
 (N:Got w0 B w (.mk b v k t n kids) (.mk k t n l))(F:RFr w0 w rb)(R:Rd w rb ts d) :
 Got w0 B (w.setCell ⟨b,1,none⟩ (.string t')) (.mk b v k t' n kids) (.mk k t' n l)∧RFr w0 (w.setCell ⟨b,1,none⟩ (.string t')) rb∧Rd (w.setCell ⟨b,1,none⟩ (.string t')) rb ts d:=by
 have m:=N.nodup;simp only[ATree.blocks,List.nodup_cons,List.mem_append,Option.mem_toList,not_or]at m;obtain⟨⟨u,E⟩,_⟩:=m;have X:w0.heap.size<=b:=(N.new b QV).1;have p:(w.setCell ⟨b,1,none⟩ (.string t')).heap.size=w.heap.size:=Yf ..;have far:∀x,x≠b->(w.setCell ⟨b,1,none⟩ (.string t')).heap[x]?=w.heap[x]?:=λx hx=>Y8 _ _ _ _ hx
 refine⟨⟨?_,?_,N.nodup,?_⟩,⟨F.os,F.tape,F.output,by rw[p];exact F.size,λx hx hn=>(far x O').trans (F.block x hx hn)⟩,R.keep O' λx hx=>far x O'⟩
 .have:=N.tree;simp only[ATree.tree,Tree.mk.injEq,true_and]at this ⊢;exact this
 .refine .mk (Zh (o:=1) _ N.at'.blkOf) N.at'.le (Z2 N.at'.rowOf λg I=>far g (λe=>u (by rw[<-e];exact I))) λx hx=>?_;have J:=N.at'.kid (k:=x) hx;refine J.keepB λy O=>far y λe=>E ?_;rw[UQ,<-e];exact List.mem_flatMap.2 ⟨x,hx,O⟩
 .intro x hx;rw[p];exact N.new x hx
theorem Got.leaf{w0 w:World}{rb B:Nat}{k:Int}{t:ByteArray}{n:Int}(g:B<=w0.heap.size)(F:RFr w0 w rb) :
 Got w0 B (w.alloc (.cells #[vI k,.string t,vI n,.slice none 0 0] 42)) (.mk w.heap.size (.slice none 0 0) k t n []) (.mk k t n []):=by
 have hs:=F.size;exact⟨rfl,TreeAt.new (Y4 g hs) (World.ownsRow_nil _ _ _ _) (λa m=>by cases m),by simp[ATree.blocks,Value.ownBlock,Zl],λx hx=>by
  simp only[ATree.blocks,Value.ownBlock,Option.toList,Zl,List.append_nil,List.mem_cons,List.not_mem_nil,or_false]at hx;subst hx;exact⟨hs,by simp⟩⟩
theorem Zkf{w:World}{B:Nat}{l:List ATree}(g:B<=w.heap.size)(hl:l.length<=1000) :
 (w.alloc (.cells (l.map ATree.ptr).toArray 22)).ownsRow B 22 1 (.slice (some ⟨w.heap.size,0,none⟩) l.length l.length) l.length (l.map ATree.ptr):=by
 refine⟨by simp,.inr ⟨w.heap.size,l.length,(l.map ATree.ptr).toArray,rfl,g,heap_alloc_new w _,Y0 _,by unfold maxLen;omega,by simp,?_⟩⟩;simp only[Nat.mul_one];exact Ye Pg
theorem Got.made{w0 w:World}{rb B:Nat}{k:Int}{t:ByteArray}{kids:List ATree}{ks:List Tree}(I:B<=w0.heap.size)(F:RFr w0 w rb)(hl:kids.length<=1000)(ht:fs kids=ks)
 (m:∀a∈kids,TreeAt w B a)(hn:(Zl kids).Nodup)(hb:∀x∈Zl kids,w0.heap.size<=x∧x<w.heap.size) :
 Got w0 B ((w.alloc (.cells (kids.map ATree.ptr).toArray 22)).alloc (.cells #[vI k,.string t,vI 0,.slice (some ⟨w.heap.size,0,none⟩) kids.length kids.length] 42))
  (.mk (w.heap.size+1) (.slice (some ⟨w.heap.size,0,none⟩) kids.length kids.length) k t 0 kids) (.mk k t 0 ks):=by
 have hs:=F.size;have o:Below w.heap.size w (w.alloc (.cells (kids.map ATree.ptr).toArray 22)):=(Y2 _ _).alloc (Y0 _) _;have g:(w.alloc (.cells (kids.map ATree.ptr).toArray 22)).heap.size=w.heap.size+1:=Pg
 refine⟨by simp[ATree.tree,ht],?_,?_,?_⟩
 .rw[<-g];exact TreeAt.new (by rw[g];omega) (Zkf O' hl) λa p=>(m a p).bel o
 .simp only[ATree.blocks,Value.ownBlock,Option.toList,List.nodup_cons,List.mem_append,List.nodup_append,List.mem_cons,List.not_mem_nil,or_false,not_or,List.nodup_nil,not_false_eq_true,true_and];refine⟨⟨by omega,λu=>by have:=hb _ u;omega⟩,hn,?_⟩;rintro x rfl y E rfl;have:=hb _ E;omega
 .intro x hx;simp only[ATree.blocks,Value.ownBlock,Option.toList,List.mem_cons,List.mem_append,List.not_mem_nil,or_false]at hx;simp only[World.size_alloc];rcases hx with rfl|rfl|hx;·omega
  .omega
  .have:=hb x hx;omega
theorem Got.two{w0 w wA:World}{rb B:Nat}{k:Int}{t:ByteArray}{a c:ATree}{g m:Tree}(o:B<=w0.heap.size)(F:RFr w0 w rb)(A:Got w0 B w a g)(p:∀x∈a.blocks,x<wA.heap.size)(E:w0.heap.size<=wA.heap.size)(C:Got wA B w c m) :
 Got w0 B ((w.alloc (.cells #[a.ptr,c.ptr] 22)).alloc (.cells #[vI k,.string t,vI 0,.slice (some ⟨w.heap.size,0,none⟩) 2 2] 42))
  (.mk (w.heap.size+1) (.slice (some ⟨w.heap.size,0,none⟩) 2 2) k t 0 [a,c]) (.mk k t 0 [g,m]):=by
 refine Got.made (kids:=[a,c]) (rb:=rb) o F Pg (by simp[fs,A.tree,C.tree]) (λx hx=>?_) ?_ ?_
 .simp only[List.mem_cons,List.not_mem_nil,or_false]at hx;rcases hx with rfl|rfl;·exact A.at'
  .exact C.at'
 .simp only[Zl,List.append_nil,List.nodup_append];exact⟨A.nodup,C.nodup,λx hx y u e=>by have I:=p x hx;have J:=C.new y u;omega⟩
 .intro x hx;simp only[Zl,List.append_nil,List.mem_append]at hx;rcases hx with hx|hx;·exact A.new x hx
  .have:=C.new x hx;omega
theorem Got.one{w0 w:World}{rb B:Nat}{k:Int}{t:ByteArray}{a:ATree}{g:Tree}(m:B<=w0.heap.size)(F:RFr w0 w rb)(A:Got w0 B w a g) :
 Got w0 B ((w.alloc (.cells #[a.ptr] 22)).alloc (.cells #[vI k,.string t,vI 0,.slice (some ⟨w.heap.size,0,none⟩) 1 1] 42))
  (.mk (w.heap.size+1) (.slice (some ⟨w.heap.size,0,none⟩) 1 1) k t 0 [a]) (.mk k t 0 [g]):=by
 refine Got.made (kids:=[a]) (rb:=rb) m F Pg (by simp[fs,A.tree]) (λx hx=>?_) ?_ ?_
 .simp only[List.mem_cons,List.not_mem_nil,or_false]at hx;rw[hx];exact A.at'
 .simpa[Zl]using A.nodup
 .intro x hx;exact A.new x (by simpa[Zl]using hx)
mutual
def uR{σ:Type}(g:σ->ATree->Bool×σ):ATree->σ->σ
 | .mk b v k t n l,s=>if(g s (.mk b v k t n l)).1 then rf g l (g s (.mk b v k t n l)).2 else(g s (.mk b v k t n l)).2
def rf{σ:Type}(g:σ->ATree->Bool×σ):List ATree->σ->σ
 | [],s=>s
 |a::l,s=>rf g l (uR g a s)
end
mutual
def ATree.subs:ATree->List ATree
 | .mk b v k t n l=>.mk b v k t n l::ox l
def ox:List ATree->List ATree
 | []=>[]
 |a::l=>a.subs++ox l
end
mutual
def ATree.many:ATree->Nat
 | .mk _ _ _ _ _ l=>xQ l+1
def xQ:List ATree->Nat
 | []=>0
 |a::l=>a.many+xQ l
end
theorem Z91{σ:Type}(g:σ->ATree->Bool×σ)(a:ATree)(s:σ):uR g a s=if(g s a).1 then rf g a.kids (g s a).2 else(g s a).2:=by
 cases a;simp only[uR,ATree.kids]
theorem Zbt{σ:Type}(g:σ->ATree->Bool×σ)(l:List ATree)(a:ATree)(s:σ):rf g (l++[a]) s=uR g a (rf g l s):=by
 induction l generalizing s with
 |nil=>simp[rf]
 |cons x l m=>simp only[List.cons_append,rf,m]
theorem WQ{a k:ATree}(h:k∈a.kids):k.many<a.many:=by
 have g:∀l:List ATree,k∈l->k.many<=xQ l:=by
  intro l;induction l with
  |nil=>intro h;cases h
  | cons x l m =>
    intro h;simp only[xQ];rcases List.mem_cons.1 h with rfl|h;·omega
    .have:=m h;omega
 obtain⟨b,v,o,t,n,l⟩:=a;have:=g l h;simp only[ATree.many];omega
theorem Z7w(a:ATree):a∈a.subs:=by cases a;simp[ATree.subs]
theorem Zcf{a k x:ATree}(h:k∈a.kids)(hx:x∈k.subs):x∈a.subs:=by
 have g:∀l:List ATree,k∈l->x∈ox l:=by
  exact Zts
 obtain⟨b,v,m,t,n,l⟩:=a;simp only[ATree.subs,List.mem_cons];exact .inr (g l h)
mutual
theorem Tw:∀a:ATree,a.tree.many=a.many
 | .mk _ _ _ _ _ l=>by simp only[ATree.tree,Tree.many,ATree.many];rw[Zbr l]
theorem Zbr:∀l:List ATree,pS (fs l)=xQ l
 | []=>rfl
 |a::l=>by simp only[fs,pS,xQ];rw[Tw a,Zbr l]
end
theorem Xz{l:List ATree}{k:Nat}{x:ATree}(h:l[k]?=some x):l.take (k+1)=l.take k++[x]:=by
 rw[List.take_add_one,h];rfl
inductive Reach{σ:Type}(g:σ->ATree->Bool×σ):ATree->σ->ATree->σ->Prop
 |self (a:ATree) (s:σ):Reach g a s a s
 |kid {a k x:ATree} {s s':σ} {i:Nat} (ok:(g s a).1=true) (hk:a.kids[i]?=some k) (h:Reach g k (rf g (a.kids.take i) (g s a).2) x s'):Reach g a s x s'
theorem Reach.sub{σ:Type}{g:σ->ATree->Bool×σ}{a x:ATree}{s s':σ}(h:Reach g a s x s'):x∈a.subs:=by
 induction h with
 |self a s=>exact Z7w a
 |kid ok hk h m=>exact Zcf (Yd hk) m
end Go.Proofs.YtjikfacdcdiddaaGreatDoor
namespace Go.Proofs.YtjikfacdcdiddaaGreatDoor
open Go Go.RowKit Go.Maps
theorem Zo{H:Type}{P:Program}(w:World){ah:Array Oper}{p:List Oper}{o:Oper}{a:Act}{Q:Exit->Act->World->Prop}
 (y:o.guard=none)(m x v:Operand)(t:TypeId)(eO:o.op=Op.insert t m x v)
 (k e:TypeId)(K:Keyed P k)(ht:P.underlying t=some (.map k e))(R:Value->Option (DataW H×List MemPlace))(b n:Nat)(D:DataW H)
 (hm:a.eval m=.map (some b))(E:w.ownsMap P k R b n D)(hn:n<maxLen)(g val:Value)(u:Lit)(hx:a.eval x=g)(hv:a.eval v=val)(F:keyOf P k g=some u)
 (d:DataW H)(ps:List MemPlace)(I:R val=some (d,ps))
 (hK:∀w',w'.ownsMap P k R b (n+1) (D.put u d)->w.grownBy w' (some b)->wpList P ah Q p (a.put o.dst undef) w') :
 wpList P ah Q (o::p) a w:=by
 refine wpList_plain y λJ BK=>?_;obtain⟨w',iw,r1,r2⟩:=E.update K ht hn F I;exact Zwp
theorem Tryz.keyedS:Keyed Tryz.prog 9:=string_keyed Yj
theorem Tryz.zeroI(w:World):(zeroValue 3).run Tryz.prog w=.ok (vI 0) w:=by kernel_rfl
theorem So{B:Nat}{w w1 w2:World}{b:Nat}(h:Below B w w1)(g:w1.grownBy w2 (some b))(hb:B<=b)(hs:B<=w1.heap.size):Below B w w2:=
 h.grown g hs λj m=>by cases m;exact hb
def SR(l:List (ByteArray×Int)):DataW Unit:=l.foldl (λD x=>D.put (.string x.1.data.toList) (.lit (.int .i64 x.2))) (.map [])
def Zte:List (ByteArray×Int):=[(BN,25),(TZ,26),(T8,27),(TQ,28),(Tp,29),(T2,30),(T7,31)]
end Go.Proofs.YtjikfacdcdiddaaGreatDoor
namespace Go.Proofs.YtjikfacdcdiddaaGreatDoor
open Go Go.RowKit
def Zy(w:World)(B:Nat)(v:Value)(l:List ByteArray):Prop:=w.ownsRow B 9 1 v l.length (l.map Value.string)
def jn(l:List ByteArray)(s:ByteArray):List ByteArray:=if Lib.containsS l s then l else l++[s]
theorem Zh2(l:List ByteArray)(s:ByteArray):(jn l s).length<=l.length+1:=by
 unfold jn;split<;>simp
theorem Zy.nil(w:World)(B:Nat):Zy w B (.slice none 0 0) []:=World.ownsRow_nil w B _ _
theorem Zy.cells{w:World}{B:Nat}{v:Value}{l:List ByteArray}(h:Zy w B v l){b:Nat}(hb:v.ownBlock=some b){j:Nat}{s:ByteArray}(hs:l[j]?=some s):w.cell? ⟨b,j,none⟩=some (.string s):=
 Zn h hb (by rw[Yg,hs];rfl)
theorem Zy.bel{w w':World}{B:Nat}{v:Value}{l:List ByteArray}(h:Zy w B v l)(g:Below w.heap.size w w'):Zy w' B v l:=
 Z2 h λk hk=>g.block k (Y9 h k hk).2
theorem Zy.form{w:World}{B:Nat}{v:Value}{l:List ByteArray}(h:Zy w B v l):(v=.slice none 0 0∧l=[])∨∃g cap,v=.slice (some ⟨g,0,none⟩) l.length cap∧l.length<=cap∧cap<=maxLen:=by
 exact Zsq
theorem Tryz.infoStr:(Tryz.prog.info? 9).map (λi=>(i.zero,i.size,i.bytes))=some (some (.string ByteArray.empty),1,16):=by kernel_rfl
theorem Zjb(w:World)(s:ByteArray) :
 Calls Tryz.prog 104 #[.slice none 0 0,.string s] w λe w'=>e=.returned (vI (-1))∧w'=w:=by
 go_enter Tryz.func104,Tryz.ntmps104
 go_wp2_with fail
 go_loopw [8] (λi wr=>wr=w∧i=(vI 0)) (λi _=>0)
 case atStart=>exact⟨rfl,rfl⟩
 case round=>
  obtain⟨rfl,rfl⟩:=hrel;go_wp2;go_ret;exact⟨rfl,rfl⟩
theorem Ze6(w:World)(s:ByteArray) :
 Calls Tryz.prog 66 #[.slice none 0 0,.string s] w λe w'=>e=.returned (.bool false)∧w'=w:=by
 have HC:=lh (Zjb w s);go_enter Tryz.func66,Tryz.ntmps66
 exact KA
theorem Vt{w:World}{B:Nat}{v:Value}{l:List ByteArray}(h:Zy w B v l)(s:ByteArray) :
 Calls Tryz.prog 66 #[v,.string s] w λe w'=>e=.returned (.bool (Lib.containsS l s))∧w'=w:=by
 rcases h.form with⟨rfl,rfl⟩|⟨g,cap,rfl,u,m⟩;·exact Ze6 w s
 .have o:=Tryz.slices_Contains_string g 0 l.length cap l s w (Y0 _) (by unfold maxLen at m;omega) (λj p=>by
   rw[Nat.zero_add];exact h.cells rfl (by rw[List.getD_eq_getElem?_getD,Y6 p];rfl))
  rwa[List.take_length]at o
theorem Zf2(w:World)(B:Nat)(v:Value)(l:List ByteArray)(s:ByteArray)(h:Zy w B v l)(O:B<=w.heap.size)(hn:l.length<1099511627776) :
 Calls Tryz.prog 37 #[v,.string s] w λe w'=>∃y,e=.returned y∧Zy w' B y (jn l s)∧Below B w w'∧∀k,k<w.heap.size->v.ownBlock≠some k->w'.heap[k]?=w.heap[k]?:=by
 obtain⟨i0,hi,U,X,Y⟩:=info_parts Tryz.infoStr;have m:=Vt h s;unfold jn;obtain⟨c,hc⟩:=zX (Lib.containsS l s)
 rw[<-hc]at m ⊢;have m:=lh m;clear hc;cases c
 .unfold Zy at h ⊢;have o:=lh h;obtain⟨n,p⟩:=zX l.length
  rw[<-p]at o hn;have Z:=lh p;clear h p;go_enter Tryz.func37,Tryz.ntmps37
  go_wp2_with fail
  refine m.o.mono ?_;rintro e w1⟨rfl,rfl⟩
  go_wp2_with (at_builtin;go_must (refine wpList_append_lies _ rfl (.tmp 9) (.tmp 11) 26 rfl B 9 i0 (.string ByteArray.empty) 1 16 Tryz.underlying26 hi U X Y rfl Pa v n (l.map Value.string) rfl (o.o.alloc _) ⟨w1.heap.size,0,none⟩ 1 1 [.string s] rfl rfl (λj u hu=>cell_one_new w1 _ _ j u hu) Pj Ph Pc Ph Ph (w1.heap.size+1) Pg ?_);intro g cap w2 E F I fO;have J:=lh F;have HW:=lh E;have HT:=lh I;clear F E I fO)
  go_ret;refine⟨_,rfl,?_,?_,?_⟩
  .simp only[<-Z.o];exact HW.o
  .exact((Y2 _ _).alloc O _).grown J.o Pe λj hj=>(Y9 o.o j hj).1
  .exact λk hk hv=>(J.o.block k Pe (λe=>hv e.symm)).trans (Below.heap_alloc _ _ _ hk)
 .have o:=lh h;clear h;go_enter Tryz.func37,Tryz.ntmps37
  go_wp2_with fail
  refine m.o.mono ?_;rintro e w1⟨rfl,rfl⟩;go_wp2;go_ret;exact⟨_,rfl,o.o,Y2 _ _,λ_ _ _=>rfl⟩
theorem Zs0(w:World)(B:Nat)(v:Value)(l:List ByteArray)(s:ByteArray)(h:Zy w B v l)(m:B<=w.heap.size)(hn:l.length<1099511627776) :
 Calls Tryz.prog 37 #[v,.string s] w λe w'=>∃g,e=.returned g∧Zy w' B g (jn l s)∧Below B w w':=
 (Zf2 w B v l s h m hn).mono λe w' ⟨g,o,p,u,_⟩=>⟨g,o,p,u⟩
theorem Zba{w:World}{base:Nat}{c p:Int}(hb:base<=w.heap.size) :
 TT (w.alloc (.cells #[vI c,vI p] 144)) base (.panicked [{v:=.iface 83 (.agg #[.iface 142 (vP w.heap.size)]),recovered:=false}]) c p:=
 ⟨w.heap.size,rfl,hb,heap_alloc_new w _⟩
theorem TT.base{w:World}{b b':Nat}{e:Ending}{c p:Int}(h:TT w b e c p)(hb:b'<=b):TT w b' e c p:=by
 obtain⟨x,g,m,o⟩:=h;exact⟨x,g,Y4 hb m,o⟩
theorem S7(w:World)(rb:Nat)(ts:List Tok)(d:Nat)(c:Int)(g:Rd w rb ts d) :
 Calls Tryz.prog 94 #[vP rb,vI c] w λe w'=>TT w' w.heap.size e c (bL ts).at'∧Below w.heap.size w w':=by
 obtain⟨tb,off,cap,h⟩:=g;have c0:=h.c0;have t3:=h.hd (j:=3) rfl;have hp:=h.pos;refine Znc ?_;intro hm dG n hn;rw[<-hn]at c0 hp dG;have m:=h.lt;have o:=h.rlt;clear hn h;go_enter Tryz.func94,Tryz.ntmps94
 go_wp2;exact⟨rfl,Zba (Y0 _),(Y2 _ _).alloc (Y0 _) _⟩
theorem RG(w:World)(rb:Nat)(ts:List Tok)(d:Nat)(s:ByteArray)(m:Rd w rb ts d)(hs:aa s ts=false) :
 Calls Tryz.prog 126 #[vP rb,.string s] w λe w'=>TT w' w.heap.size e 3 (bL ts).at'∧Below w.heap.size w w':=by
 have p:=lh (xk w rb ts d s m hs);have u:=lh m;clear hs m;go_enter Tryz.func126,Tryz.ntmps126
 go_wp2_with fail
 refine p.o.mono ?_;rintro e w1⟨rfl,g⟩;have y:=lh (S7 w1 rb ts d 3 (u.o.below g));have o:=lh g;clear g;go_wp2_with fail
 refine y.o.mono ?_;rintro e w2⟨⟨b,rfl,E,F⟩,g⟩;exact⟨rfl,⟨b,rfl,Y4 o.o.size E,F⟩,o.o.trans (g.mono o.o.size)⟩
theorem Hb(w:World)(rb:Nat)(ts:List Tok)(d:Nat)(s:ByteArray)(g:Rd w rb ts d)(hs:aa s ts=true) :
 Calls Tryz.prog 126 #[vP rb,.string s] w λe w'=>e=.returned (.tuple #[])∧Rd w' rb ts.tail d∧RFr w w' rb:=by
 have o:=lh (wR w rb ts d s g hs);clear hs g;go_enter Tryz.func126,Tryz.ntmps126
 go_wp2_with fail
 refine o.o.mono ?_;rintro e w1⟨rfl,g,m⟩;have p:=lh g;have u:=lh m;clear g m;go_wp2;go_end0
 exact⟨rfl,p.o,u.o⟩
theorem UU(w:World)(rb:Nat)(ts:List Tok)(d:Nat)(o:Rd w rb ts d)(hk:(bL ts).kind≠1) :
 Calls Tryz.prog 100 #[vP rb] w λe w'=>TT w' w.heap.size e 3 (bL ts).at'∧Below w.heap.size w w':=by
 have p:=lh o;obtain⟨tb,off,cap,h⟩:=o;have c0:=h.c0;refine Zov ?_;intro t0 t1 t2 t3;have hp:=h.pos;refine Znc ?_;intro hm dG n hn;rw[<-hn]at c0 hp dG;have I:=h.lt;have J:=h.rlt;have O:((bL ts).kind==1)=false:=QI
 have g:Below w.heap.size w (w.alloc (.cells #[(vI (bL ts).kind),.string (bL ts).text,(vI (bL ts).n),(vI (bL ts).at')] 141)):=(Y2 _ _).alloc (Y0 _) _;have u:=lh (S7 _ rb ts d 3 (p.o.below g));have m:=lh g;simp only[Nat.add_zero]at t0;clear hn h hk g;go_enter Tryz.func100,Tryz.ntmps100
 go_wp2_with fail
 refine u.o.mono ?_;rintro e w2⟨⟨b,rfl,y,E⟩,F⟩;exact⟨rfl,⟨b,rfl,Y4 m.o.size y,E⟩,m.o.trans (F.mono m.o.size)⟩
theorem Tj(w:World)(rb:Nat)(ts:List Tok)(d:Nat)(m:Rd w rb ts d)(hk:(bL ts).kind=1) :
 Calls Tryz.prog 100 #[vP rb] w λe w'=>e=.returned (.string (bL ts).text)∧Rd w' rb ts.tail d∧RFr w w' rb:=by
 obtain⟨tb,off,cap,h⟩:=m;have c0:=h.c0;refine Zov ?_;intro t0 t1 t2 t3;have p:=h.two O';have u:=h.most;have y:=h.le;have z0:=h.fz 0;unfold maxLen at u;have H:=lh (h.tail O');obtain⟨n,hn⟩:=zX ts.length
 rw[<-hn]at c0 p y;have E:=lh hn;have F:=h.lt;have I:=h.rlt;have J:=lh hk;simp only[Nat.add_zero,hk]at t0;clear hn h hk;go_enter Tryz.func100,Tryz.ntmps100
 go_wp2;go_ret;have g:=H.o;rw[<-E.o]at g;refine Vv ?_;intro hb;exact⟨rfl,⟨tb,off+4,cap-1,g.below (hb _)⟩,((RFr.refl w rb).set _ _).trans (RFr.below (hb _))⟩
theorem Zv(w:World)(rb:Nat)(kind:Int)(text:ByteArray)(p:Option Addr)(m c:Nat) :
 Calls Tryz.prog 62 #[vP rb,vI kind,.string text,.slice p m c] w λe w'=>e=.returned (vP w.heap.size)∧w'=w.alloc (.cells #[vI kind,.string text,vI 0,.slice p m c] 42):=by
 go_enter Tryz.func62,Tryz.ntmps62
 go_wp2;go_ret;exact⟨rfl,rfl⟩
theorem UV(w:World)(rb B:Nat)(ts:List Tok)(d:Nat)(p:PR)(r:Except (Int×Nat) (Tree×List Tok))(hR:Rd w rb ts d)(hd:d<1000)(hB:rb<B)(hr:vX d ts p=some r)
 (HC:d+1<=30->p=some r->∀w1,Rd w1 rb ts (d+1)->w1.heap.size=w.heap.size->Calls Tryz.prog 65 #[vP rb] w1 (ll w1 rb B (d+1) r)) :
 Calls Tryz.prog 64 #[vP rb,.func (.func 65) #[vP rb] #[]] w (ll w rb B d r):=by
 exact tq9
theorem Zc4(w:World)(rb B:Nat)(ts:List Tok)(d:Nat)(p:PR)(r:Except (Int×Nat) (Tree×List Tok))(hR:Rd w rb ts d)(hd:d<1000)(hB:rb<B)(hr:vX d ts p=some r)
 (HC:d+1<=30->p=some r->∀w1,Rd w1 rb ts (d+1)->w1.heap.size=w.heap.size->Calls Tryz.prog 127 #[vP rb] w1 (ll w1 rb B (d+1) r)) :
 Calls Tryz.prog 64 #[vP rb,.func (.func 127) #[vP rb] #[]] w (ll w rb B d r):=by
 exact tq9
theorem Ze9(w:World)(rb B:Nat)(ts:List Tok)(d:Nat)(p:PR)(r:Except (Int×Nat) (Tree×List Tok))(hR:Rd w rb ts d)(hd:d<1000)(hB:rb<B)(hr:vX d ts p=some r)
 (HC:d+1<=30->p=some r->∀w1,Rd w1 rb ts (d+1)->w1.heap.size=w.heap.size->Calls Tryz.prog 149 #[vP rb] w1 (ll w1 rb B (d+1) r)) :
 Calls Tryz.prog 64 #[vP rb,.func (.func 149) #[vP rb] #[]] w (ll w rb B d r):=by
 exact tq9
theorem RX{f:Nat}{g:Job}{d:Nat}{ts ts':List Tok}{t:Tree}(h:Z3 f g d ts=some (.ok (t,ts'))):ts'.length<=ts.length:=by
 have:=Ut f g d ts t ts' h;have hl:g.least<=1:=by cases g<;>simp[Job.least]
 omega
theorem Zi8(f:Nat)(y:c9 127 cQ .assign f):c9 102 cQ .value (f+1):=by
 intro w rb B d ts r g hp;have E:vX d ts (Z3 f .assign (d+1) ts)=some r:=hp;have F:=lh (Zc4 w rb B ts d _ r g.rd (by have:=g.deep;omega) g.lt E λhd u w1 m hs=>y w1 rb B (d+1) ts r ⟨m,hd,g.lt,by have:=g.le;omega,g.few⟩ u);refine Dz ?_;intro iV;clear g hp E y;unfold cQ;go_enter Tryz.func102,Tryz.ntmps102
 go_wp2_with fail
 refine F.o.mono ?_;rcases r with⟨c,p⟩|⟨t,ts'⟩
 .rintro e w2⟨⟨b,rfl,u,J⟩,o⟩;exact⟨rfl,⟨b,rfl,u,J⟩,o⟩
 .rintro e w2⟨a,rfl,I,m,o⟩;have O:=lh I;have U:=lh m;have X:=lh o;clear I m o F;go_wp2;go_ret;exact⟨a,rfl,O.o,U.o,X.o⟩
theorem Zfw(f:Nat)(E:c9 102 cQ .value f):c9 101 cQ .around (f+1):=by
 intro w rb B d ts r g hp;have m:iB ub ts (λts=>Zr (Z3 f .value d ts) λx ts=>iB sg ts λts=>iy x ts)=some r:=hp;have F:=lh g;unfold cQ;rcases Sy m with⟨hs,h1⟩|⟨hs,rfl⟩
 .have HC:=lh (Hb w rb ts d ub g.rd hs);have Z:=lh h1;clear g hp m hs h1;go_enter Tryz.func101,Tryz.ntmps101
  go_wp2_with fail
  refine HC.o.mono ?_;rintro e w1⟨rfl,I,o⟩;have u:=lh (F.o.tail I o);have F1:=lh o;clear I o HC;rcases Zf Z.o with⟨⟨c,p⟩,hv,rfl⟩|⟨t,J,hv,h2⟩
  .have HV:=lh (E w1 rb B d _ _ u.o hv);exact Zth
  .have HV:=lh (E w1 rb B d _ _ u.o hv);have hl:=RX hv;have H2:=lh h2;clear hv h2;go_wp2_with fail
   refine HV.o.mono ?_;rintro e w2⟨a,rfl,O,U,y⟩;have X:=lh (u.o.next U y hl);have F2:=lh (F1.o.trans y);have G2:=lh (O.pre F1.o);clear O U y HV hl;rcases Sy H2.o with⟨hs,Y⟩|⟨hs,rfl⟩
   .obtain rfl:=Yc Y;have HC:=lh (Hb w2 rb J d sg X.o.rd hs);clear hs Y;go_wp2_with fail
    refine Zrd ?_;intro w3 R3 F3;go_wp2;go_ret;exact⟨a,rfl,G2.o.rfr F.o.lt F3.o,R3.o,F2.o.trans F3.o⟩
   .have HC:=lh (RG w2 rb J d sg X.o.rd hs);exact Zvh
 .have HC:=lh (RG w rb ts d ub g.rd hs);clear g hp m hs;go_enter Tryz.func101,Tryz.ntmps101
  exact T3
theorem RN{t t':Tree}{ts ts':List Tok}(h:iy t ts=some (.ok (t',ts'))):t=t'∧ts=ts':=by simpa[iy]using h
theorem Ec{p:PR}{k:Tree->List Tok->PR}{t:Tree}{ts:List Tok}(h:Zr p k=some (.ok (t,ts))):∃x us,p=some (.ok (x,us))∧k x us=some (.ok (t,ts)):=by
 rcases Zf h with⟨e,_,he⟩|h;·cases he
 .exact h
theorem UX{s:ByteArray}{us:List Tok}{k:List Tok->PR}{t:Tree}{ts:List Tok}(h:iB s us k=some (.ok (t,ts))):aa s us=true∧k us.tail=some (.ok (t,ts)):=by
 rcases Sy h with h|⟨_,h⟩;·exact h
 .cases h
theorem Zcq{us:List Tok}{k:ByteArray->List Tok->PR}{t:Tree}{ts:List Tok}(h:wc us k=some (.ok (t,ts))):(bL us).kind=1∧k (bL us).text us.tail=some (.ok (t,ts)):=by
 rcases V5 h with h|⟨_,h⟩;·exact h
 .cases h
theorem Zjd{f d:Nat}{k:Int}{m:Bool}{us ts:List Tok}{t:Tree}(h:Z3 f (.decl k m) d us=some (.ok (t,ts))):t.kind=k:=by
 cases f with
 |zero=>cases h
 | succ f =>
   obtain⟨_,h⟩:=Zcq h;split at h;·cases h
   .split at h
    .obtain⟨x,vs,_,h⟩:=Ec h;obtain⟨rfl,_⟩:=RN h;rfl
    .obtain⟨rfl,_⟩:=RN h;rfl
theorem Zje{f d:Nat}{k:Int}{s:ByteArray}{us ts:List Tok}{t:Tree}(h:Z3 f (.func k s) d us=some (.ok (t,ts))):t.kind=k:=by
 cases f with
 |zero=>cases h
 | succ f =>
   obtain⟨_,h⟩:=UX h;obtain⟨x,vs,_,h⟩:=Ec h;obtain⟨_,h⟩:=UX h;obtain⟨x,vs,_,h⟩:=Ec h;obtain⟨rfl,_⟩:=RN h;rfl
theorem Zhs:∀{f d:Nat} {k:Int} {g:List Tree} {us ts:List Tok} {t:Tree},Z3 f (.stmts k g) d us=some (.ok (t,ts))->t.kind=k:=by
 intro f;induction f with
 |zero=>intro d k g us ts t h;cases h
 | succ f m =>
   intro d k g us ts t h;rw[Z3]at h;generalize(if k=1 then decide ((bL us).kind=6)else aa Zp us)=c at h;cases c
   .obtain⟨x,vs,_,h⟩:=Ec h;exact m h
   .obtain⟨rfl,_⟩:=RN h;rfl
theorem Zho{f d:Nat}{b:Bool}{us ts:List Tok}{t:Tree}(h:Z3 f (.block b) d us=some (.ok (t,ts))):t.kind=6:=by
 cases f with
 |zero=>cases h
 | succ f =>
   obtain⟨_,h⟩:=UX h;obtain⟨x,vs,hx,h⟩:=Ec h;obtain⟨_,h⟩:=UX h;obtain⟨g,_⟩:=RN h;cases b;·simp at g;rw[<-g];rfl
   .simp at g;rw[<-g];exact Zhs hx
theorem Zna{f d:Nat}{us ts:List Tok}{t:Tree}(h:Z3 f .try_ d us=some (.ok (t,ts))):t.kind=12:=by
 cases f with
 |zero=>cases h
 | succ f =>
   have g:∀(l:List Tree) (us:List Tok),(if aa CP us=true then Zr (Z3 f (.block false) d us.tail) λc ts=>iy (.mk 12 ByteArray.empty 0 (l++[.mk 14 ByteArray.empty 0 [c]])) ts else if l.length=1 then vg 3 us else iy (.mk 12 ByteArray.empty 0 l) us)=some (.ok (t,ts))->t.kind=12:=by
    intro l us h;by_cases c:aa CP us=true
    .rw[Y5 c]at h;obtain⟨x,vs,hx,h⟩:=Ec h;obtain⟨rfl,_⟩:=RN h;rfl
    .rw[Y3 c]at h;by_cases c2:l.length=1;·rw[Y5 c2]at h;cases h
     .rw[Y3 c2]at h;obtain⟨rfl,_⟩:=RN h;rfl
   rw[Z3]at h;obtain⟨x,vs,hx,h⟩:=Ec h;dsimp only at h
   by_cases c:aa TS vs=true
   .rw[Y5 c]at h;obtain⟨_,h⟩:=UX h;obtain⟨_,h⟩:=Zcq h;obtain⟨_,h⟩:=UX h;obtain⟨x,vs,hx,h⟩:=Ec h;exact g _ _ h
   .rw[Y3 c]at h;exact g _ _ h
theorem Zkv{f d:Nat}{us ts:List Tok}{t:Tree}(h:Z3 (f+1) .stmt d us=some (.ok (t,ts)))(hk:t.kind=15):t.kids≠[]:=by
 have cu:∀{n:Tree} {vs:List Tok},tZ n vs=some (.ok (t,ts))->n=t:=λh=>(RN (UX h).2).1;rw[Z3]at h;by_cases c0:aa CW us=true
 .rw[Y5 c0]at h;have:=Zho h;omega
 rw[Y3 c0]at h;by_cases c1:aa Ed us=true
 .rw[Y5 c1]at h;obtain⟨rfl,_⟩:=RN h;cases hk
 rw[Y3 c1]at h;by_cases c2:aa Uv us=true
 .rw[Y5 c2]at h;exact Zqa
 rw[Y3 c2]at h;by_cases c3:aa UN us=true
 .rw[Y5 c3]at h;exact Zqa
 rw[Y3 c3]at h;by_cases g:aa UD us=true
 .rw[Y5 g]at h;exact Zqa
 rw[Y3 g]at h;by_cases m:aa NR us=true
 .rw[Y5 m]at h;obtain⟨_,h⟩:=Zcq h;have:=Zje h;omega
 rw[Y3 m]at h;by_cases o:aa Ia us=true
 .rw[Y5 o]at h;obtain⟨x,vs,hx,h⟩:=Ec h;obtain⟨y,vs,hx,h⟩:=Ec h;split at h
  .obtain⟨z,vs,hx,h⟩:=Ec h;obtain⟨rfl,_⟩:=RN h;cases hk
  .obtain⟨rfl,_⟩:=RN h;cases hk
 rw[Y3 o]at h;by_cases p:aa UF us=true
 .rw[Y5 p]at h;exact Zus
 rw[Y3 p]at h;by_cases u:aa UC us=true
 .rw[Y5 u]at h;exact Zus
 rw[Y3 u]at h;by_cases E:aa UL us=true
 .rw[Y5 E]at h;split at h;·have :=cu h;subst this;cases hk
  .obtain⟨x,vs,hx,h⟩:=Ec h;have:=cu h;subst this;cases hk
 rw[Y3 E]at h;by_cases F:aa UM us=true
 .rw[Y5 F]at h;obtain⟨x,vs,hx,h⟩:=Ec h;have:=cu h;subst this;cases hk
 rw[Y3 F]at h;by_cases I:aa Uz us=true
 .rw[Y5 I]at h;have:=Zna h;omega
 rw[Y3 I]at h;obtain⟨x,vs,hx,h⟩:=Ec h;have:=cu h;subst this;simp[Tree.kids]
theorem Tryz.infoPtr:(Tryz.prog.info? 22).map (λi=>(i.zero,i.size,i.bytes))=some (some (.pointer none),1,8):=by kernel_rfl
def leftOf(w:World)(rb:Nat):Nat:=match w.cell? ⟨rb,0,none⟩with|some (.slice _ n _)=>n|_=>0
theorem Rd.left{w:World}{rb:Nat}{ts:List Tok}{d:Nat}(h:Rd w rb ts d):leftOf w rb=ts.length:=by
 obtain⟨tb,off,cap,h⟩:=h;unfold leftOf;rw[h.c0]
theorem Zhp(F:Nat)(hS:∀g,g<F->c9 65 cQ .stmt g) :
 c9 27 (λrb=>#[vP rb,vI 6,.string Zp]) (.stmts 6 []) F:=by
 intro w rb B d ts r y hp;have J:=lh (Zv w rb 6 ⟨#[]⟩ none 0 0);have HP:=lh y;have HQ:=lh hp;have HS:=lh hS;refine Dz ?_;intro iV;obtain⟨nb,O⟩:=zX w.heap.size
 have E:=Got.leaf (k:=6) (t:=⟨#[]⟩) (n:=0) y.le (RFr.refl w rb);have U:=y.rd.below ((Y2 _ _).alloc (Y0 _) (.cells #[vI 6,.string ⟨#[]⟩,vI 0,.slice none 0 0] 42));have X:RFr w (w.alloc (.cells #[vI 6,.string ⟨#[]⟩,vI 0,.slice none 0 0] 42)) rb:=RFr.below ((Y2 _ _).alloc (Y0 _) _);rw[<-O]at E J;unfold Zp;clear y hp hS;simp only;go_enter Tryz.func27,Tryz.ntmps27
 go_wp2_with fail
 refine J.o.mono ?_;rintro e w1⟨rfl,eh⟩;rw[<-eh]at E U X;have hst:∃(g:Nat) (ao:List Tree) (us:List Tok) (v:Value) (kids:List ATree),g<=F∧Z3 g (.stmts 6 ao) d us=some r∧Got w B w1 (.mk nb v 6 ⟨#[]⟩ 0 kids) (.mk 6 ⟨#[]⟩ 0 ao)∧Rd w1 rb us d∧RFr w w1 rb∧ao.length+us.length<=ts.length∧(∀x∈ao,x.kind=15->x.kids≠[]):=
  ⟨F,[],ts,_,[],Y0 _,HQ.o,E,U,X,by simp,λx hx=>by cases hx⟩
 have Y:=lh hst;have th:=lh O;clear hst eh E U X J O;go_wp2_with fail
 go_loopw [] (λwr=>∃(g:Nat) (ao:List Tree) (us:List Tok) (v:Value) (kids:List ATree),g<=F∧Z3 g (.stmts 6 ao) d us=some r∧Got w B wr (.mk nb v 6 ⟨#[]⟩ 0 kids) (.mk 6 ⟨#[]⟩ 0 ao)∧Rd wr rb us d∧RFr w wr rb∧ao.length+us.length<=ts.length∧(∀x∈ao,x.kind=15->x.kids≠[])) (λwr=>leftOf wr rb)
 case atStart=>exact Y.o
 case round=>
  obtain⟨g,ao,us,v,kids,hg,hq,Z,u,hF,hl,hx⟩:=hrel;have G:=lh Z;have R:=lh u;have FF:=lh hF;have HX:=lh hx;have RL:=lh u.left;cases g with
  |zero=>cases hq
  |succ g=>
  rw[Z3]at hq;have m:=LI wr rb us d Zp u;by_cases hb:aa Zp us=true
  ·rw [hb] at m;rw [Y5 (by rw [Y3 O']; exact hb)] at hq;have hr := Yc hq;have tC := lh hr.symm;have m := lh m;unfold Zp at m;clear Z u hF hq hr hb hx Y;go_wp2_with fail
   refine m.o.mono ?_;rintro e w2⟨rfl,au⟩;refine Zwu ?_;intro aA F2 G2 R2 ac ae;have I:vC w2 nb 3 v:=Pd
   have nz:w2.frozen? ⟨nb,1,none⟩=false:=PK
   have Lr:vC w2 nb 1 (.string ⟨#[]⟩):=Pd
   have l9:=G2.o.tree;simp only[ATree.tree,Tree.mk.injEq,true_and]at l9;have pW:TU ao=false->ll w rb B d r (.returned (vP nb)) w2:=λh=>by
    rw[tC.o,h];exact⟨_,rfl,G2.o,R2.o,F2.o⟩
   have pG:=lh pW;have pX:TU ao=true->ll w rb B d r (.returned (vP nb)) (w2.setCell ⟨nb,1,none⟩ (.string RB)):=λh=>by
    exact Zwi
   have yq:=lh pX;have kA:=lh l9;have bO:∀a∈kids,TreeAt w2 B a:=λa ha=>G2.o.at'.kid (k:=a) ha;have lZ:=lh bO;clear au ac pW pX l9 bO m FF G R;cases kids with
   | nil =>
     exact XO
   | cons a0 ks =>
     rcases Z4 ae with⟨_,h0⟩|⟨g0,gf,rfl,k1,k2,k3⟩;·simp at h0
     have p0:=Zn ae (g:=g0) rfl (i:=0) (x:=a0.ptr) rfl;have rR:=lZ.o a0 Pg;have fA:=rR.blkOf;have rQ:=rR.rowOf;have mC:=HX.o a0.tree (by rw[<-kA.o];simp[fs]);obtain⟨b0,v0,xu,t0,n0,l0⟩:=a0;simp only[ATree.b,ATree.v,ATree.kind,ATree.text,ATree.n,ATree.kids,ATree.ptr,List.length_cons]at fA rQ p0 k1 I ⊢;unfold maxLen at k2;have d0:vC w2 b0 0 (vI xu):=QA
     have d3:vC w2 b0 3 v0:=QA
     by_cases xv:xu=15
     .subst xv;cases l0 with
      |nil=>exact absurd rfl (mC rfl)
      |cons x xs=>
      rcases Z4 rQ with⟨_,h0⟩|⟨g1,DY,rfl,j1,j2,j3⟩;·simp at h0
      have p1:=Zn rQ (g:=g1) rfl (i:=0) (x:=x.ptr) rfl;have ai:=(rR.kid (k:=x) (by simp[ATree.kids])).blkOf;obtain⟨b1,v1,xp,t1,n1,l1⟩:=x;simp only[ATree.b,ATree.v,ATree.kind,ATree.text,ATree.n,ATree.ptr,List.length_cons]at ai p1 j1 d3;unfold maxLen at j2;have e0:vC w2 b1 0 (vI xp):=QB
      have e1:vC w2 b1 1 (.string t1):=QB
      exact Xj
     .exact Zvz
  .have dB:aa Zp us=false:=by simpa using hb
   rw[dB]at m;rw[Y3 (by rw[Y3 O'];exact hb)]at hq;have m:=lh m;unfold Zp at m;have cC:=lh hq;clear Z u hF hq hb dB hx Y;go_wp2_with fail
   refine m.o.mono ?_;rintro e w2⟨rfl,au⟩;have F2:=FF.o.trans (RFr.below (rb:=rb) au);have G2:=G.o.rfr HP.o.lt (RFr.below (rb:=rb) au);have R2:=R.o.below au;have I:vC w2 nb 3 v:=Py
   have F2:=lh F2;have G2:=lh G2;have R2:=lh R2;clear au m FF G R;go_wp2_with fail
   refine Z8 [0,2,4,6,8,10,12,14,17,19,21] [11,12,13] (λW=>vC W nb 3 v) I λ_=>?_;refine dW ?_
   iterate 8
    refine dV ?_
   refine Z6 (λK hK=>?_);go_simp
   have aA:=HP.o.lt;have pY:RFr w2 w2.drew rb:=(RFr.refl w2 rb).drew;have jM:us.length<=4000:=Q9
   have sn:B<=w2.drew.heap.size:=Y4 HP.o.le F2.o.size;rcases Zf cC.o with⟨⟨c,p⟩,hv,rfl⟩|⟨t,vs,hv,gV⟩
   .refine(UV w2.drew rb B us d _ _ R2.o.drew Qz aA hv λhd h1 w1 dF hs=>HS.o g O' w1 rb B (d+1) us _ ⟨dF,hd,aA,by omega,jM⟩ h1).mono ?_;exact Zt8
   .have dA:vs.length<us.length:=Leaves.within (Ut g .stmt (d+1) us) t vs hv;have pu:t.kind=15->t.kids≠[]:=by
     exact Zub
    have GT:=lh pu;have m':=lh gV;refine(UV w2.drew rb B us d _ _ R2.o.drew Qz aA hv λhd h1 w1 dF hs=>HS.o g O' w1 rb B (d+1) us _ ⟨dF,hd,aA,by omega,jM⟩ h1).mono ?_;rintro e w3⟨a,rfl,hA,bK,bq⟩;have iM:RFr w2 w3 rb:=pY.trans bq;have eM:=G2.o.rfr aA iM;refine sJ ?_;intro ac;have m3:vC w3 nb 3 v:=Pd
    refine SY ?_;intro mz de;refine Ue ?_;intro dJ;refine Zwn ?_;intro aK ba gz N3 A3 R3 F3 NE fL;refine s5 ?_;intro i0 hi aD bo bT;clear hK K hA bK bq iM eM ac dJ aK pu gV hv ba I pY;refine ta ?_;intro K hK;refine Yz ?_;intro gg cap w4 aT aC bX cg m4;refine RF ?_;clear hK K;intro lT;have aj:=Got.push aA HP.o.le N3.o (wA:=w2.drew) (λx hx=>(G2.o.new x hx).2) A3.o F3.o R3.o ((Y2 _ _).alloc (Y0 _) _) aC aT Pk cg;exact tr7
def jm(w:World)(B:Nat)(v:Value)(l:List ATree):Prop:=w.ownsRow B 22 1 v l.length (l.map ATree.ptr)
theorem jm.nil(w:World)(B:Nat):jm w B (.slice none 0 0) []:=World.ownsRow_nil w B _ _
theorem jm.bel{w w':World}{B:Nat}{v:Value}{l:List ATree}(h:jm w B v l)(g:Below w.heap.size w w'):jm w' B v l:=
 Z2 h λk hk=>g.block k (Y9 h k hk).2
theorem jm.form{w:World}{B:Nat}{v:Value}{l:List ATree}(h:jm w B v l):(v=.slice none 0 0∧l=[])∨∃g cap,v=.slice (some ⟨g,0,none⟩) l.length cap∧l.length<=cap∧cap<=maxLen:=by
 exact Zsq
theorem jm.cell{w:World}{B:Nat}{v:Value}{l:List ATree}(h:jm w B v l){b:Nat}(hb:v.ownBlock=some b){j:Nat}{x:ATree}(hs:l[j]?=some x):w.cell? ⟨b,j,none⟩=some (vP x.b):=
 Zn h hb (by rw[Yg,hs];rfl)
def wW(a:ATree):Bool:=a.kind==5
def wH(a:ATree):Bool:=a.kind==3||a.kind==4
theorem Zaf{p:ATree->Bool}{l:List ATree}{k:Nat}{x:ATree}(h:l[k]?=some x):(l.take (k+1)).filter p=if p x then(l.take k).filter p++[x]else(l.take k).filter p:=by
 rw[Xz h,List.filter_append];by_cases hp:p x<;>simp[hp]
theorem Vw(w:World)(B0:Nat)(a:ATree)(hT:TreeAt w B0 a)(hn:a.kids.length<1099511627776) :
 Calls Tryz.prog 20 #[a.ptr] w λe w'=>∃v,e=.returned v∧jm w' w.heap.size v (a.kids.filter wW)∧Below w.heap.size w w':=by
 refine Zt1 ?_;intro i0 hi aD bo bT ac ae p cp hv cr c3 aH HT HV;unfold ATree.ptr;obtain⟨n,m⟩:=zX a.kids.length
 rw[<-m]at c3 aH hn cr;have HN:=lh m;clear ac ae hv m hT;go_enter Tryz.func20,Tryz.ntmps20
 go_wp2_with fail
 go_loopw [3,13] (λv i wr=>∃(k:Nat) (J:Value),J=v∧k<=n∧i=(vI k)∧Hid (jm wr w.heap.size J ((a.kids.take k).filter wW))∧Hid (Below w.heap.size w wr)) (λ_ i _=>n-(intOf i).toNat)
 case atStart=>exact⟨0,_,rfl,Yh _,rfl,lh (jm.nil _ _),lh (Y2 _ _)⟩
 case round=>
  obtain⟨k,v,rfl,hk,rfl,HR,HB⟩:=hrel;by_cases bV:k<n
  .obtain⟨x,hx⟩:∃x,a.kids[k]? =some x:=⟨_,Y6 Pu⟩
   have o:=HT.o.bel HB.o;have ae:=o.rowOf;rcases Z4 ae with⟨_,h2⟩|⟨g0,gf,fG,_⟩;·rw[<-HN.o]at h2;omega
   have hp:p=some ⟨g0,0,none⟩:=by
    exact S6
   subst hp;refine NP ?_;intro cx;unfold ATree.ptr at cx;have O:=o.kid (Yd hx);have ck:vC wr x.b 0 (vI x.kind):=by simp[vC,World.cell?,O.blkOf]
   have U:(a.kids.take (k+1)).filter wW=_:=Zaf (p:=wW) hx;have y:=lh U;have nC:((a.kids.take k).filter wW).length<=k:=Y4 (List.length_filter_le _ _) Pe;have be:=HB.o.size;clear o ae fG O U;obtain⟨E,F⟩:=zX x.kind
   rw[<-F]at ck;have X:=lh F;clear F hx;rcases(by omega:E=5∨E≠5)with h5|h5
   .subst h5;obtain⟨L,I⟩:=zX ((a.kids.take k).filter wW)
    rw[<-I]at nC y HR;have HL:=lh I;unfold jm at HR;clear I
    go_wp2_with (at_builtin;go_must (refine wpList_append_lies _ rfl (.tmp 22) (.tmp 24) 40 rfl w.heap.size 22 i0 (.pointer none) 1 8 Tryz.underlying40 hi aD bo bT rfl Pa v L.length (L.map ATree.ptr) rfl (HR.o.alloc _) ⟨wr.heap.size,0,none⟩ 1 1 [vP x.b] rfl rfl (λj u hu=>cell_one_new wr _ _ j u hu) Pj Ph Pc Ph Ph (wr.heap.size+1) Pg ?_);intro g cap w2 Y Z ch fO;have HG:=lh Z;have HW:=lh Y;have gr:=lh ch;clear Z Y ch fO)
    go_roundw
    case rel=>
     refine⟨k+1,_,rfl,by omega,by go_num,lh ?_,lh ?_⟩
     .rw[y.o,Y5 (by simp[wW,<-X.o])];unfold jm;rw[Yi,Yl];exact HW.o
     .exact Xc
    case measure=>simp[intOf];omega
   .have n5:(E==5)=false:=by simpa using h5
    clear h5;go_wp2;go_roundw
    case rel=>
     refine⟨k+1,_,rfl,by omega,by go_num,lh ?_,HB⟩;rw[y.o,Y3 (by simp[wW,<-X.o,n5])];exact HR.o
    case measure=>simp[intOf];omega
  .have aR:k=n:=by omega
   subst aR;go_wp2;go_ret;refine⟨_,rfl,?_,HB.o⟩;have:=HR.o;rwa[Ye PS]at this
theorem Va(w:World)(B0:Nat)(a:ATree)(hT:TreeAt w B0 a)(hn:a.kids.length<1099511627776) :
 Calls Tryz.prog 42 #[a.ptr] w λe w'=>∃v,e=.returned v∧jm w' w.heap.size v (a.kids.filter wH)∧Below w.heap.size w w':=by
 refine Zt1 ?_;intro i0 hi aD bo bT ac ae p cp hv cr c3 aH HT HV;unfold ATree.ptr;obtain⟨n,J⟩:=zX a.kids.length
 rw[<-J]at c3 aH hn cr;have HN:=lh J;clear ac ae hv J hT;go_enter Tryz.func42,Tryz.ntmps42
 go_wp2_with fail
 go_loopw [3,13] (λv i wr=>∃(k:Nat) (Y:Value),Y=v∧k<=n∧i=(vI k)∧Hid (jm wr w.heap.size Y ((a.kids.take k).filter wH))∧Hid (Below w.heap.size w wr)) (λ_ i _=>n-(intOf i).toNat)
 case atStart=>exact⟨0,_,rfl,Yh _,rfl,lh (jm.nil _ _),lh (Y2 _ _)⟩
 case round=>
  obtain⟨k,v,rfl,hk,rfl,HR,HB⟩:=hrel;by_cases bV:k<n
  .obtain⟨x,hx⟩:∃x,a.kids[k]? =some x:=⟨_,Y6 Pu⟩
   have O:=HT.o.bel HB.o;have ae:=O.rowOf;rcases Z4 ae with⟨_,h2⟩|⟨g0,gf,fG,_⟩;·rw[<-HN.o]at h2;omega
   have hp:p=some ⟨g0,0,none⟩:=by
    exact S6
   subst hp;refine NP ?_;intro cx;unfold ATree.ptr at cx;have Z:=O.kid (Yd hx);have ck:vC wr x.b 0 (vI x.kind):=by simp[vC,World.cell?,Z.blkOf]
   have r8:(a.kids.take (k+1)).filter wH=_:=Zaf (p:=wH) hx;have HF:=lh r8;have nC:((a.kids.take k).filter wH).length<=k:=Y4 (List.length_filter_le _ _) Pe;have be:=HB.o.size;clear O ae fG Z r8;obtain⟨o,U⟩:=zX x.kind
   rw[<-U]at ck;have kS:=lh U;clear U hx;rcases(by omega:o=3∨o=4∨(o≠3∧o≠4))with y|y|⟨y,h4⟩
   .subst y;obtain⟨L,m⟩:=zX ((a.kids.take k).filter wH)
    rw[<-m]at nC HF HR;have HL:=lh m;unfold jm at HR;clear m
    go_wp2_with (at_builtin;go_must (refine wpList_append_lies _ rfl (.tmp 29) (.tmp 31) 40 rfl w.heap.size 22 i0 (.pointer none) 1 8 Tryz.underlying40 hi aD bo bT rfl Pa v L.length (L.map ATree.ptr) rfl (HR.o.alloc _) ⟨wr.heap.size,0,none⟩ 1 1 [vP x.b] rfl rfl (λj u hu=>cell_one_new wr _ _ j u hu) Pj Ph Pc Ph Ph (wr.heap.size+1) Pg ?_);intro g cap w2 E F I X;have HG:=lh F;have HW:=lh E;have gr:=lh I;clear F E I X)
    exact Yx
   .subst y;obtain⟨L,m⟩:=zX ((a.kids.take k).filter wH)
    rw[<-m]at nC HF HR;have HL:=lh m;unfold jm at HR;clear m
    go_wp2_with (at_builtin;go_must (refine wpList_append_lies _ rfl (.tmp 29) (.tmp 31) 40 rfl w.heap.size 22 i0 (.pointer none) 1 8 Tryz.underlying40 hi aD bo bT rfl Pa v L.length (L.map ATree.ptr) rfl (HR.o.alloc _) ⟨wr.heap.size,0,none⟩ 1 1 [vP x.b] rfl rfl (λj u hu=>cell_one_new wr _ _ j u hu) Pj Ph Pc Ph Ph (wr.heap.size+1) Pg ?_);intro g cap w2 E F I X;have HG:=lh F;have HW:=lh E;have gr:=lh I;clear F E I X)
    exact Yx
   .have n3:(o==3)=false:=by simpa using y
    have n4:(o==4)=false:=QJ
    clear y h4;go_wp2;go_roundw
    case rel=>
     refine⟨k+1,_,rfl,by omega,by go_num,lh ?_,HB⟩;rw[HF.o,Y3 (by simp[wH,<-kS.o,n3,n4])];exact HR.o
    case measure=>simp[intOf];omega
  .have aR:k=n:=by omega
   subst aR;go_wp2;go_ret;refine⟨_,rfl,?_,HB.o⟩;have:=HR.o;rwa[Ye PS]at this
