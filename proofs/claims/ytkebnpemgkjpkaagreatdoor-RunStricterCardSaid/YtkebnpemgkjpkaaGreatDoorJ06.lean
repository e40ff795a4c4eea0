import Derived.Test.YtkebnpemgkjpkaaGreatDoorJ05
set_option maxRecDepth 100000
set_option maxHeartbeats 20000000
set_option linter.all false
namespace Go.Proofs.YtkebnpemgkjpkaaGreatDoor
open Go Go.RowKit Go.Proofs.Tryz Tryz
structure RFr(w w':kV)(rb:Nat):Prop where
 os:w'.os=w.os
 tape:w'.tape=w.tape
 output:w'.output=w.output
 size:w.heap.size<=w'.heap.size
 block:∀k,k<w.heap.size->k≠rb->w'.heap[k]?=w.heap[k]?
theorem RFr.refl(w:kV)(rb:Nat):RFr w w rb:=⟨rfl,rfl,rfl,Y0 _,λ_ _ _=>rfl⟩
theorem RFr.trans{w w' dL:kV}{rb:Nat}(h:RFr w w' rb)(g:RFr w' dL rb):RFr w dL rb:=
 ⟨g.os.trans h.os,g.tape.trans h.tape,g.output.trans h.output,Y4 h.size g.size,λk hk hn=>(g.block k (Y7 hk h.size) hn).trans (h.block k hk hn)⟩
theorem RFr.below{w w':kV}{rb:Nat}(h:kW w w'):RFr w w' rb:=⟨h.os,h.tape,h.output,h.size,λk hk _=>h.block k hk⟩
theorem RFr.drew{w w':kV}{rb:Nat}(h:RFr w w' rb):RFr w w'.drew rb:=⟨h.os,h.tape,h.output,h.size,h.block⟩
def j4:Nat->List kB
 |0=>[Hs]
 |1=>[V0]
 |2=>[Wc]
 |3=>[Vt]
 |4=>[U5,Vn]
 |5=>[V5]
 |_=>[]
def Gv(w:kV)(rb:Nat):Prop:=∀lv,lv<6->∃b off cap,5<rb/\b<rb/\w.cell? ⟨5,lv,none⟩=some (.slice (some ⟨b,off,none⟩) (j4 lv).length cap)/\
 (j4 lv).length<=cap/\∀i x,(j4 lv)[i]?=some x->w.cell? ⟨b,off+i,none⟩=some (.string x)
def Gv.keep{w w':kV}{rb:Nat}(h:Gv w rb)(hk:∀k,k<rb->w'.heap[k]?=w.heap[k]?):Gv w' rb:=by
 intro lv hl;obtain⟨b,off,cap,h1,g,m,p,h5⟩:=h lv hl;exact⟨b,off,cap,h1,g,(Yb (hk _ h1)).trans m,p,λi x hx=>(Yb (hk b g)).trans (h5 i x hx)⟩
structure RAt(w:kV)(rb tb off cap:Nat)(ts:List Tok)(d:Nat):Prop where
 blk:w.heap[rb]?=some (.cells #[.slice (some ⟨tb,off,none⟩) ts.length cap,vI d] 86 (0,0))
 le:ts.length<=cap
 most:cap<=maxLen
 ord:tb<rb
 lt:tb<w.heap.size
 cells:∀k t j x,ts[k]?=some t->t.cells[j]?=some x->w.cell? ⟨tb,off+(k*4+j),none⟩=some x
 last:∃l e,ts=l++[e]/\e.kind=6/\∀t∈l,t.kind≠6
 lev:Gv w rb
def Rd(w:kV)(rb:Nat)(ts:List Tok)(d:Nat):Prop:=∃tb off cap,RAt w rb tb off cap ts d
section
variable {w w':kV}{rb tb off cap d:Nat}{ts:List Tok}
theorem RAt.ne(h:RAt w rb tb off cap ts d):tb≠rb:=by have:=h.ord;omega
theorem RAt.keep(h:RAt w rb tb off cap ts d)(hs:w.heap.size<=w'.heap.size)(hr:w'.heap[rb]?=w.heap[rb]?)(ht:w'.heap[tb]?=w.heap[tb]?)(hl:∀k,k<rb->w'.heap[k]?=w.heap[k]?):RAt w' rb tb off cap ts d:=
 ⟨hr.trans h.blk,h.le,h.most,h.ord,Y7 h.lt hs,λk t j x h1 g=>(Yb ht).trans (h.cells k t j x h1 g),h.last,h.lev.keep hl⟩
theorem RAt.rlt(h:RAt w rb tb off cap ts d):rb<w.heap.size:=(Y1.1 h.blk).1
theorem RAt.below(h:RAt w rb tb off cap ts d)(g:kW w w'):RAt w' rb tb off cap ts d:=h.keep g.size (g.block rb h.rlt) (g.block tb h.lt) λk hk=>g.block k (Nat.lt_trans hk h.rlt)
theorem Rd.keep(h:Rd w rb ts d)(hs:w.heap.size<=w'.heap.size)(hk:∀k,k<=rb->w'.heap[k]?=w.heap[k]?):Rd w' rb ts d:=by
 obtain⟨tb,off,cap,h⟩:=h;exact⟨tb,off,cap,h.keep hs (hk rb (Y0 _)) (hk tb (Nat.le_of_lt h.ord)) λk h=>hk k (Nat.le_of_lt h)⟩
theorem Rd.below(h:Rd w rb ts d)(g:kW w w'):Rd w' rb ts d:=by obtain⟨tb,off,cap,h⟩:=h;exact⟨tb,off,cap,h.below g⟩
theorem Rd.rlt(h:Rd w rb ts d):rb<w.heap.size:=by obtain⟨tb,off,cap,h⟩:=h;exact h.rlt
theorem RAt.drew(h:RAt w rb tb off cap ts d):RAt w.drew rb tb off cap ts d:=h.keep (Y0 _) rfl rfl λ_ _=>rfl
theorem Rd.drew(h:Rd w rb ts d):Rd w.drew rb ts d:=by obtain⟨tb,off,cap,h⟩:=h;exact⟨tb,off,cap,h.drew⟩
theorem RAt.c0(h:RAt w rb tb off cap ts d):w.cell? ⟨rb,0,none⟩=some (.slice (some ⟨tb,off,none⟩) ts.length cap):=by simp[vC,World.cell?,h.blk]
theorem RAt.c1(h:RAt w rb tb off cap ts d):w.cell? ⟨rb,1,none⟩=some (vI d):=by simp[vC,World.cell?,h.blk]
theorem RAt.fz(h:RAt w rb tb off cap ts d)(i:Nat):w.frozen? ⟨rb,i,none⟩=false:=by simp[World.frozen?,h.blk]
def RAt.head(h:RAt w rb tb off cap ts d):∃l,ts=c9 ts::l:=by
 obtain⟨l,e,h1,_,_⟩:=h.last;cases ts with
 |nil=>simp at h1
 |cons t g=>exact⟨g,rfl⟩
def RAt.hd(h:RAt w rb tb off cap ts d){j:Nat}{x:Value}(g:(c9 ts).cells[j]?=some x):w.cell? ⟨tb,off+j,none⟩=some x:=by
 obtain⟨l,hl⟩:=h.head;have:=h.cells 0 (c9 ts) j x (by rw[hl];rfl) g;simpa using this
theorem RAt.pos(h:RAt w rb tb off cap ts d):0<ts.length:=by obtain⟨l,hl⟩:=h.head;rw[hl];simp
def RAt.two(h:RAt w rb tb off cap ts d)(hk:(c9 ts).kind≠6):2<=ts.length:=by
 obtain⟨l,e,h1,g,_⟩:=h.last;cases l with
 |nil=>rw[h1]at hk;exact absurd g hk
 |cons a l=>rw[h1];simp
theorem RAt.tail(h:RAt w rb tb off cap ts d)(hk:(c9 ts).kind≠6):RAt (w.setCell ⟨rb,0,none⟩ (.slice (some ⟨tb,off+4,none⟩) (ts.length-1) (cap-1))) rb tb (off+4) (cap-1) ts.tail d:=by
 obtain⟨l,hl⟩:=h.head;have G:=h.two hk;have I:=h.le;refine⟨?_,?_,by have:=h.most;omega,h.ord,by rw[Yf];exact h.lt,λk t j x m y=>?_,?_,?_⟩
 .have:=Zj (o:=0) (.slice (some ⟨tb,off+4,none⟩) (ts.length-1) (cap-1)) h.blk;rw[List.length_tail];exact this
 .rw[List.length_tail];omega
 .have h5:=h.cells (k+1) t j x (by rw[hl]at m ⊢;simpa using m) y;have hb:=Y8 w ⟨rb,0,none⟩ (.slice (some ⟨tb,off+4,none⟩) (ts.length-1) (cap-1)) tb h.ne;rw[show off+4+(k*4+j)=off+((k+1)*4+j) by omega];exact(Yb hb).trans h5
 .obtain⟨g,e,p,u,F⟩:=h.last;cases g with
  |nil=>rw[p]at hk;exact absurd u hk
  |cons a g=>exact⟨g,e,by rw[p];rfl,u,λt ht=>F t (List.mem_cons_of_mem _ ht)⟩
 .exact h.lev.keep λk hk=>Y8 _ _ _ _ (by simp only;omega)
def RAt.deep(h:RAt w rb tb off cap ts d){x:Int}{d':Nat}(hx:x=d'):RAt (w.setCell ⟨rb,1,none⟩ (vI x)) rb tb off cap ts d':=by
 subst hx;have hb:=Y8 w ⟨rb,1,none⟩ (vI (d':Int)) tb h.ne;exact⟨Zj (o:=1) (vI (d':Int)) h.blk,h.le,h.most,h.ord,by rw[Yf];exact h.lt,λk t j x g m=>(Yb hb).trans (h.cells k t j x g m),h.last,h.lev.keep λk hk=>Y8 _ _ _ _ (by simp only;omega)⟩
def RFr.set(h:RFr w w' rb)(o:Nat)(x:Value):RFr w (w'.setCell ⟨rb,o,none⟩ x) rb:=
 ⟨h.os,h.tape,h.output,by rw[Yf];exact h.size,λk hk hn=>(Y8 _ _ _ _ hn).trans (h.block k hk hn)⟩
end
def Zqk{s:kB}{ts:List Tok}(h:ak s ts=true):(c9 ts).kind≠6:=by
 simp only[ak,Bool.and_eq_true,Bool.or_eq_true,decide_eq_true_eq]at h;omega
def Sl(w:kV)(rb:Nat)(ts:List Tok)(d:Nat)(s:kB)(u:Rd w rb ts d) :
 kC 64 #[vP rb,.string s] w λe w'=>e=.returned (.bool (ak s ts))/\kW w w':=by
 obtain⟨tb,off,cap,h⟩:=u;have c0:=h.c0;refine Zqv ?_;intro t0 t1 t2 t3;have hp:=h.pos;refine Zqf ?_;intro hm dA n hn;rw[<-hn]at c0 hp dA;have y:=h.lt;have F:=h.rlt;obtain⟨B,g⟩:=zX (ak s ts)
 rw[<-g];unfold ak at g;obtain⟨⟨k,tx,I,J⟩,ht⟩:∃t,t=c9 ts:=⟨_,rfl⟩
 rw[<-ht]at t0 t1 t2 t3 g;simp only[Nat.add_zero]at t0 g;clear ht hn h;have p:∀o,kW w (w.alloc o):=λo=>(Y2 _ _).alloc (Y0 _) o;have uO:=lh p;clear p;by_cases h5:k=5
 .subst h5;have m:B=Zg tx s:=by simpa using g
  have HB:=lh m;clear g m;exact Zxk
 have O:(k==5)=false:=RT
 by_cases h2:k=2
 .subst h2;have m:B=Zg tx s:=by simpa using g
  have HB:=lh m;clear g m h5;exact Zxk
 have U:(k==2)=false:=RU
 have m:B=false:=by rw[g];simp[h5,h2]
 have HB:=lh m;clear g m h5 h2;go_enter func64,ntmps64
 go_wp2;go_ret;rw[HB.o];exact⟨rfl,uO.o _⟩
def zi(w:kV)(rb:Nat)(ts:List Tok)(d:Nat)(s:kB)(m:Rd w rb ts d)(hs:ak s ts=false) :
 kC 97 #[vP rb,.string s] w λe w'=>e=.returned (.bool false)/\kW w w':=by
 have g:=Sl w rb ts d s m;rw[hs]at g;have g:=lh g;clear hs m;go_enter func97,ntmps97
 go_wp2_with fail
 refine g.o.mono ?_;rintro e w1⟨rfl,p⟩;have u:=lh p;clear p;go_wp2;go_ret;exact⟨rfl,u.o⟩
def xH(w:kV)(rb:Nat)(ts:List Tok)(d:Nat)(s:kB)(m:Rd w rb ts d)(hs:ak s ts=true) :
 kC 97 #[vP rb,.string s] w λe w'=>e=.returned (.bool true)/\Rd w' rb ts.tail d/\RFr w w' rb:=by
 have g:=Sl w rb ts d s m;rw[hs]at g;obtain⟨g,y,u⟩:=ds g m (Zqk hs);clear hs m;go_enter func97,ntmps97
 go_wp2_with fail
 refine g.o.mono ?_;rintro e w1⟨rfl,p⟩;obtain⟨tb,off,cap,h⟩:=y.o.below p;have c0:=h.c0;have z0:=h.fz 0;have F:=h.two u.o;have hm:=h.most;have G:=h.le;unfold maxLen at hm;have H:=lh h;have I:=lh p;obtain⟨n,hn⟩:=zX ts.length
 rw[<-hn]at c0 F G;have J:=lh hn;clear p h hn g;go_wp2;go_ret;refine⟨rfl,⟨tb,off+4,cap-1,?_⟩,?_⟩
 .have:=H.o.tail u.o;rw[<-J.o]at this;exact this
 .exact(RFr.below I.o).set _ _
inductive ATree
 |mk(b:Nat)(v:Value)(kind:Int)(text:kB)(n:Int)(kids:List ATree)
def ATree.b:ATree->Nat| .mk b _ _ _ _ _=>b
def ATree.v:ATree->Value| .mk _ v _ _ _ _=>v
def ATree.kind:ATree->Int| .mk _ _ k _ _ _=>k
def ATree.text:ATree->kB| .mk _ _ _ t _ _=>t
def ATree.n:ATree->Int| .mk _ _ _ _ n _=>n
def ATree.kids:ATree->List ATree| .mk _ _ _ _ _ l=>l
def ATree.ptr(a:ATree):Value:=(vP a.b)
mutual
def ATree.tree:ATree->Tree
 | .mk _ _ k t n l=>.mk k t n (f6 l)
def f6:List ATree->List Tree
 | []=>[]
 |a::l=>a.tree::f6 l
end
mutual
def ATree.blocks:ATree->List Nat
 | .mk b v _ _ _ l=>b::(v.ownBlock.toList++yn l)
def yn:List ATree->List Nat
 | []=>[]
 |a::l=>a.blocks++yn l
end
def Z9z(l:List ATree):f6 l=l.map ATree.tree:=by
 induction l with
 |nil=>rfl
 |cons a l g=>simp[f6,g]
def Z2d(l:List ATree):yn l=l.flatMap ATree.blocks:=by
 induction l with
 |nil=>rfl
 |cons a l g=>simp[yn,g]
theorem Zlr(l m:List ATree):f6 (l++m)=f6 l++f6 m:=by simp[Z9z]
theorem Zah(l m:List ATree):yn (l++m)=yn l++yn m:=by simp[Z2d]
theorem Aav(a:ATree):a.b∈a.blocks:=by cases a;simp[ATree.blocks,ATree.b]
inductive TreeAt(w:kV)(B:Nat):ATree->Prop
 |mk {b:Nat} {v:Value} {kind:Int} {text:kB} {n:Int} {kids:List ATree} (blk:w.heap[b]?=some (.cells #[vI kind,.string text,vI n,v] 41 (0,0)))
  (le:B<=b) (row:w.ownsRow B 22 1 v kids.length (kids.map ATree.ptr)) (all:∀a∈kids,TreeAt w B a):TreeAt w B (.mk b v kind text n kids)
section
variable {w w':kV}{B rb:Nat}{a:ATree}
def TreeAt.keep(h:TreeAt w B a)(hb:∀k,B<=k->k<w.heap.size->w'.heap[k]?=w.heap[k]?):TreeAt w' B a:=by
 induction h with
 |mk blk le row _ p=>
   exact .mk ((hb _ le (Y1.1 blk).1).trans blk) le (Z3 row λg m=>hb g (row.lt g m).1 (row.lt g m).2) p
def TreeAt.keepB(h:TreeAt w B a)(hb:∀k∈a.blocks,w'.heap[k]?=w.heap[k]?):TreeAt w' B a:=by
 induction h with
 | @mk b v kind text n kids blk le row _ m=>
   refine .mk ((hb b Ro).trans blk) le (Z3 row λg p=>hb g (by simp[ATree.blocks,p])) λa ha=>m a ha λk hk=>hb k ?_;simp only[ATree.blocks,Z2d,List.mem_cons,List.mem_append,List.mem_flatMap];exact .inr (.inr ⟨a,ha,hk⟩)
def TreeAt.has(h:TreeAt w B a):∀k∈a.blocks,B<=k/\k<w.heap.size:=by
 induction h with
 | @mk b v kind text n kids blk le row _ g=>
   intro k hk;simp only[ATree.blocks,Z2d,List.mem_cons,List.mem_append,List.mem_flatMap,Option.mem_toList]at hk;rcases hk with rfl|hk|⟨a,ha,hk⟩;·exact⟨le,(Y1.1 blk).1⟩
   .exact row.lt k hk
   .exact g a ha k hk
theorem TreeAt.bel(h:TreeAt w B a)(g:kW w w'):TreeAt w' B a:=h.keep λk _ hk=>g.block k hk
theorem TreeAt.rfr(h:TreeAt w B a)(hr:rb<B)(f:RFr w w' rb):TreeAt w' B a:=h.keep λk hk hl=>f.block k hl Px
theorem TreeAt.drew(h:TreeAt w B a):TreeAt w.drew B a:=h.keep λ_ _ _=>rfl
theorem TreeAt.blkOf(h:TreeAt w B a):w.heap[a.b]?=some (.cells #[vI a.kind,.string a.text,vI a.n,a.v] 41 (0,0)):=by cases h;assumption
theorem TreeAt.rowOf(h:TreeAt w B a):w.ownsRow B 22 1 a.v a.kids.length (a.kids.map ATree.ptr):=by cases h;assumption
theorem TreeAt.kid(h:TreeAt w B a){k:ATree}(hk:k∈a.kids):TreeAt w B k:=by cases h;rename_i g;exact g k hk
theorem TreeAt.le(h:TreeAt w B a):B<=a.b:=by cases h;assumption
theorem TreeAt.lt(h:TreeAt w B a):a.b<w.heap.size:=(Y1.1 h.blkOf).1
def TreeAt.base{g:Nat}(h:TreeAt w B a)(m:g<=B):TreeAt w g a:=by
 induction h with
 |mk blk le row _ p=>exact .mk blk (Y4 m le) (Z9f m row) p
end
def Zcg(w:kV)(base:Nat)(e:Ending)(c p:Int):Prop:=
 ∃b,e=.panicked [{v:=.iface 82 (.agg #[.iface 140 (vP b)]),recovered:=false}]/\base<=b/\w.heap[b]?=some (.cells #[vI c,vI p] 142 (0,0))
structure Got(w:kV)(B:Nat)(w':kV)(a:ATree)(t:Tree):Prop where
 tree:a.tree=t
 at':TreeAt w' B a
 nodup:a.blocks.Nodup
 new:∀x∈a.blocks,w.heap.size<=x/\x<w'.heap.size
theorem Got.rfr{w w' dL:kV}{B rb:Nat}{a:ATree}{t:Tree}(h:Got w B w' a t)(hr:rb<B)(f:RFr w' dL rb):Got w B dL a t:=
 ⟨h.tree,h.at'.rfr hr f,h.nodup,λx hx=>⟨(h.new x hx).1,Y7 (h.new x hx).2 f.size⟩⟩
def Got.pre{w w' dL:kV}{B rb:Nat}{a:ATree}{t:Tree}(h:Got w' B dL a t)(f:RFr w w' rb):Got w B dL a t:=
 ⟨h.tree,h.at',h.nodup,λx hx=>⟨Y4 f.size (h.new x hx).1,(h.new x hx).2⟩⟩
def mc(w:kV)(rb B d:Nat)(r:Except (Int×Nat) (Tree×List Tok))(e:Ending)(w':kV):Prop:=
 match r with
 | .ok (t,ts)=>∃a,e=.returned (vP a.b)/\Got w B w' a t/\Rd w' rb ts d/\RFr w w' rb
 | .error (c,p)=>Zcg w' w.heap.size e c p/\RFr w w' rb
def TreeAt.new{w:kV}{B:Nat}{v:Value}{kind:Int}{text:kB}{n:Int}{kids:List ATree}(m:B<=w.heap.size)(row:w.ownsRow B 22 1 v kids.length (kids.map ATree.ptr))(g:∀a∈kids,TreeAt w B a) :
 TreeAt (w.alloc (.cells #[vI kind,.string text,vI n,v] 41)) B (.mk w.heap.size v kind text n kids):=by
 have p:kW w (w.alloc (.cells #[vI kind,.string text,vI n,v] 41)):=(Y2 _ _).alloc (Y0 _) _;exact .mk (Yq w _) m (row.alloc _) λa ha=>(g a ha).bel p
structure Pre(w:kV)(rb B d:Nat)(ts:List Tok):Prop where
 rd:Rd w rb ts d
 deep:d<=30
 lt:rb<B
 le:B<=w.heap.size
 few:ts.length<=4000
theorem Pre.below{w w':kV}{rb B d:Nat}{ts:List Tok}(h:Pre w rb B d ts)(g:kW w w'):Pre w' rb B d ts:=
 ⟨h.rd.below g,h.deep,h.lt,Y4 h.le g.size,h.few⟩
def Pre.next{w w':kV}{rb B d:Nat}{ts ts':List Tok}(h:Pre w rb B d ts)(g:Rd w' rb ts' d)(f:RFr w w' rb)(hl:ts'.length<=ts.length):Pre w' rb B d ts':=
 ⟨g,h.deep,h.lt,Y4 h.le f.size,Y4 hl h.few⟩
theorem Pre.tail{w w':kV}{rb B d:Nat}{ts:List Tok}(h:Pre w rb B d ts)(g:Rd w' rb ts.tail d)(f:RFr w w' rb):Pre w' rb B d ts.tail:=h.next g f (by cases ts<;>simp)
def bH(F:FuncId)(args:Nat->Array Value)(g:Job)(f:Nat):Prop:=
 ∀(w:kV) (rb B d:Nat) (ts:List Tok) (r:Except (Int×Nat) (Tree×List Tok)),Pre w rb B d ts->Z2 f g d ts=some r->Calls Tryz.prog F (args rb) w (mc w rb B d r)
def cW(rb:Nat):Array Value:=#[vP rb]
theorem mc.pre{w w1 w2:kV}{rb B d:Nat}{r:Except (Int×Nat) (Tree×List Tok)}{e:Ending}(f:RFr w w1 rb)(h:mc w1 rb B d r e w2):mc w rb B d r e w2:=by
 rcases r with⟨c,p⟩|⟨t,ts⟩
 .obtain⟨⟨b,h1,m,u⟩,g⟩:=h;exact⟨⟨b,h1,Y4 f.size m,u⟩,f.trans g⟩
 .obtain⟨a,h1,m,u,y⟩:=h;exact⟨a,h1,m.pre f,u,f.trans y⟩
def mc.err{w w1 w2:kV}{rb B d:Nat}{e:Ending}{c:Int}{p:Nat}(f:RFr w w1 rb)(h:Zcg w2 w1.heap.size e c p)(g:kW w1 w2):mc w rb B d (.error (c,p)) e w2:=by
 obtain⟨b,h1,m,u⟩:=h;exact⟨⟨b,h1,Y4 f.size m,u⟩,f.trans (RFr.below g)⟩
def Zf{p:PR}{k:Tree->List Tok->PR}{r:Except (Int×Nat) (Tree×List Tok)}(h:Zq p k=some r):(∃e,p=some (.error e)/\r=.error e)\/∃t ts,p=some (.ok (t,ts))/\k t ts=some r:=by
 cases p with
 |none=>simp[Zq]at h
 |some x=>
   cases x with
   |error e=>exact .inl ⟨e,rfl,by simpa[Zq]using h.symm⟩
   |ok y=>obtain⟨t,ts⟩:=y;exact .inr ⟨t,ts,rfl,h⟩
def T8{s:kB}{ts:List Tok}{k:List Tok->PR}{r:Except (Int×Nat) (Tree×List Tok)}(h:lF s ts k=some r):(ak s ts=true/\k ts.tail=some r)\/(ak s ts=false/\r=.error (3,(c9 ts).at')):=by
 unfold lF at h;by_cases hs:ak s ts=true;·rw[Y5 hs]at h;exact .inl ⟨hs,h⟩
 .rw[Y3 hs]at h;exact .inr ⟨by simpa using hs,by simpa[xn]using h.symm⟩
def Z3b{ts:List Tok}{k:kB->List Tok->PR}{r:Except (Int×Nat) (Tree×List Tok)}(h:B6 ts k=some r):((c9 ts).kind=1/\k (c9 ts).text ts.tail=some r)\/((c9 ts).kind≠1/\r=.error (3,(c9 ts).at')):=by
 unfold B6 at h;by_cases hs:(c9 ts).kind=1;·rw[Y5 hs]at h;exact .inl ⟨hs,h⟩
 .rw[Y3 hs]at h;exact .inr ⟨hs,by simpa[xn]using h.symm⟩
def Got.push{w0 wA w w1 w2:kV}{rb B b d g cap:Nat}{v:Value}{k n:Int}{t:kB}{kids:List ATree}{a:ATree}{tn Y:Tree}{ts:List Tok}(hr:rb<B)(cu:B<=w0.heap.size)
 (N:Got w0 B w (.mk b v k t n kids) tn)(O:∀x∈(ATree.mk b v k t n kids).blocks,x<wA.heap.size)(A:Got wA B w a Y)(F:RFr w0 w rb)(R:Rd w rb ts d)
 (p:kW w w1)(u:w1.grownBy w2 v.ownBlock)(af:w2.ownsRow B 22 1 (.slice (some ⟨g,0,none⟩) (kids.length+1) cap) (kids.length+1) (kids.map ATree.ptr++[a.ptr]))
 (J:v.ownBlock=some g\/w.heap.size<=g)(cV:g<w2.heap.size) :
 Got w0 B (w2.setCell ⟨b,3,none⟩ (.slice (some ⟨g,0,none⟩) (kids.length+1) cap)) (.mk b (.slice (some ⟨g,0,none⟩) (kids.length+1) cap) k t n (kids++[a])) (.mk k t n (f6 kids++[Y]))/\
  RFr w0 (w2.setCell ⟨b,3,none⟩ (.slice (some ⟨g,0,none⟩) (kids.length+1) cap)) rb/\Rd (w2.setCell ⟨b,3,none⟩ (.slice (some ⟨g,0,none⟩) (kids.length+1) cap)) rb ts d:=by
 have Z:=N.nodup;simp only[ATree.blocks,List.nodup_cons,List.mem_append,List.nodup_append,Option.mem_toList,not_or]at Z;obtain⟨⟨ah,aA⟩,_,cC,aR⟩:=Z;have cB:b<w.heap.size:=N.at'.lt;have U:w0.heap.size<=b:=(N.new b Ro).1;have I:∀x,v.ownBlock=some x->w0.heap.size<=x/\x<wA.heap.size/\x<w.heap.size:=λx hx=>
  ⟨(N.new x QM).1,O x QM,(N.new x QM).2⟩
 have Oy:b<wA.heap.size:=O b Ro;have aF:w.heap.size<=w2.heap.size:=Y4 p.size u.size;have X:(w2.setCell ⟨b,3,none⟩ (.slice (some ⟨g,0,none⟩) (kids.length+1) cap)).heap.size=w2.heap.size:=Yf ..;have cL:∀x,x<w.heap.size->v.ownBlock≠some x->w2.heap[x]?=w.heap[x]?:=λx hx hn=>(u.block x (Y7 hx p.size) (λe=>hn e.symm)).trans (p.block x hx)
 have far:∀x,x<w.heap.size->x≠b->v.ownBlock≠some x->(w2.setCell ⟨b,3,none⟩ (.slice (some ⟨g,0,none⟩) (kids.length+1) cap)).heap[x]?=w.heap[x]?:=λx hx g9 hn=>(Y8 _ _ _ _ g9).trans (cL x hx hn);have gJ:g≠b:=by
  rcases J with h|h;·rintro rfl;exact ah h
  .omega
 have Lz:∀x∈a.blocks,g≠x:=λx hx=>by
  have h1:=A.new x hx;rcases J with h|h;·have:=I g h;omega
  .omega
 have yN:∀x∈yn kids,g≠x:=λx hx=>by
  rcases J with h|h;·exact aR g h x hx
  .have:=(N.new x QM).2;omega
 have tG:w0.heap.size<=g:=by
  rcases J with h|h;·exact(I g h).1
  .have:=F.size;omega
 refine⟨⟨?_,?_,?_,?_⟩,⟨?_,?_,?_,?_,?_⟩,?_⟩
 .simp only[ATree.tree,Zlr,f6];rw[A.tree]
 .refine .mk ?_ N.at'.le ?_ λx hx=>?_
  .have h1:=(cL b cB ah).trans N.at'.blkOf;exact Zj (o:=3) _ h1
  .rw[Yi,Yl];exact Z3 af λg' eO=>Y8 _ _ _ _ (by simp only[Value.ownBlock,Option.some.injEq]at eO;rw[<-eO];exact gJ)
  .rcases List.mem_append.1 hx with hx|hx
   .have hT:=N.at'.kid (k:=x) hx;refine hT.keepB λy m=>?_;have yO:y∈yn kids:=by rw[Z2d];exact List.mem_flatMap.2 ⟨x,hx,m⟩
    exact far y (hT.has y m).2 (λe=>aA (by rw[<-e];exact yO)) (λe=>aR y e y yO rfl)
   .simp only[List.mem_singleton]at hx;subst hx;refine A.at'.keepB λy m=>?_;have h1:=A.new y m;exact far y h1.2 Px (λe=>by have:=I y e;omega)
 .simp only[ATree.blocks,Value.ownBlock,Zah,yn,List.append_nil,List.nodup_cons,List.mem_append,List.nodup_append,Option.toList,List.mem_cons,List.not_mem_nil,or_false,not_or,List.nodup_nil,not_false_eq_true,true_and];refine⟨⟨λe=>gJ e.symm,aA,λhm=>by have :=A.new b hm;omega⟩,⟨cC,A.nodup,λx hx y m e=>by have h1:=O x (by simp[ATree.blocks,hx]);have h2:=A.new y m;omega⟩,?_⟩;rintro x rfl y m;rcases m with m|m;·exact yN y m
  .exact Lz y m
 .intro x hx;rw[X];simp only[ATree.blocks,Value.ownBlock,Zah,yn,List.append_nil,List.mem_cons,List.mem_append,Option.toList,List.not_mem_nil,or_false]at hx;rcases hx with rfl|rfl|hx|hx;·exact⟨U,by omega⟩
  .exact⟨tG,cV⟩
  .have:=N.new x QM;omega
  .have:=A.new x hx;omega
 .exact(u.os.trans p.os).trans F.os
 .exact(u.tape.trans p.tape).trans F.tape
 .exact(u.output.trans p.output).trans F.output
 .rw[X];have:=F.size;omega
 .intro x hx hn;have:=F.size;exact(far x Px Px (λe=>by have:=I x e;omega)).trans (F.block x hx hn)
 .have:=F.size;exact R.keep (by rw[X];exact aF) λx hx=>far x (by have:=R.rlt;omega) Px (λe=>by have:=I x e;omega)
def Got.text{w0 w:kV}{rb B b d:Nat}{v:Value}{k n:Int}{t t':kB}{kids:List ATree}{l:List Tree}{ts:List Tok}(hr:rb<B)(Y:B<=w0.heap.size)
 (N:Got w0 B w (.mk b v k t n kids) (.mk k t n l))(F:RFr w0 w rb)(R:Rd w rb ts d) :
 Got w0 B (w.setCell ⟨b,1,none⟩ (.string t')) (.mk b v k t' n kids) (.mk k t' n l)/\RFr w0 (w.setCell ⟨b,1,none⟩ (.string t')) rb/\Rd (w.setCell ⟨b,1,none⟩ (.string t')) rb ts d:=by
 have m:=N.nodup;simp only[ATree.blocks,List.nodup_cons,List.mem_append,Option.mem_toList,not_or]at m;obtain⟨⟨u,I⟩,_⟩:=m;have J:w0.heap.size<=b:=(N.new b Ro).1;have p:(w.setCell ⟨b,1,none⟩ (.string t')).heap.size=w.heap.size:=Yf ..;have far:∀x,x≠b->(w.setCell ⟨b,1,none⟩ (.string t')).heap[x]?=w.heap[x]?:=λx hx=>Y8 _ _ _ _ hx
 refine⟨⟨?_,?_,N.nodup,?_⟩,⟨F.os,F.tape,F.output,by rw[p];exact F.size,λx hx hn=>(far x Px).trans (F.block x hx hn)⟩,R.keep Px λx hx=>far x Px⟩
 .have:=N.tree;simp only[ATree.tree,Tree.mk.injEq,true_and]at this ⊢;exact this
 .refine .mk (Zj (o:=1) _ N.at'.blkOf) N.at'.le (Z3 N.at'.rowOf λg O=>far g (λe=>u (by rw[<-e];exact O))) λx hx=>?_;have U:=N.at'.kid (k:=x) hx;refine U.keepB λy X=>far y λe=>I ?_;rw[Z2d,<-e];exact List.mem_flatMap.2 ⟨x,hx,X⟩
 .intro x hx;rw[p];exact N.new x hx
def Got.leaf{w0 w:kV}{rb B:Nat}{k:Int}{t:kB}{n:Int}(g:B<=w0.heap.size)(F:RFr w0 w rb) :
 Got w0 B (w.alloc (.cells #[vI k,.string t,vI n,.slice none 0 0] 41)) (.mk w.heap.size (.slice none 0 0) k t n []) (.mk k t n []):=by
 have hs:=F.size;exact⟨rfl,TreeAt.new (Y4 g hs) (World.ownsRow_nil _ _ _ _) (λa ha=>by cases ha),by simp[ATree.blocks,Value.ownBlock,yn],λx hx=>by
  simp only[ATree.blocks,Value.ownBlock,Option.toList,yn,List.append_nil,List.mem_cons,List.not_mem_nil,or_false]at hx;subst hx;exact⟨hs,by simp⟩⟩
def Zuh{w:kV}{B:Nat}{l:List ATree}(g:B<=w.heap.size)(hl:l.length<=1000) :
 (w.alloc (.cells (l.map ATree.ptr).toArray 22)).ownsRow B 22 1 (.slice (some ⟨w.heap.size,0,none⟩) l.length l.length) l.length (l.map ATree.ptr):=by
 refine⟨by simp,.inr ⟨w.heap.size,l.length,(l.map ATree.ptr).toArray,rfl,g,Yq w _,Y0 _,by unfold maxLen;omega,by simp,?_⟩⟩;simp only[Nat.mul_one];exact Ye PE
def Got.made{w0 w:kV}{rb B:Nat}{k:Int}{t:kB}{kids:List ATree}{g:List Tree}(J:B<=w0.heap.size)(F:RFr w0 w rb)(hl:kids.length<=1000)(ht:f6 kids=g)
 (p:∀a∈kids,TreeAt w B a)(hn:(yn kids).Nodup)(hb:∀x∈yn kids,w0.heap.size<=x/\x<w.heap.size) :
 Got w0 B ((w.alloc (.cells (kids.map ATree.ptr).toArray 22)).alloc (.cells #[vI k,.string t,vI 0,.slice (some ⟨w.heap.size,0,none⟩) kids.length kids.length] 41))
  (.mk (w.heap.size+1) (.slice (some ⟨w.heap.size,0,none⟩) kids.length kids.length) k t 0 kids) (.mk k t 0 g):=by
 have hs:=F.size;have u:kW w (w.alloc (.cells (kids.map ATree.ptr).toArray 22)):=(Y2 _ _).alloc (Y0 _) _;have m:(w.alloc (.cells (kids.map ATree.ptr).toArray 22)).heap.size=w.heap.size+1:=PE
 refine⟨by simp[ATree.tree,ht],?_,?_,?_⟩
 .rw[<-m];exact TreeAt.new (by rw[m];omega) (Zuh Px hl) λa ha=>(p a ha).bel u
 .simp only[ATree.blocks,Value.ownBlock,Option.toList,List.nodup_cons,List.mem_append,List.nodup_append,List.mem_cons,List.not_mem_nil,or_false,not_or,List.nodup_nil,not_false_eq_true,true_and];refine⟨⟨by omega,λhm=>by have:=hb _ hm;omega⟩,hn,?_⟩;rintro x rfl y I rfl;have:=hb _ I;omega
 .intro x hx;simp only[ATree.blocks,Value.ownBlock,Option.toList,List.mem_cons,List.mem_append,List.not_mem_nil,or_false]at hx;simp only[World.size_alloc];rcases hx with rfl|rfl|hx;·omega
  .omega
  .have:=hb x hx;omega
def Got.two{w0 w wA:kV}{rb B:Nat}{k:Int}{t:kB}{a c:ATree}{g m:Tree}(p:B<=w0.heap.size)(F:RFr w0 w rb)(A:Got w0 B w a g)(u:∀x∈a.blocks,x<wA.heap.size)(J:w0.heap.size<=wA.heap.size)(C:Got wA B w c m) :
 Got w0 B ((w.alloc (.cells #[a.ptr,c.ptr] 22)).alloc (.cells #[vI k,.string t,vI 0,.slice (some ⟨w.heap.size,0,none⟩) 2 2] 41))
  (.mk (w.heap.size+1) (.slice (some ⟨w.heap.size,0,none⟩) 2 2) k t 0 [a,c]) (.mk k t 0 [g,m]):=by
 refine Got.made (kids:=[a,c]) (rb:=rb) p F PE (by simp[f6,A.tree,C.tree]) (λx hx=>?_) ?_ ?_
 .simp only[List.mem_cons,List.not_mem_nil,or_false]at hx;rcases hx with rfl|rfl;·exact A.at'
  .exact C.at'
 .simp only[yn,List.append_nil,List.nodup_append];exact⟨A.nodup,C.nodup,λx hx y I e=>by have h1:=u x hx;have O:=C.new y I;omega⟩
 .intro x hx;simp only[yn,List.append_nil,List.mem_append]at hx;rcases hx with hx|hx;·exact A.new x hx
  .have:=C.new x hx;omega
def Got.one{w0 w:kV}{rb B:Nat}{k:Int}{t:kB}{a:ATree}{g:Tree}(m:B<=w0.heap.size)(F:RFr w0 w rb)(A:Got w0 B w a g) :
 Got w0 B ((w.alloc (.cells #[a.ptr] 22)).alloc (.cells #[vI k,.string t,vI 0,.slice (some ⟨w.heap.size,0,none⟩) 1 1] 41))
  (.mk (w.heap.size+1) (.slice (some ⟨w.heap.size,0,none⟩) 1 1) k t 0 [a]) (.mk k t 0 [g]):=by
 refine Got.made (kids:=[a]) (rb:=rb) m F PE (by simp[f6,A.tree]) (λx hx=>?_) ?_ ?_
 .simp only[List.mem_cons,List.not_mem_nil,or_false]at hx;rw[hx];exact A.at'
 .simpa[yn]using A.nodup
 .intro x hx;exact A.new x (by simpa[yn]using hx)
mutual
def sp{σ:Type}(g:σ->ATree->Bool×σ):ATree->σ->σ
 | .mk b v k t n l,s=>if(g s (.mk b v k t n l)).1 then pV g l (g s (.mk b v k t n l)).2 else(g s (.mk b v k t n l)).2
def pV{σ:Type}(g:σ->ATree->Bool×σ):List ATree->σ->σ
 | [],s=>s
 |a::l,s=>pV g l (sp g a s)
end
mutual
def ATree.subs:ATree->List ATree
 | .mk b v k t n l=>.mk b v k t n l::lw l
def lw:List ATree->List ATree
 | []=>[]
 |a::l=>a.subs++lw l
end
mutual
def ATree.many:ATree->Nat
 | .mk _ _ _ _ _ l=>Ad l+1
def Ad:List ATree->Nat
 | []=>0
 |a::l=>a.many+Ad l
end
def Z8o{σ:Type}(g:σ->ATree->Bool×σ)(a:ATree)(s:σ):sp g a s=if(g s a).1 then pV g a.kids (g s a).2 else(g s a).2:=by
 cases a;simp only[sp,ATree.kids]
def Zcv{σ:Type}(g:σ->ATree->Bool×σ)(l:List ATree)(a:ATree)(s:σ):pV g (l++[a]) s=sp g a (pV g l s):=by
 induction l generalizing s with
 |nil=>simp[pV]
 |cons x l m=>simp only[List.cons_append,pV,m]
def XR{a k:ATree}(h:k∈a.kids):k.many<a.many:=by
 have g:∀l:List ATree,k∈l->k.many<=Ad l:=by
  intro l;induction l with
  |nil=>intro h;cases h
  |cons x l ih=>
    intro h;simp only[Ad];exact Zxg
 obtain⟨b,v,m,t,n,l⟩:=a;have:=g l h;simp only[ATree.many];omega
theorem Z8n(a:ATree):a∈a.subs:=by cases a;simp[ATree.subs]
def Zd9{a k x:ATree}(h:k∈a.kids)(hx:x∈k.subs):x∈a.subs:=by
 have g:∀l:List ATree,k∈l->x∈lw l:=by
  exact Zz5
 obtain⟨b,v,m,t,n,l⟩:=a;simp only[ATree.subs,List.mem_cons];exact .inr (g l h)
mutual
theorem Vi:∀a:ATree,a.tree.many=a.many
 | .mk _ _ _ _ _ l=>by simp only[ATree.tree,Tree.many,ATree.many];rw[Zci l]
theorem Zci:∀l:List ATree,qc (f6 l)=Ad l
 | []=>rfl
 |a::l=>by simp only[f6,qc,Ad];rw[Vi a,Zci l]
end
def Z31{l:List ATree}{k:Nat}{x:ATree}(h:l[k]?=some x):l.take (k+1)=l.take k++[x]:=by
 rw[List.take_add_one,h];rfl
inductive Reach{σ:Type}(g:σ->ATree->Bool×σ):ATree->σ->ATree->σ->Prop
 |self (a:ATree) (s:σ):Reach g a s a s
 |kid {a k x:ATree} {s s':σ} {i:Nat} (ok:(g s a).1=true) (hk:a.kids[i]?=some k) (h:Reach g k (pV g (a.kids.take i) (g s a).2) x s'):Reach g a s x s'
def Reach.sub{σ:Type}{g:σ->ATree->Bool×σ}{a x:ATree}{s s':σ}(h:Reach g a s x s'):x∈a.subs:=by
 induction h with
 |self a s=>exact Z8n a
 |kid ok hk h m=>exact Zd9 (Yd hk) m
def Zwa(u:Addr){σ:Type}(Inv:σ->kV->Prop)(g:σ->ATree->Bool×σ)(B:Nat):∀(m:Nat) (a:ATree),a.many<=m->(∀s w,Inv s w->TreeAt w B a)->
 ∀s,(∀x s',Reach g a s x s'->∀w,Inv s' w->kC 12 #[x.ptr,.pointer (some u)] w λe w'=>e=.returned (.bool (g s' x).1)/\Inv (g s' x).2 w')->
 ∀w,Inv s w->kC 11 #[a.ptr,.func (.func 12) #[] #[.pointer (some u)]] w λe w'=>e=.returned (.tuple #[])/\Inv (sp g a s) w':=by
 exact tq2
theorem YY:(Tryz.prog.info? 104).map (λi=>(i.zero,i.size,i.bytes))=some (some (.pointer none),1,8):=by kernel_rfl
theorem YV:(Tryz.prog.info? 93).map (λi=>(i.zero,i.size,i.bytes))=some (some (.pointer none),1,8):=by kernel_rfl
theorem Mr:(Tryz.prog.info? 157).map (λi=>(i.zero,i.size,i.bytes))=some (some (.agg #[.string ⟨#[]⟩,vI 0,vI 0,.string ⟨#[]⟩,vI 0,.bool false]),6,64):=by kernel_rfl
def Zzo(w:kV)(o:Obj)(x:Value)(t:TypeId):∀j u,[x][j]?=some u->((w.alloc o).alloc (.cells #[x] t)).cell? ((⟨w.heap.size+1,0,none⟩:Addr).add j)=some u:=by
 have:=cell_one_new (w.alloc o) x t;rwa[show(w.alloc o).heap.size=w.heap.size+1 by simp]at this
section
variable {ρ:Nat->Option Role}{w:kV}{hb ho:Nat}{L:HL}{H:LHeap}
def Zex(h:HeapAt ρ w hb ho L H)(outer object:Int)(hn:H.scopes.length<1099511627776) :
 kC 36 #[.pointer (some ⟨hb,ho,none⟩),vI outer,vI object] w λe w'=>e=.returned (vI H.scopes.length)/\
  ∃ρ' L',HeapAt ρ' w' hb ho L' {H with scopes:=H.scopes++[⟨outer,object,[]⟩]}/\Fr ρ ρ' hb ho w w':=by
 obtain⟨i0,hi,aC,bo,bQ⟩:=info_parts YY;have iD:=h.cellS;have sm:=h.frS;have cA:=h.hbLt;have p:=h.rowS;have F:∀g,L.vs.ownBlock=some g->g<w.heap.size:=λg m=>(p.lt g m).2;have I:∀g,L.vs.ownBlock=some g->g≠hb:=λg m e=>by have:=h.rvs g m;rw[e,h.rhp]at this;cases this
 obtain⟨vs,y⟩:=zX L.vs
 obtain⟨sb,aK⟩:=zX (Am L.sb H.scopes.length)
 obtain⟨n,J⟩:=zX H.scopes.length
 rw[<-y,<-aK]at p;rw[<-y]at iD F I;rw[<-J]at hn p ⊢;obtain⟨HH,HV,HS,HN,HO,HL,HR⟩:=gw h y aK J p F I;clear h y aK J p F I;have U:∀X Y (w1:kV),((w.alloc X).alloc Y).grownBy w1 vs.ownBlock->w1.cell? ⟨hb,ho+1,none⟩=some vs/\w1.frozen? ⟨hb,ho+1,none⟩=false:=λX Y w1 m=>
  ⟨(m.cell_far ⟨hb, ho + 1, none⟩ PB (fun e => HR.o hb e.symm rfl)).trans ((Zc PB).trans ((Zc cA).trans iD)),
   (m.frozen_far ⟨hb,ho+1,none⟩ PB (λe=>HR.o hb e.symm rfl)).trans ((TG PB).trans ((TG cA).trans sm))⟩
 have HA:=lh U;clear U;go_enter func36,ntmps36
 go_wp2_with (at_builtin;go_must (refine wpList_append_lies _ rfl (.tmp 11) (.tmp 16) 50 rfl 0 104 i0 (.pointer none) 1 8 underlying50 hi aC bo bQ rfl Py vs n sb rfl ((HO.o.alloc _).alloc _) ⟨w.heap.size+1,0,none⟩ 1 1 [vP w.heap.size] rfl rfl (Zzo _ _ _ _) PH Px PA Px Px (w.heap.size+2) PE ?_);intro g cap w1 Z O gM cV;obtain⟨jA,tD⟩:=HA.o _ _ _ O;have HG:=lh O;have HW:=lh Z;have HT:=lh gM;have uD:=lh cV;clear O Z gM cV)
 go_ret;refine⟨Zdn Px,?_⟩;have hA:kW w ((w.alloc (.cells #[vI outer,vI object,.slice none 0 0] 109)).alloc (.cells #[vP w.heap.size] 104)):=((Y2 _ _).alloc (Y0 _) _).alloc PE _;refine Zzn ?_;intro aG k1 k2 k3 k4 k5 k6 k7 k8 k9 jB hv ym gJ h;refine h.addScope (nb:=w.heap.size) k1 ?_ ?_ (Y0 _) k7 ?_ k2 k3 ?_ ?_ k8 k9 jB;·exact Zwu
 .exact Zzy
 .intro b ah aA bj;rw[<-hv]at bj;exact k4 b ah aA bj
 .exact Xj
 .exact XX
end
def LHeap.declare(H:LHeap)(n:Int)(name:kB)(kind:Int)(v:LVal):LHeap×Int:=
 match H.scope? n with
 |none=>(H,7)
 |some s=>
   if 0<=s.object then(H,1)
   else if H.has n name then(H,9)
   else({H with scopes:=H.scopes.set n.toNat {s with names:=s.names++[⟨name,v,kind,!decide (kind=1)&& !decide (kind=2)⟩]}},0)
section
variable {ρ:Nat->Option Role}{w:kV}{hb ho:Nat}{L:HL}{H:LHeap}
def Zie{w1 w2:kV}{m g cap:Nat}{s:LScope}{nv:Value}{b:LBind}{T:TypeId}(h:HeapAt ρ w1 hb ho L H)(hm:H.scopes[m]?=some s)(jQ:nv=L.nv m)
 (ac:w1.heap[L.sb m]?=some (.cells #[vI s.outer,vI s.object,nv] 109 (0,0)))
 (F:((w1.alloc (.cells b.cells.toArray T)).drew).grownBy w2 nv.ownBlock)
 (af:w2.ownsRow 0 157 6 (.slice (some ⟨g,0,none⟩) (s.names.length+1) cap) (s.names.length+1) (s.names.flatMap LBind.cells++b.cells))
 (gM:nv.ownBlock=some g\/g=w1.heap.size+1) :
 ∃ ρ' O, HeapAt ρ' (w2.setCell ⟨L.sb m, 2, none⟩ (.slice (some ⟨g, 0, none⟩) (s.names.length + 1) cap)) hb ho O { H with scopes := H.scopes.set m { s with names := s.names ++ [b] } } ∧
   Fr ρ ρ' hb ho w1 (w2.setCell ⟨L.sb m,2,none⟩ (.slice (some ⟨g,0,none⟩) (s.names.length+1) cap)):=by
 have I:=getElem?_lt hm;have p:kW w1 ((w1.alloc (.cells b.cells.toArray T)).drew):=((Y2 _ _).alloc (Y0 _) _).drew;have u:L.sb m<w1.heap.size:=(Y1.1 ac).1;have y:nv.ownBlock≠some (L.sb m):=λe=>by
  rw[jQ]at e;have h1:=h.rnv m _ I e;rw[h.rsb m I]at h1;cases h1
 have gJ:g≠L.sb m:=by
  rcases gM with h'|h';·rintro rfl;exact y h'
  .omega
 have U:w1.cell? ⟨L.sb m,2,none⟩=some nv:=PC
 obtain⟨k1,k2,k3,X,k5,k6,Y,Z,k9,jB⟩:=Z4d (.slice (some ⟨g,0,none⟩) (s.names.length+1) cap) p F u y U;have jc:w2.heap[L.sb m]?=some (.cells #[vI s.outer,vI s.object,nv] 109 (0,0)):=
  (F.block _ (Y7 u p.size) (λe=>y e.symm)).trans ((p.block _ u).trans ac)
 refine h.setNames hm (nv':=.slice (some ⟨g,0,none⟩) (s.names.length+1) cap) (names':=s.names++[b]) ?_ ?_ Y ?_ ?_ Z k9 jB;·exact Zj _ jc
 .exact Ww
 .intro b' h1 h2 J;rw[<-jQ]at J;exact X b' h1 h2 J
 .exact Zzu
def Zhd(h:HeapAt ρ w hb ho L H)(m:Nat)(s:LScope)(name:kB)(kind:Int)(vk vn:Int)(vs:kB)(hm:H.scopes[m]?=some s)(aU:¬0<=s.object)(eU:H.has (m:Int) name=false)(g:s.names.length<1099511627776)
 (p:((kind:Int) !=1)=false) :
 kC 44 #[.pointer (some ⟨hb,ho,none⟩),vI m,.string name,vI kind,.agg #[vI vk,vI vn,.string vs]] w λe w'=>e=.returned (da 0)/\
  ∃ρ' L',HeapAt ρ' w' hb ho L' {H with scopes:=H.scopes.set m {s with names:=s.names++[⟨name,⟨vk,vn,vs⟩,kind,false⟩]}}/\Fr ρ ρ' hb ho w w':=by
 exact tq5
def Zha(h:HeapAt ρ w hb ho L H)(m:Nat)(s:LScope)(name:kB)(kind:Int)(vk vn:Int)(vs:kB)(hm:H.scopes[m]?=some s)(aU:¬0<=s.object)(eU:H.has (m:Int) name=false)(g:s.names.length<1099511627776)
 (p:((kind:Int) !=1)=true)(u:((kind:Int) !=2)=false) :
 kC 44 #[.pointer (some ⟨hb,ho,none⟩),vI m,.string name,vI kind,.agg #[vI vk,vI vn,.string vs]] w λe w'=>e=.returned (da 0)/\
  ∃ρ' L',HeapAt ρ' w' hb ho L' {H with scopes:=H.scopes.set m {s with names:=s.names++[⟨name,⟨vk,vn,vs⟩,kind,false⟩]}}/\Fr ρ ρ' hb ho w w':=by
 exact tq5
def Zhj(h:HeapAt ρ w hb ho L H)(m:Nat)(s:LScope)(name:kB)(kind:Int)(vk vn:Int)(vs:kB)(hm:H.scopes[m]?=some s)(aU:¬0<=s.object)(p:H.has (m:Int) name=false)(Y:s.names.length<1099511627776)
 (Z:((kind:Int) !=1)=true)(k2:((kind:Int) !=2)=true) :
 kC 44 #[.pointer (some ⟨hb,ho,none⟩),vI m,.string name,vI kind,.agg #[vI vk,vI vn,.string vs]] w λe w'=>e=.returned (da 0)/\
  ∃ρ' g,HeapAt ρ' w' hb ho g {H with scopes:=H.scopes.set m {s with names:=s.names++[⟨name,⟨vk,vn,vs⟩,kind,true⟩]}}/\Fr ρ ρ' hb ho w w':=by
 refine Zqt ?_;intro cA ew;refine Ut ?_;intro h1 cu;refine VM ?_;intro jA;have y:=lh (UX h1 m (getElem?_lt hm));have u:=lh (Vh h1 (m:Int) name);rw[p]at u;obtain⟨i0,hi,F,I,J⟩:=info_parts Mr;obtain⟨HH,HB,HM⟩:=ds h1 cu hm;clear h h1 cu hm p;go_enter func44,ntmps44
 go_wp2_with fail
 refine y.o.mono ?_;rintro e w1⟨rfl,rfl⟩;go_wp2_with fail
 refine u.o.mono ?_;rintro e w1⟨rfl,hB⟩;obtain⟨q0,q1,q2,f0,f1,f2,hs,dn⟩:=Z51 hB;have eS:=HH.o.below hB;obtain⟨ac,af⟩:=eS.scp m s HM.o;obtain⟨nv,jQ⟩:=zX (L.nv m)
 rw[<-jQ]at ac af;refine AaB ?_;clear hB dn eS ac af jQ;intro aK d2 kA eI qT HO HN HNe av qU;go_wp2_with fail
 refine Z7 [0,2,4,6,8,10,12,14,16,18,20,22,24,26,28,31,33] [17,18,19] (λW=>vC W (L.sb m) 2 nv/\vC W w.heap.size 0 (vI vk)/\vC W w.heap.size 1 (vI vn)/\vC W w.heap.size 2 (.string vs)) ⟨d2,q0,q1,q2⟩ λ_=>?_;refine dU ?_
 iterate 15
  refine fa ?_
 refine Zuf ?_;intro K hK;refine step_append_lies _ PM (.tmp 40) (.tmp 51) 107 PM 0 157 i0 _ 6 64 underlying107 hi F I J rfl Py nv s.names.length (s.names.flatMap LBind.cells) PM ((HO.o.alloc _).drew) ⟨w1.heap.size,0,none⟩ 1 1 (LBind.cells ⟨name,⟨vk,vn,vs⟩,kind,true⟩) PM rfl (Ya (cs:=(LBind.cells ⟨name,⟨vk,vn,vs⟩,kind,true⟩).toArray) (t:=157) (fr:=(0,0)) (Yq w1 _)) (by simp[LBind.cells,Value.oneCell']) Py PA Px Px (w1.heap.size+1) PE ?_
 refine Aa6 ?_;clear hK K;intro gg cap w2 rL e2 HG HW HT uD;go_wp2;go_ret;refine⟨rfl,?_⟩;have O:=Zie (b:=⟨name,⟨vk,vn,vs⟩,kind,true⟩) eI.o HM.o HN.o qT.o HG.o HW.o HT.o;obtain⟨ρ',g,U,X⟩:=O;exact⟨ρ',g,U,(Fr.of_below cA av.o).trans X⟩
def Zak(h:HeapAt ρ w hb ho L H)(n:Int)(name:kB)(kind:Int)(v:LVal)(g:∀(m:Nat) (s:LScope),H.scopes[m]?=some s->s.names.length<1099511627776) :
 kC 44 #[.pointer (some ⟨hb,ho,none⟩),vI n,.string name,vI kind,v.agg] w λe w'=>e=.returned (da (H.declare n name kind v).2)/\
  ∃ρ' O,HeapAt ρ' w' hb ho O (H.declare n name kind v).1/\Fr ρ ρ' hb ho w w':=by
 refine Zqt ?_;intro cA ew;obtain⟨vk,vn,vs⟩:=v;simp only[LVal.agg];refine Ut ?_;intro h1 cu;rcases hob:H.scope? n with _|s
 .have HC:=lh (Vo h1 n hob);have hd:H.declare n name kind ⟨vk,vn,vs⟩=(H,7):=by simp[LHeap.declare,hob]
  rw[hd];have HH:=lh h1;have HB:=lh cu;clear h h1 hob g hd cu;go_enter func44,ntmps44
  exact Tv
 .obtain⟨m,rfl,hm⟩:=LHeap.scope?_some hob;refine VM ?_;intro jA;have HC:=lh (UX h1 m (getElem?_lt hm));by_cases aU:0<=s.object
  .have hd:H.declare m name kind ⟨vk,vn,vs⟩=(H,1):=by simp[LHeap.declare,hob,aU]
   rw[hd];have HH:=lh h1;have HB:=lh cu;clear h h1 hob g hd cu hm;go_enter func44,ntmps44
   exact Tv
  .have F:=lh (Vh h1 (m:Int) name);by_cases hq:H.has (m:Int) name=true
   .have hd:H.declare m name kind ⟨vk,vn,vs⟩=(H,9):=by simp[LHeap.declare,hob,aU,hq]
    rw[hd];rw[hq]at F;have HH:=lh h1;have HB:=lh cu;clear h h1 hob g hd cu hm hq;go_enter func44,ntmps44
    go_wp2_with fail
    refine HC.o.mono ?_;rintro e w1⟨rfl,rfl⟩;go_wp2_with fail
    refine F.o.mono ?_;rintro e w1⟨rfl,I⟩;have J:=lh I;clear I;go_wp2;go_ret;exact⟨rfl,ρ,L,HH.o.below J.o,Fr.of_below cA (HB.o.trans (J.o.mono HB.o.size))⟩
   .have p:H.has (m:Int) name=false:=by simpa using hq
    have hd:H.declare m name kind ⟨vk,vn,vs⟩=({H with scopes:=H.scopes.set m {s with names:=s.names++[⟨name,⟨vk,vn,vs⟩,kind,!decide (kind=1)&& !decide (kind=2)⟩]}},0):=by simp[LHeap.declare,hob,aU,p]
    rw[hd];have y:=g m s hm;by_cases k1:kind=1
    .have e:(!decide (kind=1)&& !decide (kind=2))=false:=by simp[k1]
     rw[e];exact Zhd h m s name kind vk vn vs hm aU p y Sa
    .by_cases u:kind=2
     .have e:(!decide (kind=1)&& !decide (kind=2))=false:=by simp[u]
      rw[e];exact Zha h m s name kind vk vn vs hm aU p y Sa (by simp[u])
     .have e:(!decide (kind=1)&& !decide (kind=2))=true:=by simp[k1,u]
      rw[e];exact Zhj h m s name kind vk vn vs hm aU p y Sa (by simp[u])
end
def LHeap.put(H:LHeap)(n:Int)(name:kB)(v:LVal)(fixed:Bool):LHeap×Int:=
 match H.object? n with
 |none=>(H,7)
 |some o=>
   match o.idx name with
   |some k=>({H with objects:=H.objects.set n.toNat {o with props:=o.props.modify k λp=>{p with v:=v}}},0)
   |none=>({H with objects:=H.objects.set n.toNat {o with props:=o.props++[⟨name,v,fixed⟩]}},0)
theorem Mt:(Tryz.prog.info? 101).map (λi=>(i.zero,i.size,i.bytes))=some (some (.agg #[.string ⟨#[]⟩,vI 0,vI 0,.string ⟨#[]⟩,.bool false]),5,56):=by kernel_rfl
def Z93{w:kV}{base:Nat}{e:TypeId}{m:Nat}{g cap n:Nat}{α:Type}{f:α->List Value}{l:List α}(hf:∀a,(f a).length=m)
 (h:w.ownsRow base e m (.slice (some ⟨g,0,none⟩) n cap) n (l.flatMap f)){k:Nat}{a a':α}(hk:l[k]?=some a){j:Nat}(I:j+2<m){x y z:Value}
 (ha:f a'=(((f a).set j x).set (j+1) y).set (j+2) z) :
 (((w.setCell ⟨g,k*m+j,none⟩ x).setCell ⟨g,k*m+j+1,none⟩ y).setCell ⟨g,k*m+j+2,none⟩ z).ownsRow base e m (.slice (some ⟨g,0,none⟩) n cap) n ((l.set k a').flatMap f):=by
 have p:=((((h.stored (k*m+j) x).1.stored (k*m+j+1) y).1).stored (k*m+j+2) z).1;have u:=getElem?_lt hk;have:(l.set k a').flatMap f=(((l.flatMap f).set (k*m+j) x).set (k*m+j+1) y).set (k*m+j+2) z:=by
  clear h p;induction l generalizing k with
  |nil=>simp at u
  |cons b l F=>
    cases k with
    |zero=>
      simp only[List.getElem?_cons_zero,Option.some.injEq]at hk;subst hk;refine Zvb ?_;rw[List.set_append_left _ _ (by rw[hf];omega),List.set_append_left _ _ Q9,List.set_append_left _ _ Q9,ha]
    |succ k=>
      simp only[List.getElem?_cons_succ]at hk;simp only[List.set_cons_succ,List.flatMap_cons];have e:(k+1)*m+j=(f b).length+(k*m+j):=Rf
      rw[e,List.set_append_right _ _ Px,Nat.add_sub_cancel_left,List.set_append_right _ _ Px,List.set_append_right _ _ Px];rw[show(f b).length+(k*m+j)+1-(f b).length=k*m+j+1 by omega,show(f b).length+(k*m+j)+2-(f b).length=k*m+j+2 by omega];rw[F hk (by simpa using u)]
 rw[this];exact p
def Zky{α:Type}{l:List α}{k:Nat}{a:α}(f:α->α)(h:l[k]?=some a):l.modify k f=l.set k (f a):=by
 induction l generalizing k with
 |nil=>simp at h
 |cons b l g=>
   cases k with
   |zero=>simp only[List.getElem?_cons_zero,Option.some.injEq]at h;subst h;rfl
   |succ k=>simp only[List.getElem?_cons_succ]at h;simp[List.modify_succ_cons,g h]
section
variable {ρ:Nat->Option Role}{w:kV}{hb ho:Nat}{L:HL}{H:LHeap}
def Zuo{w1:kV}{m k g c:Nat}{o:LObj}{p:LProp}{vk vn:Int}{vs:kB}(h:HeapAt ρ w1 hb ho L H)(hm:H.objects[m]?=some o)(hp:o.props[k]?=some p)
 (hv:L.pv m=.slice (some ⟨g,0,none⟩) o.props.length c) :
 ∃ ρ' F, HeapAt ρ' (((w1.setCell ⟨g, k * 5 + 1, none⟩ (vI vk)).setCell ⟨g, k * 5 + 1 + 1, none⟩ (vI vn)).setCell ⟨g, k * 5 + 1 + 2, none⟩ (.string vs)) hb ho F { H with objects := H.objects.set m { o with props := o.props.set k { p with v := ⟨vk, vn, vs⟩ } } } ∧
   Fr ρ ρ' hb ho w1 (((w1.setCell ⟨g,k*5+1,none⟩ (vI vk)).setCell ⟨g,k*5+1+1,none⟩ (vI vn)).setCell ⟨g,k*5+1+2,none⟩ (.string vs)):=by
 have dw:=getElem?_lt hm;obtain⟨I,u⟩:=h.obj m o hm;have J:g≠L.ob m:=λe=>by
  exact Xs
 rw[hv]at u;have hst:=Z93 (f:=LProp.cells) (m:=5) (λ_=>rfl) u hp (j:=1) Px (x:=(vI vk)) (y:=(vI vn)) (z:=.string vs) (a':={p with v:=⟨vk,vn,vs⟩}) rfl;have far:∀b,b≠g->(((w1.setCell ⟨g,k*5+1,none⟩ (vI vk)).setCell ⟨g,k*5+1+1,none⟩ (vI vn)).setCell ⟨g,k*5+1+2,none⟩ (.string vs)).heap[b]?=w1.heap[b]?:=λb hb=>by
  exact Zxm
 refine h.setProps hm (nv':=.slice (some ⟨g,0,none⟩) o.props.length c) (props':=o.props.set k {p with v:=⟨vk,vn,vs⟩}) ?_ ?_ PE ?_ ?_ rfl rfl rfl;·rw[far _ (Ne.symm J),<-hv];exact I
 .simp only[List.length_set];exact hst
 .exact Zsr
 .intro U O;rw[hv];exact .inl O
def Zvx{w1 w2:kV}{m g cap:Nat}{o:LObj}{nv:Value}{b:LProp}{T:TypeId}(h:HeapAt ρ w1 hb ho L H)(hm:H.objects[m]?=some o)(jQ:nv=L.pv m)
 (ac:w1.heap[L.ob m]?=some (.cells #[nv,vI o.code] 96 (0,0)))
 (F:((w1.alloc (.cells b.cells.toArray T)).drew).grownBy w2 nv.ownBlock)
 (af:w2.ownsRow 0 101 5 (.slice (some ⟨g,0,none⟩) (o.props.length+1) cap) (o.props.length+1) (o.props.flatMap LProp.cells++b.cells))
 (gM:nv.ownBlock=some g\/g=w1.heap.size+1) :
 ∃ ρ' O, HeapAt ρ' (w2.setCell ⟨L.ob m, 0, none⟩ (.slice (some ⟨g, 0, none⟩) (o.props.length + 1) cap)) hb ho O { H with objects := H.objects.set m { o with props := o.props ++ [b] } } ∧
   Fr ρ ρ' hb ho w1 (w2.setCell ⟨L.ob m,0,none⟩ (.slice (some ⟨g,0,none⟩) (o.props.length+1) cap)):=by
 have I:=getElem?_lt hm;have p:kW w1 ((w1.alloc (.cells b.cells.toArray T)).drew):=((Y2 _ _).alloc (Y0 _) _).drew;have u:L.ob m<w1.heap.size:=(Y1.1 ac).1;have y:nv.ownBlock≠some (L.ob m):=λe=>by
  rw[jQ]at e;have h1:=h.rpv m _ I e;rw[h.rob m I]at h1;cases h1
 have gJ:g≠L.ob m:=by
  rcases gM with h'|h';·rintro rfl;exact y h'
  .omega
 have U:w1.cell? ⟨L.ob m,0,none⟩=some nv:=PC
 obtain⟨k1,k2,k3,X,k5,k6,Y,Z,k9,jB⟩:=Z4d (.slice (some ⟨g,0,none⟩) (o.props.length+1) cap) p F u y U;have jc:w2.heap[L.ob m]?=some (.cells #[nv,vI o.code] 96 (0,0)):=
  (F.block _ (Y7 u p.size) (λe=>y e.symm)).trans ((p.block _ u).trans ac)
 refine h.setProps hm (nv':=.slice (some ⟨g,0,none⟩) (o.props.length+1) cap) (props':=o.props++[b]) ?_ ?_ Y ?_ ?_ Z k9 jB;·exact Zj _ jc
 .exact Ww
 .intro b' h1 h2 J;rw[<-jQ]at J;exact X b' h1 h2 J
 .exact Zzu
def Znk(h:HeapAt ρ w hb ho L H)(n:Int)(name:kB)(v:LVal)(fixed:Bool)(X:∀(m:Nat) (o:LObj),H.objects[m]?=some o->o.props.length<1099511627776) :
 kC 16 #[.pointer (some ⟨hb,ho,none⟩),vI n,.string name,v.agg,.bool fixed] w λe w'=>e=.returned (da (H.put n name v fixed).2)/\
  ∃ρ' F,HeapAt ρ' w' hb ho F (H.put n name v fixed).1/\Fr ρ ρ' hb ho w w':=by
 refine Zqt ?_;intro cA ew;obtain⟨vk,vn,vs⟩:=v;simp only[LVal.agg];refine Ut ?_;intro h1 cu;rcases hob:H.object? n with _|o
 .have HC:=lh (Z8h h1 n hob);have hd:H.put n name ⟨vk,vn,vs⟩ fixed=(H,7):=by simp[LHeap.put,hob]
  rw[hd];have HH:=lh h1;have HB:=lh cu;clear h h1 hob X hd cu;go_enter func16,ntmps16
  exact Tv
 .obtain⟨m,rfl,hm⟩:=LHeap.object?_some hob;have Y:=getElem?_lt hm;have HC:=lh (Z7a h1 m Y);have HF:=lh (Zdb h1 m o hm name);have ia:=X m o hm;rcases hk:o.idx name with _|k
  .have hd:H.put m name ⟨vk,vn,vs⟩ fixed=({H with objects:=H.objects.set m {o with props:=o.props++[⟨name,⟨vk,vn,vs⟩,fixed⟩]}},0):=by simp[LHeap.put,hob,hk]
   rw[hd];rw[hk]at HF;obtain⟨i0,hi,aC,bo,bQ⟩:=info_parts Mt;have HH:=lh h1;have I:=lh hm;clear h h1 hob X hd cu hm hk;go_enter func16,ntmps16
   go_wp2_with fail
   refine HC.o.mono ?_;rintro e w1⟨rfl,rfl⟩;go_wp2_with fail
   refine Zne ?_;intro w1 hB;obtain⟨q0,q1,q2,f0,f1,f2,hs,J⟩:=Z51 hB;have u:=HH.o.below hB;obtain⟨ac,y⟩:=u.obj m o I.o;obtain⟨nv,O⟩:=zX (L.pv m)
   rw[<-O]at ac y;have aK:L.ob m<w1.heap.size:=(Y1.1 ac).1;have d2:w1.cell? ⟨L.ob m,0,none⟩=some nv:=PC
   have kA:w1.frozen? ⟨L.ob m,0,none⟩=false:=Qg
   have pE:nv.ownBlock≠some (L.ob m):=λe=>by
    rw[O]at e;have h1:=u.rpv m _ Y e;rw[u.rob m Y]at h1;cases h1
   have qU:Hid (nv.ownBlock≠some w.heap.size):=λe=>by
    have h2:=HH.o.rpv m w.heap.size Y (by rw[<-O];exact e);exact absurd (ew w.heap.size (by rw[h2];simp)) Px
   obtain⟨eI,qT,HO,HN,HNe,av⟩:=gq u ac y O pE J;clear hB J u ac y O pE;go_wp2_with fail
   refine Z7 [0,2,4,6,8,10,12,14,16,19,21] [11,12,13] (λW=>vC W (L.ob m) 0 nv/\vC W w.heap.size 0 (vI vk)/\vC W w.heap.size 1 (vI vn)/\vC W w.heap.size 2 (.string vs)) ⟨d2,q0,q1,q2⟩ λ_=>?_;refine dU ?_
   iterate 9
    refine fa ?_
   refine Zuf ?_;intro K hK;refine step_append_lies _ PM (.tmp 40) (.tmp 45) 94 PM 0 101 i0 _ 5 56 underlying94 hi aC bo bQ rfl Py nv o.props.length (o.props.flatMap LProp.cells) PM ((HO.o.alloc _).drew) ⟨w1.heap.size,0,none⟩ 1 1 (LProp.cells ⟨name,⟨vk,vn,vs⟩,fixed⟩) PM rfl (Ya (cs:=(LProp.cells ⟨name,⟨vk,vn,vs⟩,fixed⟩).toArray) (t:=101) (fr:=(0,0)) (Yq w1 _)) (by simp[LProp.cells,Value.oneCell']) Py PA Px Px (w1.heap.size+1) PE ?_
   intro gg cap w2 aJ Z bZ ij;have U:∀b o,b<w1.heap.size->nv.ownBlock≠some b->w2.cell? ⟨b,o,none⟩=w1.cell? ⟨b,o,none⟩:=λb o ah aA=>(Z.cell_far ⟨b,o,none⟩ PB (λe=>aA e.symm)).trans (Zc ah);have rL:w2.frozen? ⟨L.ob m,0,none⟩=false:=(Z.frozen_far ⟨L.ob m,0,none⟩ PB (λe=>HNe.o e.symm)).trans ((TG aK).trans kA);have e2:=(U _ 0 aK HNe.o).trans d2;refine hK _ _ ⟨e2,(U _ 0 hs qU.o).trans q0,(U _ 1 hs qU.o).trans q1,(U _ 2 hs qU.o).trans q2⟩ ?_;clear hK K
   simp only[Act.put,zA,zB,zC];obtain⟨HG,HW,HT⟩:=ds Z aJ bZ;clear Z aJ bZ ij U;refine Z0 ?_;go_wp2;go_ret;refine⟨rfl,?_⟩;obtain⟨ρ',F,hA,hF⟩:=Zvx (b:=⟨name,⟨vk,vn,vs⟩,fixed⟩) eI.o I.o HN.o qT.o HG.o HW.o HT.o;exact⟨ρ',F,hA,(Fr.of_below cA av.o).trans hF⟩
  .obtain⟨p,hp,_⟩:=LObj.idx_some hk;have aX:=getElem?_lt hp;have hd:H.put m name ⟨vk,vn,vs⟩ fixed=({H with objects:=H.objects.set m {o with props:=o.props.set k {p with v:=⟨vk,vn,vs⟩}}},0):=by
    simp only[LHeap.put,hob,hk,Int.toNat_natCast];rw[Zky _ hp]
   rw[hd];rw[hk]at HF;obtain⟨p7,iG⟩:=h1.obj m o hm;rcases Z4 iG with⟨hv,hz⟩|⟨g,c,hv,h2,h3,cV⟩;·omega
   unfold maxLen at h3;obtain⟨HH,I,HP,HV⟩:=en h1 hm hp hv;clear h h1 hob X hd cu hm hk p7 iG hp hv;go_enter func16,ntmps16
   go_wp2_with fail
   refine HC.o.mono ?_;rintro e w1⟨rfl,rfl⟩;go_wp2_with fail
   refine Zne ?_;intro w1 hB;obtain⟨q0,q1,q2,f0,f1,f2,hs,J⟩:=Z51 hB;have u:=HH.o.below hB;obtain⟨ac,y⟩:=u.obj m o I.o;have d2:w1.cell? ⟨L.ob m,0,none⟩=some (.slice (some ⟨g,0,none⟩) o.props.length c):=by rw[<-HV.o];simp[vC,World.cell?,ac]
   have ae:=λj x=>SH (f:=LProp.cells) (m:=5) (λ_=>rfl) y (g:=g) QK (i:=k) (j:=j) (x:=x) HP.o;have r1:=ae 1 _ rfl;have r2:=ae 2 _ rfl;have r3:=ae 3 _ rfl;have z1:=Uf y (g:=g) QK (k*5+1);have z2:=Uf y (g:=g) QK (k*5+1+1);have z3:=Uf y (g:=g) QK (k*5+1+2);have eI:=lh u;have av:=lh J;clear hB J u ac y ae;go_wp2_with fail
   refine Z7 [0,2,4,6,8,10] [6,7,8] (λW=>vC W (L.ob m) 0 (.slice (some ⟨g,0,none⟩) o.props.length c)/\vC W w.heap.size 0 (vI vk)/\vC W w.heap.size 1 (vI vn)/\vC W w.heap.size 2 (.string vs)) ⟨d2,q0,q1,q2⟩ λ_=>?_;refine dU ?_
   iterate 6
    refine fa ?_
   refine Z0 ?_;go_wp2;go_ret;refine⟨rfl,?_⟩;obtain⟨ρ',F,hA,hF⟩:=Zuo (vk:=vk) (vn:=vn) (vs:=vs) eI.o I.o HP.o HV.o;refine⟨ρ',F,?_,?_⟩;·exact hA.drew
   .exact((Fr.of_below cA av.o).trans hF).drew
end
