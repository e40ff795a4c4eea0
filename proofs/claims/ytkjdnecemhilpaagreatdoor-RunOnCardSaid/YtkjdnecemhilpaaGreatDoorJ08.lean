import Derived.Test.YtkjdnecemhilpaaGreatDoorJ07
set_option maxRecDepth 100000
set_option maxHeartbeats 20000000
set_option linter.all false
namespace Go.Proofs.YtkjdnecemhilpaaGreatDoor
open Go Go.RowKit Go.Proofs.Tryz Tryz
structure RFr(w w':kV)(rb:Nat):Prop where
 os:w'.os=w.os
 tape:w'.tape=w.tape
 output:w'.output=w.output
 size:w.heap.size<=w'.heap.size
 block:∀k,k<w.heap.size->k≠rb->w'.heap[k]?=w.heap[k]?
theorem RFr.refl(w:kV)(rb:Nat):RFr w w rb:=⟨rfl,rfl,rfl,Y0 _,λ_ _ _=>rfl⟩
theorem RFr.trans{w w' dN:kV}{rb:Nat}(h:RFr w w' rb)(g:RFr w' dN rb):RFr w dN rb:=
 ⟨g.os.trans h.os,g.tape.trans h.tape,g.output.trans h.output,Y4 h.size g.size,λk hk hn=>(g.block k (Y7 hk h.size) hn).trans (h.block k hk hn)⟩
theorem RFr.below{w w':kV}{rb:Nat}(h:kW w w'):RFr w w' rb:=⟨h.os,h.tape,h.output,h.size,λk hk _=>h.block k hk⟩
theorem RFr.drew{w w':kV}{rb:Nat}(h:RFr w w' rb):RFr w w'.drew rb:=⟨h.os,h.tape,h.output,h.size,h.block⟩
def lH:Nat->List kB
 |0=>[Ez]
 |1=>[VG]
 |2=>[V3]
 |3=>[Ws]
 |4=>[Vi,VM]
 |5=>[WN]
 |_=>[]
def EO(w:kV)(rb:Nat):Prop:=∀lv,lv<6->∃b off cap,4<rb/\b<rb/\w.cell? ⟨4,lv,none⟩=some (.slice (some ⟨b,off,none⟩) (lH lv).length cap)/\
 (lH lv).length<=cap/\∀i x,(lH lv)[i]?=some x->w.cell? ⟨b,off+i,none⟩=some (.string x)
def EO.keep{w w':kV}{rb:Nat}(h:EO w rb)(hk:∀k,k<rb->w'.heap[k]?=w.heap[k]?):EO w' rb:=by
 intro lv hl;obtain⟨b,off,cap,g,m,o,p,h5⟩:=h lv hl;exact⟨b,off,cap,g,m,(Yb (hk _ g)).trans o,p,λi x hx=>(Yb (hk b m)).trans (h5 i x hx)⟩
structure RAt(w:kV)(rb tb off cap:Nat)(ts:List Tok)(d:Nat):Prop where
 blk:w.heap[rb]?=some (.cells #[.slice (some ⟨tb,off,none⟩) ts.length cap,vI d] 54 (0,0))
 le:ts.length<=cap
 most:cap<=maxLen
 ord:tb<rb
 lt:tb<w.heap.size
 cells:∀k t j x,ts[k]?=some t->t.cells[j]?=some x->w.cell? ⟨tb,off+(k*4+j),none⟩=some x
 last:∃l e,ts=l++[e]/\e.kind=6/\∀t∈l,t.kind≠6
 lev:EO w rb
def Rd(w:kV)(rb:Nat)(ts:List Tok)(d:Nat):Prop:=∃tb off cap,RAt w rb tb off cap ts d
section
variable {w w':kV}{rb tb off cap d:Nat}{ts:List Tok}
theorem RAt.ne(h:RAt w rb tb off cap ts d):tb≠rb:=by have:=h.ord;omega
theorem RAt.keep(h:RAt w rb tb off cap ts d)(hs:w.heap.size<=w'.heap.size)(hr:w'.heap[rb]?=w.heap[rb]?)(ht:w'.heap[tb]?=w.heap[tb]?)(hl:∀k,k<rb->w'.heap[k]?=w.heap[k]?):RAt w' rb tb off cap ts d:=
 ⟨hr.trans h.blk,h.le,h.most,h.ord,Y7 h.lt hs,λk t j x g m=>(Yb ht).trans (h.cells k t j x g m),h.last,h.lev.keep hl⟩
theorem RAt.rlt(h:RAt w rb tb off cap ts d):rb<w.heap.size:=(Y1.1 h.blk).1
theorem RAt.below(h:RAt w rb tb off cap ts d)(g:kW w w'):RAt w' rb tb off cap ts d:=h.keep g.size (g.block rb h.rlt) (g.block tb h.lt) λk hk=>g.block k (Nat.lt_trans hk h.rlt)
theorem Rd.keep(h:Rd w rb ts d)(hs:w.heap.size<=w'.heap.size)(hk:∀k,k<=rb->w'.heap[k]?=w.heap[k]?):Rd w' rb ts d:=by
 obtain⟨tb,off,cap,h⟩:=h;exact⟨tb,off,cap,h.keep hs (hk rb (Y0 _)) (hk tb (Nat.le_of_lt h.ord)) λk h=>hk k (Nat.le_of_lt h)⟩
theorem Rd.below(h:Rd w rb ts d)(g:kW w w'):Rd w' rb ts d:=by obtain⟨tb,off,cap,h⟩:=h;exact⟨tb,off,cap,h.below g⟩
theorem Rd.rlt(h:Rd w rb ts d):rb<w.heap.size:=by obtain⟨tb,off,cap,h⟩:=h;exact h.rlt
theorem RAt.drew(h:RAt w rb tb off cap ts d):RAt w.drew rb tb off cap ts d:=h.keep (Y0 _) rfl rfl λ_ _=>rfl
theorem Rd.drew(h:Rd w rb ts d):Rd w.drew rb ts d:=by obtain⟨tb,off,cap,h⟩:=h;exact⟨tb,off,cap,h.drew⟩
theorem RAt.c0(h:RAt w rb tb off cap ts d):w.cell? ⟨rb,0,none⟩=some (.slice (some ⟨tb,off,none⟩) ts.length cap):=by simp[vC,World.cell?,h.blk]
theorem RAt.c1(h:RAt w rb tb off cap ts d):w.cell? ⟨rb,1,none⟩=some (vI d):=by simp[vC,World.cell?,h.blk]
theorem RAt.fz(h:RAt w rb tb off cap ts d)(i:Nat):w.frozen? ⟨rb,i,none⟩=false:=by simp[World.frozen?,h.blk]
def RAt.head(h:RAt w rb tb off cap ts d):∃l,ts=al ts::l:=by
 obtain⟨l,e,g,_,_⟩:=h.last;cases ts with
 |nil=>simp at g
 |cons t m=>exact⟨m,rfl⟩
def RAt.hd(h:RAt w rb tb off cap ts d){j:Nat}{x:Value}(g:(al ts).cells[j]?=some x):w.cell? ⟨tb,off+j,none⟩=some x:=by
 obtain⟨l,hl⟩:=h.head;have:=h.cells 0 (al ts) j x (by rw[hl];rfl) g;simpa using this
theorem RAt.pos(h:RAt w rb tb off cap ts d):0<ts.length:=by obtain⟨l,hl⟩:=h.head;rw[hl];simp
def RAt.two(h:RAt w rb tb off cap ts d)(hk:(al ts).kind≠6):2<=ts.length:=by
 obtain⟨l,e,g,m,_⟩:=h.last;cases l with
 |nil=>rw[g]at hk;exact absurd m hk
 |cons a l=>rw[g];simp
theorem RAt.tail(h:RAt w rb tb off cap ts d)(hk:(al ts).kind≠6):RAt (w.setCell ⟨rb,0,none⟩ (.slice (some ⟨tb,off+4,none⟩) (ts.length-1) (cap-1))) rb tb (off+4) (cap-1) ts.tail d:=by
 obtain⟨l,hl⟩:=h.head;have G:=h.two hk;have I:=h.le;refine⟨?_,?_,by have:=h.most;omega,h.ord,by rw[Yf];exact h.lt,λk t j x m y=>?_,?_,?_⟩
 .have:=Zk (o:=0) (.slice (some ⟨tb,off+4,none⟩) (ts.length-1) (cap-1)) h.blk;rw[List.length_tail];exact this
 .rw[List.length_tail];omega
 .have h5:=h.cells (k+1) t j x (by rw[hl]at m ⊢;simpa using m) y;have hb:=Y8 w ⟨rb,0,none⟩ (.slice (some ⟨tb,off+4,none⟩) (ts.length-1) (cap-1)) tb h.ne;rw[show off+4+(k*4+j)=off+((k+1)*4+j) by omega];exact(Yb hb).trans h5
 .obtain⟨g,e,p,u,F⟩:=h.last;cases g with
  |nil=>rw[p]at hk;exact absurd u hk
  |cons a g=>exact⟨g,e,by rw[p];rfl,u,λt ht=>F t (List.mem_cons_of_mem _ ht)⟩
 .exact h.lev.keep λk hk=>Y8 _ _ _ _ (by simp only;omega)
def RAt.deep(h:RAt w rb tb off cap ts d){x:Int}{d':Nat}(hx:x=d'):RAt (w.setCell ⟨rb,1,none⟩ (vI x)) rb tb off cap ts d':=by
 subst hx;have hb:=Y8 w ⟨rb,1,none⟩ (vI (d':Int)) tb h.ne;exact⟨Zk (o:=1) (vI (d':Int)) h.blk,h.le,h.most,h.ord,by rw[Yf];exact h.lt,λk t j x g m=>(Yb hb).trans (h.cells k t j x g m),h.last,h.lev.keep λk hk=>Y8 _ _ _ _ (by simp only;omega)⟩
def RFr.set(h:RFr w w' rb)(o:Nat)(x:Value):RFr w (w'.setCell ⟨rb,o,none⟩ x) rb:=
 ⟨h.os,h.tape,h.output,by rw[Yf];exact h.size,λk hk hn=>(Y8 _ _ _ _ hn).trans (h.block k hk hn)⟩
end
def Zq3{s:kB}{ts:List Tok}(h:ad s ts=true):(al ts).kind≠6:=by
 simp only[ad,Bool.and_eq_true,Bool.or_eq_true,decide_eq_true_eq]at h;omega
def SK(w:kV)(rb:Nat)(ts:List Tok)(d:Nat)(s:kB)(u:Rd w rb ts d) :
 kC 40 #[vP rb,.string s] w λe w'=>e=.returned (.bool (ad s ts))/\kW w w':=by
 obtain⟨tb,off,cap,h⟩:=u;have c0:=h.c0;refine Zqr ?_;intro t0 t1 t2 t3;have hp:=h.pos;refine Zp3 ?_;intro hm dt n hn;rw[<-hn]at c0 hp dt;have y:=h.lt;have F:=h.rlt;obtain⟨B,g⟩:=zX (ad s ts)
 rw[<-g];unfold ad at g;obtain⟨⟨k,tx,I,J⟩,ht⟩:∃t,t=al ts:=⟨_,rfl⟩
 rw[<-ht]at t0 t1 t2 t3 g;simp only[Nat.add_zero]at t0 g;clear ht hn h;have p:∀o,kW w (w.alloc o):=λo=>(Y2 _ _).alloc (Y0 _) o;have uZ:=lh p;clear p;by_cases h5:k=5
 .subst h5;have m:B=Zh tx s:=by simpa using g
  have HB:=lh m;clear g m;exact Zyk
 have O:(k==5)=false:=Sp
 by_cases h2:k=2
 .subst h2;have m:B=Zh tx s:=by simpa using g
  have HB:=lh m;clear g m h5;exact Zyk
 have U:(k==2)=false:=Sq
 have m:B=false:=by rw[g];simp[h5,h2]
 have HB:=lh m;clear g m h5 h2;go_enter func40,ntmps40
 go_wp2;go_ret;rw[HB.o];exact⟨rfl,uZ.o _⟩
def yn(w:kV)(rb:Nat)(ts:List Tok)(d:Nat)(s:kB)(m:Rd w rb ts d)(hs:ad s ts=false) :
 kC 74 #[vP rb,.string s] w λe w'=>e=.returned (.bool false)/\kW w w':=by
 have g:=SK w rb ts d s m;rw[hs]at g;have g:=lh g;clear hs m;go_enter func74,ntmps74
 go_wp2_with fail
 refine g.o.mono ?_;rintro e w1⟨rfl,o⟩;have p:=lh o;clear o;go_wp2;go_ret;exact⟨rfl,p.o⟩
def xi(w:kV)(rb:Nat)(ts:List Tok)(d:Nat)(s:kB)(m:Rd w rb ts d)(hs:ad s ts=true) :
 kC 74 #[vP rb,.string s] w λe w'=>e=.returned (.bool true)/\Rd w' rb ts.tail d/\RFr w w' rb:=by
 have g:=SK w rb ts d s m;rw[hs]at g;obtain⟨g,u,p⟩:=ds g m (Zq3 hs);clear hs m;go_enter func74,ntmps74
 go_wp2_with fail
 refine g.o.mono ?_;rintro e w1⟨rfl,o⟩;obtain⟨tb,off,cap,h⟩:=u.o.below o;have c0:=h.c0;have z0:=h.fz 0;have y:=h.two p.o;have F:=h.most;have G:=h.le;unfold maxLen at F;have H:=lh h;have I:=lh o;obtain⟨n,hn⟩:=zX ts.length
 rw[<-hn]at c0 y G;have J:=lh hn;clear o h hn g;go_wp2;go_ret;refine⟨rfl,⟨tb,off+4,cap-1,?_⟩,?_⟩
 .have:=H.o.tail p.o;rw[<-J.o]at this;exact this
 .exact(RFr.below I.o).set _ _
inductive ATree
 |mk(b:Nat)(v:Value)(kind:Int)(text:kB)(n:Int)(kids:List ATree)
def ATree.b:ATree->Nat| .mk b _ _ _ _ _=>b
def ATree.v:ATree->Value| .mk _ v _ _ _ _=>v
def ATree.kind:ATree->Int| .mk _ _ k _ _ _=>k
def ATree.text:ATree->kB| .mk _ _ _ t _ _=>t
def ATree.n:ATree->Int| .mk _ _ _ _ n _=>n
def ATree.kids:ATree->List ATree| .mk _ _ _ _ _ l=>l
def ATree.ptr(a:ATree):Value:=(vP a.b)
mutual
def ATree.tree:ATree->Tree
 | .mk _ _ k t n l=>.mk k t n (f6 l)
def f6:List ATree->List Tree
 | []=>[]
 |a::l=>a.tree::f6 l
end
mutual
def ATree.blocks:ATree->List Nat
 | .mk b v _ _ _ l=>b::(v.ownBlock.toList++x6 l)
def x6:List ATree->List Nat
 | []=>[]
 |a::l=>a.blocks++x6 l
end
def Zan(l:List ATree):f6 l=l.map ATree.tree:=by
 induction l with
 |nil=>rfl
 |cons a l g=>simp[f6,g]
def XT(l:List ATree):x6 l=l.flatMap ATree.blocks:=by
 induction l with
 |nil=>rfl
 |cons a l g=>simp[x6,g]
theorem Zmq(l m:List ATree):f6 (l++m)=f6 l++f6 m:=by simp[Zan]
theorem Zab(l m:List ATree):x6 (l++m)=x6 l++x6 m:=by simp[XT]
theorem AaV(a:ATree):a.b∈a.blocks:=by cases a;simp[ATree.blocks,ATree.b]
inductive TreeAt(w:kV)(B:Nat):ATree->Prop
 |mk {b:Nat} {v:Value} {kind:Int} {text:kB} {n:Int} {kids:List ATree} (blk:w.heap[b]?=some (.cells #[vI kind,.string text,vI n,v] 28 (0,0)))
  (le:B<=b) (row:w.ownsRow B 22 1 v kids.length (kids.map ATree.ptr)) (all:∀a∈kids,TreeAt w B a):TreeAt w B (.mk b v kind text n kids)
section
variable {w w':kV}{B rb:Nat}{a:ATree}
def TreeAt.keep(h:TreeAt w B a)(hb:∀k,B<=k->k<w.heap.size->w'.heap[k]?=w.heap[k]?):TreeAt w' B a:=by
 induction h with
 |mk blk le row _ o=>
   exact .mk ((hb _ le (Y1.1 blk).1).trans blk) le (Z3 row λg m=>hb g (row.lt g m).1 (row.lt g m).2) o
def TreeAt.keepB(h:TreeAt w B a)(hb:∀k∈a.blocks,w'.heap[k]?=w.heap[k]?):TreeAt w' B a:=by
 induction h with
 | @mk b v kind text n kids blk le row _ o=>
   refine .mk ((hb b RZ).trans blk) le (Z3 row λg p=>hb g (by simp[ATree.blocks,p])) λa m=>o a m λk hk=>hb k ?_;simp only[ATree.blocks,XT,List.mem_cons,List.mem_append,List.mem_flatMap];exact .inr (.inr ⟨a,m,hk⟩)
def TreeAt.has(h:TreeAt w B a):∀k∈a.blocks,B<=k/\k<w.heap.size:=by
 induction h with
 | @mk b v kind text n kids blk le row _ g=>
   intro k hk;simp only[ATree.blocks,XT,List.mem_cons,List.mem_append,List.mem_flatMap,Option.mem_toList]at hk;rcases hk with rfl|hk|⟨a,m,hk⟩;·exact⟨le,(Y1.1 blk).1⟩
   .exact row.lt k hk
   .exact g a m k hk
theorem TreeAt.bel(h:TreeAt w B a)(g:kW w w'):TreeAt w' B a:=h.keep λk _ hk=>g.block k hk
theorem TreeAt.rfr(h:TreeAt w B a)(hr:rb<B)(f:RFr w w' rb):TreeAt w' B a:=h.keep λk hk hl=>f.block k hl Qe
theorem TreeAt.drew(h:TreeAt w B a):TreeAt w.drew B a:=h.keep λ_ _ _=>rfl
theorem TreeAt.blkOf(h:TreeAt w B a):w.heap[a.b]?=some (.cells #[vI a.kind,.string a.text,vI a.n,a.v] 28 (0,0)):=by cases h;assumption
theorem TreeAt.rowOf(h:TreeAt w B a):w.ownsRow B 22 1 a.v a.kids.length (a.kids.map ATree.ptr):=by cases h;assumption
theorem TreeAt.kid(h:TreeAt w B a){k:ATree}(hk:k∈a.kids):TreeAt w B k:=by cases h;rename_i g;exact g k hk
theorem TreeAt.le(h:TreeAt w B a):B<=a.b:=by cases h;assumption
theorem TreeAt.lt(h:TreeAt w B a):a.b<w.heap.size:=(Y1.1 h.blkOf).1
def TreeAt.base{g:Nat}(h:TreeAt w B a)(m:g<=B):TreeAt w g a:=by
 induction h with
 |mk blk le row _ o=>exact .mk blk (Y4 m le) (Z97 m row) o
end
def Zcv(w:kV)(base:Nat)(e:Ending)(c p:Int):Prop:=
 ∃b,e=.panicked [{v:=.iface 50 (.agg #[.iface 99 (vP b)]),recovered:=false}]/\base<=b/\w.heap[b]?=some (.cells #[vI c,vI p] 101 (0,0))
structure Got(w:kV)(B:Nat)(w':kV)(a:ATree)(t:Tree):Prop where
 tree:a.tree=t
 at':TreeAt w' B a
 nodup:a.blocks.Nodup
 new:∀x∈a.blocks,w.heap.size<=x/\x<w'.heap.size
theorem Got.rfr{w w' dN:kV}{B rb:Nat}{a:ATree}{t:Tree}(h:Got w B w' a t)(hr:rb<B)(f:RFr w' dN rb):Got w B dN a t:=
 ⟨h.tree,h.at'.rfr hr f,h.nodup,λx hx=>⟨(h.new x hx).1,Y7 (h.new x hx).2 f.size⟩⟩
def Got.pre{w w' dN:kV}{B rb:Nat}{a:ATree}{t:Tree}(h:Got w' B dN a t)(f:RFr w w' rb):Got w B dN a t:=
 ⟨h.tree,h.at',h.nodup,λx hx=>⟨Y4 f.size (h.new x hx).1,(h.new x hx).2⟩⟩
def mA(w:kV)(rb B d:Nat)(r:Except (Int×Nat) (Tree×List Tok))(e:Ending)(w':kV):Prop:=
 match r with
 | .ok (t,ts)=>∃a,e=.returned (vP a.b)/\Got w B w' a t/\Rd w' rb ts d/\RFr w w' rb
 | .error (c,p)=>Zcv w' w.heap.size e c p/\RFr w w' rb
def TreeAt.new{w:kV}{B:Nat}{v:Value}{kind:Int}{text:kB}{n:Int}{kids:List ATree}(m:B<=w.heap.size)(row:w.ownsRow B 22 1 v kids.length (kids.map ATree.ptr))(g:∀a∈kids,TreeAt w B a) :
 TreeAt (w.alloc (.cells #[vI kind,.string text,vI n,v] 28)) B (.mk w.heap.size v kind text n kids):=by
 have o:kW w (w.alloc (.cells #[vI kind,.string text,vI n,v] 28)):=(Y2 _ _).alloc (Y0 _) _;exact .mk (Yq w _) m (row.alloc _) λa p=>(g a p).bel o
structure Pre(w:kV)(rb B d:Nat)(ts:List Tok):Prop where
 rd:Rd w rb ts d
 deep:d<=30
 lt:rb<B
 le:B<=w.heap.size
 few:ts.length<=4000
theorem Pre.below{w w':kV}{rb B d:Nat}{ts:List Tok}(h:Pre w rb B d ts)(g:kW w w'):Pre w' rb B d ts:=
 ⟨h.rd.below g,h.deep,h.lt,Y4 h.le g.size,h.few⟩
def Pre.next{w w':kV}{rb B d:Nat}{ts ts':List Tok}(h:Pre w rb B d ts)(g:Rd w' rb ts' d)(f:RFr w w' rb)(hl:ts'.length<=ts.length):Pre w' rb B d ts':=
 ⟨g,h.deep,h.lt,Y4 h.le f.size,Y4 hl h.few⟩
theorem Pre.tail{w w':kV}{rb B d:Nat}{ts:List Tok}(h:Pre w rb B d ts)(g:Rd w' rb ts.tail d)(f:RFr w w' rb):Pre w' rb B d ts.tail:=h.next g f (by cases ts<;>simp)
def ay(F:FuncId)(args:Nat->Array Value)(g:Job)(f:Nat):Prop:=
 ∀(w:kV) (rb B d:Nat) (ts:List Tok) (r:Except (Int×Nat) (Tree×List Tok)),Pre w rb B d ts->Z0 f g d ts=some r->Calls Tryz.prog F (args rb) w (mA w rb B d r)
def bO(rb:Nat):Array Value:=#[vP rb]
theorem mA.pre{w w1 w2:kV}{rb B d:Nat}{r:Except (Int×Nat) (Tree×List Tok)}{e:Ending}(f:RFr w w1 rb)(h:mA w1 rb B d r e w2):mA w rb B d r e w2:=by
 rcases r with⟨c,p⟩|⟨t,ts⟩
 .obtain⟨⟨b,m,o,u⟩,g⟩:=h;exact⟨⟨b,m,Y4 f.size o,u⟩,f.trans g⟩
 .obtain⟨a,m,o,u,y⟩:=h;exact⟨a,m,o.pre f,u,f.trans y⟩
def mA.err{w w1 w2:kV}{rb B d:Nat}{e:Ending}{c:Int}{p:Nat}(f:RFr w w1 rb)(h:Zcv w2 w1.heap.size e c p)(g:kW w1 w2):mA w rb B d (.error (c,p)) e w2:=by
 obtain⟨b,m,o,u⟩:=h;exact⟨⟨b,m,Y4 f.size o,u⟩,f.trans (RFr.below g)⟩
def Zg{p:PR}{k:Tree->List Tok->PR}{r:Except (Int×Nat) (Tree×List Tok)}(h:Zn p k=some r):(∃e,p=some (.error e)/\r=.error e)\/∃t ts,p=some (.ok (t,ts))/\k t ts=some r:=by
 cases p with
 |none=>simp[Zn]at h
 |some x=>
   cases x with
   |error e=>exact .inl ⟨e,rfl,by simpa[Zn]using h.symm⟩
   |ok y=>obtain⟨t,ts⟩:=y;exact .inr ⟨t,ts,rfl,h⟩
def Un{s:kB}{ts:List Tok}{k:List Tok->PR}{r:Except (Int×Nat) (Tree×List Tok)}(h:iE s ts k=some r):(ad s ts=true/\k ts.tail=some r)\/(ad s ts=false/\r=.error (3,(al ts).at')):=by
 unfold iE at h;by_cases hs:ad s ts=true;·rw[Y5 hs]at h;exact .inl ⟨hs,h⟩
 .rw[Y3 hs]at h;exact .inr ⟨by simpa using hs,by simpa[r']using h.symm⟩
def XO{ts:List Tok}{k:kB->List Tok->PR}{r:Except (Int×Nat) (Tree×List Tok)}(h:tK ts k=some r):((al ts).kind=1/\k (al ts).text ts.tail=some r)\/((al ts).kind≠1/\r=.error (3,(al ts).at')):=by
 unfold tK at h;by_cases hs:(al ts).kind=1;·rw[Y5 hs]at h;exact .inl ⟨hs,h⟩
 .rw[Y3 hs]at h;exact .inr ⟨hs,by simpa[r']using h.symm⟩
def Got.push{w0 wA w w1 w2:kV}{rb B b d g cap:Nat}{v:Value}{k n:Int}{t:kB}{kids:List ATree}{a:ATree}{tn Z:Tree}{ts:List Tok}(hr:rb<B)(cu:B<=w0.heap.size)
 (N:Got w0 B w (.mk b v k t n kids) tn)(U:∀x∈(ATree.mk b v k t n kids).blocks,x<wA.heap.size)(A:Got wA B w a Z)(F:RFr w0 w rb)(R:Rd w rb ts d)
 (p:kW w w1)(u:w1.grownBy w2 v.ownBlock)(af:w2.ownsRow B 22 1 (.slice (some ⟨g,0,none⟩) (kids.length+1) cap) (kids.length+1) (kids.map ATree.ptr++[a.ptr]))
 (O:v.ownBlock=some g\/w.heap.size<=g)(cX:g<w2.heap.size) :
 Got w0 B (w2.setCell ⟨b,3,none⟩ (.slice (some ⟨g,0,none⟩) (kids.length+1) cap)) (.mk b (.slice (some ⟨g,0,none⟩) (kids.length+1) cap) k t n (kids++[a])) (.mk k t n (f6 kids++[Z]))/\
  RFr w0 (w2.setCell ⟨b,3,none⟩ (.slice (some ⟨g,0,none⟩) (kids.length+1) cap)) rb/\Rd (w2.setCell ⟨b,3,none⟩ (.slice (some ⟨g,0,none⟩) (kids.length+1) cap)) rb ts d:=by
 have dK:=N.nodup;simp only[ATree.blocks,List.nodup_cons,List.mem_append,List.nodup_append,Option.mem_toList,not_or]at dK;obtain⟨⟨ai,aw⟩,_,cB,aT⟩:=dK;have cO:b<w.heap.size:=N.at'.lt;have X:w0.heap.size<=b:=(N.new b RZ).1;have I:∀x,v.ownBlock=some x->w0.heap.size<=x/\x<wA.heap.size/\x<w.heap.size:=λx hx=>
  ⟨(N.new x Rh).1,U x Rh,(N.new x Rh).2⟩
 have O4:b<wA.heap.size:=U b RZ;have aL:w.heap.size<=w2.heap.size:=Y4 p.size u.size;have Y:(w2.setCell ⟨b,3,none⟩ (.slice (some ⟨g,0,none⟩) (kids.length+1) cap)).heap.size=w2.heap.size:=Yf ..;have cM:∀x,x<w.heap.size->v.ownBlock≠some x->w2.heap[x]?=w.heap[x]?:=λx hx hn=>(u.block x (Y7 hx p.size) (λe=>hn e.symm)).trans (p.block x hx)
 have far:∀x,x<w.heap.size->x≠b->v.ownBlock≠some x->(w2.setCell ⟨b,3,none⟩ (.slice (some ⟨g,0,none⟩) (kids.length+1) cap)).heap[x]?=w.heap[x]?:=λx hx g9 hn=>(Y8 _ _ _ _ g9).trans (cM x hx hn);have gJ:g≠b:=by
  rcases O with h|h;·rintro rfl;exact ai h
  .omega
 have Mg:∀x∈a.blocks,g≠x:=λx hx=>by
  have J:=A.new x hx;rcases O with h|h;·have:=I g h;omega
  .omega
 have zt:∀x∈x6 kids,g≠x:=λx hx=>by
  rcases O with h|h;·exact aT g h x hx
  .have:=(N.new x Rh).2;omega
 have tP:w0.heap.size<=g:=by
  rcases O with h|h;·exact(I g h).1
  .have:=F.size;omega
 refine⟨⟨?_,?_,?_,?_⟩,⟨?_,?_,?_,?_,?_⟩,?_⟩
 .simp only[ATree.tree,Zmq,f6];rw[A.tree]
 .refine .mk ?_ N.at'.le ?_ λx hx=>?_
  .have J:=(cM b cO ai).trans N.at'.blkOf;exact Zk (o:=3) _ J
  .rw[Yi,Yl];exact Z3 af λg' eQ=>Y8 _ _ _ _ (by simp only[Value.ownBlock,Option.some.injEq]at eQ;rw[<-eQ];exact gJ)
  .rcases List.mem_append.1 hx with hx|hx
   .have hT:=N.at'.kid (k:=x) hx;refine hT.keepB λy m=>?_;have zu:y∈x6 kids:=by rw[XT];exact List.mem_flatMap.2 ⟨x,hx,m⟩
    exact far y (hT.has y m).2 (λe=>aw (by rw[<-e];exact zu)) (λe=>aT y e y zu rfl)
   .simp only[List.mem_singleton]at hx;subst hx;refine A.at'.keepB λy m=>?_;have J:=A.new y m;exact far y J.2 Qe (λe=>by have:=I y e;omega)
 .simp only[ATree.blocks,Value.ownBlock,Zab,x6,List.append_nil,List.nodup_cons,List.mem_append,List.nodup_append,Option.toList,List.mem_cons,List.not_mem_nil,or_false,not_or,List.nodup_nil,not_false_eq_true,true_and];refine⟨⟨λe=>gJ e.symm,aw,λhm=>by have :=A.new b hm;omega⟩,⟨cB,A.nodup,λx hx y m e=>by have J:=U x (by simp[ATree.blocks,hx]);have h2:=A.new y m;omega⟩,?_⟩;rintro x rfl y m;rcases m with m|m;·exact zt y m
  .exact Mg y m
 .intro x hx;rw[Y];simp only[ATree.blocks,Value.ownBlock,Zab,x6,List.append_nil,List.mem_cons,List.mem_append,Option.toList,List.not_mem_nil,or_false]at hx;rcases hx with rfl|rfl|hx|hx;·exact⟨X,by omega⟩
  .exact⟨tP,cX⟩
  .have:=N.new x Rh;omega
  .have:=A.new x hx;omega
 .exact(u.os.trans p.os).trans F.os
 .exact(u.tape.trans p.tape).trans F.tape
 .exact(u.output.trans p.output).trans F.output
 .rw[Y];have:=F.size;omega
 .intro x hx hn;have:=F.size;exact(far x Qe Qe (λe=>by have:=I x e;omega)).trans (F.block x hx hn)
 .have:=F.size;exact R.keep (by rw[Y];exact aL) λx hx=>far x (by have:=R.rlt;omega) Qe (λe=>by have:=I x e;omega)
def Got.text{w0 w:kV}{rb B b d:Nat}{v:Value}{k n:Int}{t t':kB}{kids:List ATree}{l:List Tree}{ts:List Tok}(hr:rb<B)(Y:B<=w0.heap.size)
 (N:Got w0 B w (.mk b v k t n kids) (.mk k t n l))(F:RFr w0 w rb)(R:Rd w rb ts d) :
 Got w0 B (w.setCell ⟨b,1,none⟩ (.string t')) (.mk b v k t' n kids) (.mk k t' n l)/\RFr w0 (w.setCell ⟨b,1,none⟩ (.string t')) rb/\Rd (w.setCell ⟨b,1,none⟩ (.string t')) rb ts d:=by
 have m:=N.nodup;simp only[ATree.blocks,List.nodup_cons,List.mem_append,Option.mem_toList,not_or]at m;obtain⟨⟨u,I⟩,_⟩:=m;have J:w0.heap.size<=b:=(N.new b RZ).1;have p:(w.setCell ⟨b,1,none⟩ (.string t')).heap.size=w.heap.size:=Yf ..;have far:∀x,x≠b->(w.setCell ⟨b,1,none⟩ (.string t')).heap[x]?=w.heap[x]?:=λx hx=>Y8 _ _ _ _ hx
 refine⟨⟨?_,?_,N.nodup,?_⟩,⟨F.os,F.tape,F.output,by rw[p];exact F.size,λx hx hn=>(far x Qe).trans (F.block x hx hn)⟩,R.keep Qe λx hx=>far x Qe⟩
 .have:=N.tree;simp only[ATree.tree,Tree.mk.injEq,true_and]at this ⊢;exact this
 .refine .mk (Zk (o:=1) _ N.at'.blkOf) N.at'.le (Z3 N.at'.rowOf λg O=>far g (λe=>u (by rw[<-e];exact O))) λx hx=>?_;have U:=N.at'.kid (k:=x) hx;refine U.keepB λy X=>far y λe=>I ?_;rw[XT,<-e];exact List.mem_flatMap.2 ⟨x,hx,X⟩
 .intro x hx;rw[p];exact N.new x hx
def Got.leaf{w0 w:kV}{rb B:Nat}{k:Int}{t:kB}{n:Int}(g:B<=w0.heap.size)(F:RFr w0 w rb) :
 Got w0 B (w.alloc (.cells #[vI k,.string t,vI n,.slice none 0 0] 28)) (.mk w.heap.size (.slice none 0 0) k t n []) (.mk k t n []):=by
 have hs:=F.size;exact⟨rfl,TreeAt.new (Y4 g hs) (World.ownsRow_nil _ _ _ _) (λa m=>by cases m),by simp[ATree.blocks,Value.ownBlock,x6],λx hx=>by
  simp only[ATree.blocks,Value.ownBlock,Option.toList,x6,List.append_nil,List.mem_cons,List.not_mem_nil,or_false]at hx;subst hx;exact⟨hs,by simp⟩⟩
def Zsb{w:kV}{B:Nat}{l:List ATree}(g:B<=w.heap.size)(hl:l.length<=1000) :
 (w.alloc (.cells (l.map ATree.ptr).toArray 22)).ownsRow B 22 1 (.slice (some ⟨w.heap.size,0,none⟩) l.length l.length) l.length (l.map ATree.ptr):=by
 refine⟨by simp,.inr ⟨w.heap.size,l.length,(l.map ATree.ptr).toArray,rfl,g,Yq w _,Y0 _,by unfold maxLen;omega,by simp,?_⟩⟩;simp only[Nat.mul_one];exact Ye Qm
def Got.made{w0 w:kV}{rb B:Nat}{k:Int}{t:kB}{kids:List ATree}{g:List Tree}(O:B<=w0.heap.size)(F:RFr w0 w rb)(hl:kids.length<=1000)(ht:f6 kids=g)
 (o:∀a∈kids,TreeAt w B a)(hn:(x6 kids).Nodup)(hb:∀x∈x6 kids,w0.heap.size<=x/\x<w.heap.size) :
 Got w0 B ((w.alloc (.cells (kids.map ATree.ptr).toArray 22)).alloc (.cells #[vI k,.string t,vI 0,.slice (some ⟨w.heap.size,0,none⟩) kids.length kids.length] 28))
  (.mk (w.heap.size+1) (.slice (some ⟨w.heap.size,0,none⟩) kids.length kids.length) k t 0 kids) (.mk k t 0 g):=by
 have hs:=F.size;have p:kW w (w.alloc (.cells (kids.map ATree.ptr).toArray 22)):=(Y2 _ _).alloc (Y0 _) _;have m:(w.alloc (.cells (kids.map ATree.ptr).toArray 22)).heap.size=w.heap.size+1:=Qm
 refine⟨by simp[ATree.tree,ht],?_,?_,?_⟩
 .rw[<-m];exact TreeAt.new (by rw[m];omega) (Zsb Qe hl) λa u=>(o a u).bel p
 .simp only[ATree.blocks,Value.ownBlock,Option.toList,List.nodup_cons,List.mem_append,List.nodup_append,List.mem_cons,List.not_mem_nil,or_false,not_or,List.nodup_nil,not_false_eq_true,true_and];refine⟨⟨by omega,λI=>by have:=hb _ I;omega⟩,hn,?_⟩;rintro x rfl y J rfl;have:=hb _ J;omega
 .intro x hx;simp only[ATree.blocks,Value.ownBlock,Option.toList,List.mem_cons,List.mem_append,List.not_mem_nil,or_false]at hx;simp only[World.size_alloc];rcases hx with rfl|rfl|hx;·omega
  .omega
  .have:=hb x hx;omega
def Got.two{w0 w wA:kV}{rb B:Nat}{k:Int}{t:kB}{a c:ATree}{g m:Tree}(o:B<=w0.heap.size)(F:RFr w0 w rb)(A:Got w0 B w a g)(p:∀x∈a.blocks,x<wA.heap.size)(I:w0.heap.size<=wA.heap.size)(C:Got wA B w c m) :
 Got w0 B ((w.alloc (.cells #[a.ptr,c.ptr] 22)).alloc (.cells #[vI k,.string t,vI 0,.slice (some ⟨w.heap.size,0,none⟩) 2 2] 28))
  (.mk (w.heap.size+1) (.slice (some ⟨w.heap.size,0,none⟩) 2 2) k t 0 [a,c]) (.mk k t 0 [g,m]):=by
 refine Got.made (kids:=[a,c]) (rb:=rb) o F Qm (by simp[f6,A.tree,C.tree]) (λx hx=>?_) ?_ ?_
 .simp only[List.mem_cons,List.not_mem_nil,or_false]at hx;rcases hx with rfl|rfl;·exact A.at'
  .exact C.at'
 .simp only[x6,List.append_nil,List.nodup_append];exact⟨A.nodup,C.nodup,λx hx y u e=>by have J:=p x hx;have O:=C.new y u;omega⟩
 .intro x hx;simp only[x6,List.append_nil,List.mem_append]at hx;rcases hx with hx|hx;·exact A.new x hx
  .have:=C.new x hx;omega
def Got.one{w0 w:kV}{rb B:Nat}{k:Int}{t:kB}{a:ATree}{g:Tree}(m:B<=w0.heap.size)(F:RFr w0 w rb)(A:Got w0 B w a g) :
 Got w0 B ((w.alloc (.cells #[a.ptr] 22)).alloc (.cells #[vI k,.string t,vI 0,.slice (some ⟨w.heap.size,0,none⟩) 1 1] 28))
  (.mk (w.heap.size+1) (.slice (some ⟨w.heap.size,0,none⟩) 1 1) k t 0 [a]) (.mk k t 0 [g]):=by
 refine Got.made (kids:=[a]) (rb:=rb) m F Qm (by simp[f6,A.tree]) (λx hx=>?_) ?_ ?_
 .simp only[List.mem_cons,List.not_mem_nil,or_false]at hx;rw[hx];exact A.at'
 .simpa[x6]using A.nodup
 .intro x hx;exact A.new x (by simpa[x6]using hx)
mutual
def tU{σ:Type}(g:σ->ATree->Bool×σ):ATree->σ->σ
 | .mk b v k t n l,s=>if(g s (.mk b v k t n l)).1 then oB g l (g s (.mk b v k t n l)).2 else(g s (.mk b v k t n l)).2
def oB{σ:Type}(g:σ->ATree->Bool×σ):List ATree->σ->σ
 | [],s=>s
 |a::l,s=>oB g l (tU g a s)
end
mutual
def ATree.subs:ATree->List ATree
 | .mk b v k t n l=>.mk b v k t n l::nc l
def nc:List ATree->List ATree
 | []=>[]
 |a::l=>a.subs++nc l
end
mutual
def ATree.many:ATree->Nat
 | .mk _ _ _ _ _ l=>x4 l+1
def x4:List ATree->Nat
 | []=>0
 |a::l=>a.many+x4 l
end
def Z9g{σ:Type}(g:σ->ATree->Bool×σ)(a:ATree)(s:σ):tU g a s=if(g s a).1 then oB g a.kids (g s a).2 else(g s a).2:=by
 cases a;simp only[tU,ATree.kids]
def Zcq{σ:Type}(g:σ->ATree->Bool×σ)(l:List ATree)(a:ATree)(s:σ):oB g (l++[a]) s=tU g a (oB g l s):=by
 induction l generalizing s with
 |nil=>simp[oB]
 |cons x l m=>simp only[List.cons_append,oB,m]
def Z78{a k:ATree}(h:k∈a.kids):k.many<a.many:=by
 have g:∀l:List ATree,k∈l->k.many<=x4 l:=by
  intro l;induction l with
  |nil=>intro h;cases h
  |cons x l ih=>
    intro h;simp only[x4];exact Xy
 obtain⟨b,v,m,t,n,l⟩:=a;have:=g l h;simp only[ATree.many];omega
theorem Z8f(a:ATree):a∈a.subs:=by cases a;simp[ATree.subs]
def Zd0{a k x:ATree}(h:k∈a.kids)(hx:x∈k.subs):x∈a.subs:=by
 have g:∀l:List ATree,k∈l->x∈nc l:=by
  exact Zzc
 obtain⟨b,v,m,t,n,l⟩:=a;simp only[ATree.subs,List.mem_cons];exact .inr (g l h)
mutual
theorem U8:∀a:ATree,a.tree.many=a.many
 | .mk _ _ _ _ _ l=>by simp only[ATree.tree,Tree.many,ATree.many];rw[Zcc l]
theorem Zcc:∀l:List ATree,mO (f6 l)=x4 l
 | []=>rfl
 |a::l=>by simp only[f6,mO,x4];rw[U8 a,Zcc l]
end
def Z30{l:List ATree}{k:Nat}{x:ATree}(h:l[k]?=some x):l.take (k+1)=l.take k++[x]:=by
 rw[List.take_add_one,h];rfl
inductive Reach{σ:Type}(g:σ->ATree->Bool×σ):ATree->σ->ATree->σ->Prop
 |self (a:ATree) (s:σ):Reach g a s a s
 |kid {a k x:ATree} {s s':σ} {i:Nat} (ok:(g s a).1=true) (hk:a.kids[i]?=some k) (h:Reach g k (oB g (a.kids.take i) (g s a).2) x s'):Reach g a s x s'
def Reach.sub{σ:Type}{g:σ->ATree->Bool×σ}{a x:ATree}{s s':σ}(h:Reach g a s x s'):x∈a.subs:=by
 induction h with
 |self a s=>exact Z8f a
 |kid ok hk h m=>exact Zd0 (Yd hk) m
open Go.Maps
def Zs{H:Type}{P:Program}(w:kV){ah:Array Oper}{p:List Oper}{o:Oper}{a:Act}{Q:Exit->Act->kV->Prop}
 (y:o.guard=none)(m x v:Operand)(t:TypeId)(eG:o.op=Op.insert t m x v)
 (k e:TypeId)(K:Keyed P k)(ht:P.underlying t=some (.map k e))(R:Value->Option (DataW H×List MemPlace))(b n:Nat)(D:DataW H)
 (hm:a.eval m=.map (some b))(F:w.ownsMap P k R b n D)(hn:n<maxLen)(g val:Value)(u:Lit)(hx:a.eval x=g)(hv:a.eval v=val)(I:keyOf P k g=some u)
 (d:DataW H)(ps:List MemPlace)(J:R val=some (d,ps))
 (hK:∀w',w'.ownsMap P k R b (n+1) (D.put u d)->w.grownBy w' (some b)->wpList P ah Q p (a.put o.dst undef) w') :
 wpList P ah Q (o::p) a w:=by
 refine wpList_plain y λO Cp=>?_;obtain⟨w',iv,r1,r2⟩:=F.update K ht hn I J;exact Zve
theorem dR:Keyed Tryz.prog 9:=string_keyed Yj
theorem Xd(w:kV):(zeroValue 3).run Tryz.prog w=.ok (vI 0) w:=by kernel_rfl
def Ue{B:Nat}{w w1 w2:kV}{b:Nat}(h:Below B w w1)(g:w1.grownBy w2 (some b))(hb:B<=b)(hs:B<=w1.heap.size):Below B w w2:=
 h.grown g hs λj m=>by cases m;exact hb
def Uw(l:List (kB×Int)):DataW Unit:=l.foldl (λD x=>D.put (.string x.1.data.toList) (.lit (.int .i64 x.2))) (.map [])
def Zws:List (kB×Int):=[(Ez,25),(VG,26),(V3,27),(Ws,28),(Vi,29),(VM,30),(WN,31)]
def Zx(w:kV)(B:Nat)(v:Value)(l:List kB):Prop:=w.ownsRow B 9 1 v l.length (l.map Value.string)
def lw(l:List kB)(s:kB):List kB:=if Lib.containsS l s then l else l++[s]
def Zic(l:List kB)(s:kB):(lw l s).length<=l.length+1:=by
 unfold lw;split<;>simp
theorem Zx.nil(w:kV)(B:Nat):Zx w B (.slice none 0 0) []:=World.ownsRow_nil w B _ _
def Zx.cells{w:kV}{B:Nat}{v:Value}{l:List kB}(h:Zx w B v l){b:Nat}(hb:v.ownBlock=some b){j:Nat}{s:kB}(hs:l[j]?=some s):w.cell? ⟨b,j,none⟩=some (.string s):=
 Zq h hb (by rw[Yg,hs];rfl)
def Zx.bel{w w':kV}{B:Nat}{v:Value}{l:List kB}(h:Zx w B v l)(g:kW w w'):Zx w' B v l:=
 Z3 h λk hk=>g.block k (Y9 h k hk).2
def Zx.form{w:kV}{B:Nat}{v:Value}{l:List kB}(h:Zx w B v l):(v=.slice none 0 0/\l=[])\/∃g cap,v=.slice (some ⟨g,0,none⟩) l.length cap/\l.length<=cap/\cap<=maxLen:=by
 exact Zw8
theorem zq:(Tryz.prog.info? 9).map (λi=>(i.zero,i.size,i.bytes))=some (some (.string ByteArray.empty),1,16):=by kernel_rfl
def Zm2(w:kV)(s:kB) :
 kC 104 #[.slice none 0 0,.string s] w λe w'=>e=.returned (vI (-1))/\w'=w:=by
 go_enter func104,ntmps104
 go_wp2_with fail
 go_loopw [8] (λi wr=>wr=w/\i=(vI 0)) (λi _=>0)
 case atStart=>exact⟨rfl,rfl⟩
 case round=>
  obtain⟨rfl,rfl⟩:=hrel;go_wp2;go_ret;exact⟨rfl,rfl⟩
def Ze7(w:kV)(s:kB) :
 kC 66 #[.slice none 0 0,.string s] w λe w'=>e=.returned (.bool false)/\w'=w:=by
 have HC:=lh (Zm2 w s);go_enter func66,ntmps66
 exact Lu
def XU{w:kV}{B:Nat}{v:Value}{l:List kB}(h:Zx w B v l)(s:kB) :
 kC 66 #[v,.string s] w λe w'=>e=.returned (.bool (Lib.containsS l s))/\w'=w:=by
 rcases h.form with⟨rfl,rfl⟩|⟨g,cap,rfl,u,m⟩;·exact Ze7 w s
 .have o:=Tryz.slices_Contains_string g 0 l.length cap l s w (Y0 _) (by unfold maxLen at m;omega) (λj p=>by
   rw[Nat.zero_add];exact h.cells rfl (by rw[List.getD_eq_getElem?_getD,Y6 p];rfl))
  rwa[List.take_length]at o
def Zgr(w:kV)(B:Nat)(v:Value)(l:List kB)(s:kB)(h:Zx w B v l)(U:B<=w.heap.size)(hn:l.length<1099511627776) :
 kC 54 #[v,.string s] w λe w'=>∃y,e=.returned y/\Zx w' B y (lw l s)/\Below B w w'/\∀k,k<w.heap.size->v.ownBlock≠some k->w'.heap[k]?=w.heap[k]?:=by
 obtain⟨i0,hi,X,Y,Z⟩:=info_parts zq;have m:=XU h s;unfold lw;obtain⟨c,hc⟩:=zX (Lib.containsS l s)
 rw[<-hc]at m ⊢;have m:=lh m;clear hc;cases c
 .unfold Zx at h ⊢;have o:=lh h;obtain⟨n,p⟩:=zX l.length
  rw[<-p]at o hn;have pP:=lh p;clear h p;go_enter func54,ntmps54
  go_wp2_with fail
  refine m.o.mono ?_;rintro e w1⟨rfl,rfl⟩
  go_wp2_with (at_builtin;go_must (refine wpList_append_lies _ rfl (.tmp 9) (.tmp 11) 37 rfl B 9 i0 (.string ByteArray.empty) 1 16 underlying37 hi X Y Z rfl Qg v n (l.map Value.string) rfl (o.o.alloc _) ⟨w1.heap.size,0,none⟩ 1 1 [.string s] rfl rfl (λj u hu=>cell_one_new w1 _ _ j u hu) Qp Qn Qj Qn Qn (w1.heap.size+1) Qm ?_);intro g cap w2 F I J fI;have O:=lh I;have HW:=lh F;have HT:=lh J;clear I F J fI)
  go_ret;refine⟨_,rfl,?_,?_,?_⟩
  .simp only[<-pP.o];exact HW.o
  .exact((Y2 _ _).alloc U _).grown O.o Qi λj hj=>(Y9 o.o j hj).1
  .exact λk hk hv=>(O.o.block k Qi (λe=>hv e.symm)).trans (Below.heap_alloc _ _ _ hk)
 .have o:=lh h;clear h;go_enter func54,ntmps54
  go_wp2_with fail
  refine m.o.mono ?_;rintro e w1⟨rfl,rfl⟩;go_wp2;go_ret;exact⟨_,rfl,o.o,Y2 _ _,λ_ _ _=>rfl⟩
def Ztr(w:kV)(B:Nat)(v:Value)(l:List kB)(s:kB)(h:Zx w B v l)(m:B<=w.heap.size)(hn:l.length<1099511627776) :
 kC 54 #[v,.string s] w λe w'=>∃g,e=.returned g/\Zx w' B g (lw l s)/\Below B w w':=
 (Zgr w B v l s h m hn).mono λe w' ⟨g,o,p,u,_⟩=>⟨g,o,p,u⟩
def Zc2{w:kV}{base:Nat}{c p:Int}(hb:base<=w.heap.size) :
 Zcv (w.alloc (.cells #[vI c,vI p] 101)) base (.panicked [{v:=.iface 50 (.agg #[.iface 99 (vP w.heap.size)]),recovered:=false}]) c p:=
 ⟨w.heap.size,rfl,hb,Yq w _⟩
def UF(w:kV)(rb:Nat)(ts:List Tok)(d:Nat)(c:Int)(g:Rd w rb ts d) :
 kC 72 #[vP rb,vI c] w λe w'=>Zcv w' w.heap.size e c (al ts).at'/\kW w w':=by
 obtain⟨tb,off,cap,h⟩:=g;have c0:=h.c0;have t3:=h.hd (j:=3) rfl;have hp:=h.pos;refine Zp3 ?_;intro hm dt n hn;rw[<-hn]at c0 hp dt;have m:=h.lt;have o:=h.rlt;clear hn h;go_enter func72,ntmps72
 go_wp2;exact⟨rfl,Zc2 (Y0 _),(Y2 _ _).alloc (Y0 _) _⟩
def Tz(w:kV)(rb:Nat)(ts:List Tok)(d:Nat)(s:kB)(g:Rd w rb ts d)(hs:ad s ts=false) :
 kC 107 #[vP rb,.string s] w λe w'=>Zcv w' w.heap.size e 3 (al ts).at'/\kW w w':=by
 have m:=lh (yn w rb ts d s g hs);have o:=lh g;clear hs g;go_enter func107,ntmps107
 go_wp2_with fail
 refine m.o.mono ?_;rintro e w1⟨rfl,hB⟩;have HF:=lh (UF w1 rb ts d 3 (o.o.below hB));have p:=lh hB;clear hB;exact tu6 p
def MN(w:kV)(rb:Nat)(ts:List Tok)(d:Nat)(s:kB)(g:Rd w rb ts d)(hs:ad s ts=true) :
 kC 107 #[vP rb,.string s] w λe w'=>e=.returned (.tuple #[])/\Rd w' rb ts.tail d/\RFr w w' rb:=by
 have o:=lh (xi w rb ts d s g hs);clear hs g;go_enter func107,ntmps107
 go_wp2_with fail
 refine o.o.mono ?_;rintro e w1⟨rfl,g,m⟩;have p:=lh g;have u:=lh m;clear g m;go_wp2;go_end0
 exact⟨rfl,p.o,u.o⟩
def WU(w:kV)(rb:Nat)(ts:List Tok)(d:Nat)(m:Rd w rb ts d)(hk:(al ts).kind≠1) :
 kC 78 #[vP rb] w λe w'=>Zcv w' w.heap.size e 3 (al ts).at'/\kW w w':=by
 have o:=lh m;obtain⟨tb,off,cap,h⟩:=m;have c0:=h.c0;refine Zqr ?_;intro t0 t1 t2 t3;have hp:=h.pos;refine Zp3 ?_;intro hm dt n hn;rw[<-hn]at c0 hp dt;have u:=h.lt;have y:=h.rlt;have F:((al ts).kind==1)=false:=Ru
 have g:kW w (w.alloc (.cells #[vI (al ts).kind,.string (al ts).text,vI (al ts).n,vI (al ts).at'] 97)):=(Y2 _ _).alloc (Y0 _) _;have HF:=lh (UF _ rb ts d 3 (o.o.below g));have p:=lh g;simp only[Nat.add_zero]at t0;clear hn h hk g;go_enter func78,ntmps78
 exact tu6 p
def Vr(w:kV)(rb:Nat)(ts:List Tok)(d:Nat)(m:Rd w rb ts d)(hk:(al ts).kind=1) :
 kC 78 #[vP rb] w λe w'=>e=.returned (.string (al ts).text)/\Rd w' rb ts.tail d/\RFr w w' rb:=by
 obtain⟨tb,off,cap,h⟩:=m;have c0:=h.c0;refine Zqr ?_;intro t0 t1 t2 t3;have p:=h.two Qe;have u:=h.most;have y:=h.le;have z0:=h.fz 0;unfold maxLen at u;have H:=lh (h.tail Qe);obtain⟨n,hn⟩:=zX ts.length
 rw[<-hn]at c0 p y;have F:=lh hn;have I:=h.lt;have J:=h.rlt;have O:=lh hk;simp only[Nat.add_zero,hk]at t0;clear hn h hk;go_enter func78,ntmps78
 go_wp2;go_ret;have g:=H.o;rw[<-F.o]at g;refine X5 ?_;intro hb;exact⟨rfl,⟨tb,off+4,cap-1,g.below (hb _)⟩,((RFr.refl w rb).set _ _).trans (RFr.below (hb _))⟩
def wj(w:kV)(rb:Nat)(kind:Int)(text:kB)(p:Option Addr)(m c:Nat) :
 kC 39 #[vP rb,vI kind,.string text,.slice p m c] w λe w'=>e=.returned (vP w.heap.size)/\w'=w.alloc (.cells #[vI kind,.string text,vI 0,.slice p m c] 28):=by
 go_enter func39,ntmps39
 go_wp2;go_ret;exact⟨rfl,rfl⟩
def WY(w:kV)(rb B:Nat)(ts:List Tok)(d:Nat)(p:PR)(r:Except (Int×Nat) (Tree×List Tok))(hR:Rd w rb ts d)(hd:d<1000)(hB:rb<B)(hr:qH d ts p=some r)
 (HC:d+1<=30->p=some r->∀w1,Rd w1 rb ts (d+1)->w1.heap.size=w.heap.size->kC 42 #[vP rb] w1 (mA w1 rb B (d+1) r)) :
 kC 41 #[vP rb,.func (.func 42) #[vP rb] #[]] w (mA w rb B d r):=by
 exact tq9
def Zdm(w:kV)(rb B:Nat)(ts:List Tok)(d:Nat)(p:PR)(r:Except (Int×Nat) (Tree×List Tok))(hR:Rd w rb ts d)(hd:d<1000)(hB:rb<B)(hr:qH d ts p=some r)
 (HC:d+1<=30->p=some r->∀w1,Rd w1 rb ts (d+1)->w1.heap.size=w.heap.size->kC 108 #[vP rb] w1 (mA w1 rb B (d+1) r)) :
 kC 41 #[vP rb,.func (.func 108) #[vP rb] #[]] w (mA w rb B d r):=by
 exact tq9
def Zf6(w:kV)(rb B:Nat)(ts:List Tok)(d:Nat)(p:PR)(r:Except (Int×Nat) (Tree×List Tok))(hR:Rd w rb ts d)(hd:d<1000)(hB:rb<B)(hr:qH d ts p=some r)
 (HC:d+1<=30->p=some r->∀w1,Rd w1 rb ts (d+1)->w1.heap.size=w.heap.size->kC 138 #[vP rb] w1 (mA w1 rb B (d+1) r)) :
 kC 41 #[vP rb,.func (.func 138) #[vP rb] #[]] w (mA w rb B d r):=by
 exact tq9
def T6{f:Nat}{g:Job}{d:Nat}{ts ts':List Tok}{t:Tree}(h:Z0 f g d ts=some (.ok (t,ts'))):ts'.length<=ts.length:=by
 have:=Ts f g d ts t ts' h;have hl:g.least<=1:=by cases g<;>simp[Job.least]
 omega
def Zk7(f:Nat)(o:ay 108 bO .assign f):ay 80 bO .value (f+1):=by
 intro w rb B d ts r g hp;have hw:qH d ts (Z0 f .assign (d+1) ts)=some r:=hp;have u:=lh (Zdm w rb B ts d _ r g.rd (by have:=g.deep;omega) g.lt hw λhd h1 w1 m hs=>o w1 rb B (d+1) ts r ⟨m,hd,g.lt,by have:=g.le;omega,g.few⟩ h1);refine D8 ?_;intro iT;clear g hp hw o;unfold bO;go_enter func80,ntmps80
 go_wp2_with fail
 refine u.o.mono ?_;rcases r with⟨c,p⟩|⟨t,ts'⟩;·exact TP
 .rintro e w2⟨a,rfl,y,m,hF⟩;obtain⟨HG,HR,HF⟩:=ds y m hF;clear y m hF u;exact VO
def Zgc(f:Nat)(y:ay 80 bO .value f):ay 79 bO .around (f+1):=by
 intro w rb B d ts r g hp;have hw:iE tO ts (λts=>Zn (Z0 f .value d ts) λx ts=>iE tQ ts λts=>fH x ts)=some r:=hp;have F:=lh g;unfold bO;rcases Un hw with⟨hs,h1⟩|⟨hs,rfl⟩
 .have HC:=lh (MN w rb ts d tO g.rd hs);have Z:=lh h1;clear g hp hw hs h1;go_enter func79,ntmps79
  go_wp2_with fail
  refine HC.o.mono ?_;rintro e w1⟨rfl,I,m⟩;have o:=lh (F.o.tail I m);have F1:=lh m;clear I m HC;rcases Zg Z.o with⟨⟨c,p⟩,hv,rfl⟩|⟨t,J,hv,h2⟩
  .have HV:=lh (y w1 rb B d _ _ o.o hv);exact Zyo
  .have HV:=lh (y w1 rb B d _ _ o.o hv);have hl:=T6 hv;have H2:=lh h2;clear hv h2;go_wp2_with fail
   refine HV.o.mono ?_;rintro e w2⟨a,rfl,O,U,u⟩;obtain⟨X,F2,G2⟩:=ds (o.o.next U u hl) (F1.o.trans u) (O.pre F1.o);clear O U u HV hl;rcases Un H2.o with⟨hs,Y⟩|⟨hs,rfl⟩
   .obtain rfl:=Yc Y;have HC:=lh (MN w2 rb J d tQ X.o.rd hs);clear hs Y;go_wp2_with fail
    refine Zqo ?_;intro w3 bI bh R3 F3;clear bI bh;go_wp2;go_ret;exact⟨a,rfl,G2.o.rfr F.o.lt F3.o,R3.o,F2.o.trans F3.o⟩
   .have HC:=lh (Tz w2 rb J d tQ X.o.rd hs);exact Aae
 .have HC:=lh (Tz w rb ts d tO g.rd hs);clear g hp hw hs;go_enter func79,ntmps79
  exact V4
theorem Ug{t t':Tree}{ts ts':List Tok}(h:fH t ts=some (.ok (t',ts'))):t=t'/\ts=ts':=by simpa[fH]using h
def O9{p:PR}{k:Tree->List Tok->PR}{t:Tree}{ts:List Tok}(h:Zn p k=some (.ok (t,ts))):∃x us,p=some (.ok (x,us))/\k x us=some (.ok (t,ts)):=by
 rcases Zg h with⟨e,_,he⟩|h;·cases he
 .exact h
def YL{s:kB}{us:List Tok}{k:List Tok->PR}{t:Tree}{ts:List Tok}(h:iE s us k=some (.ok (t,ts))):ad s us=true/\k us.tail=some (.ok (t,ts)):=by
 rcases Un h with h|⟨_,h⟩;·exact h
 .cases h
def Zd7{us:List Tok}{k:kB->List Tok->PR}{t:Tree}{ts:List Tok}(h:tK us k=some (.ok (t,ts))):(al us).kind=1/\k (al us).text us.tail=some (.ok (t,ts)):=by
 rcases XO h with h|⟨_,h⟩;·exact h
 .cases h
def Zlp{f d:Nat}{k:Int}{m:Bool}{us ts:List Tok}{t:Tree}(h:Z0 f (.decl k m) d us=some (.ok (t,ts))):t.kind=k:=by
 cases f with
 |zero=>cases h
 |succ f=>
   obtain⟨_,h⟩:=Zd7 h;split at h;·cases h
   .split at h;·exact Zxd
    .obtain⟨rfl,_⟩:=Ug h;rfl
def Zni{f d:Nat}{k:Int}{s:kB}{us ts:List Tok}{t:Tree}(h:Z0 f (.func k s) d us=some (.ok (t,ts))):t.kind=k:=by
 cases f with
 |zero=>cases h
 |succ f=>
   obtain⟨_,h⟩:=YL h;obtain⟨x,vs,_,h⟩:=O9 h;obtain⟨_,h⟩:=YL h;exact Zxd
def Zk9:∀{f d:Nat} {k:Int} {g:List Tree} {us ts:List Tok} {t:Tree},Z0 f (.stmts k g) d us=some (.ok (t,ts))->t.kind=k:=by
 intro f;induction f with
 |zero=>intro d k g us ts t h;cases h
 |succ f m=>
   intro d k g us ts t h;rw[Z0]at h;generalize(if k=1 then decide ((al us).kind=6)else ad Zr us)=c at h;cases c
   .obtain⟨x,vs,_,h⟩:=O9 h;exact m h
   .obtain⟨rfl,_⟩:=Ug h;rfl
def Zji{f d:Nat}{b:Bool}{us ts:List Tok}{t:Tree}(h:Z0 f (.block b) d us=some (.ok (t,ts))):t.kind=6:=by
 cases f with
 |zero=>cases h
 |succ f=>
   obtain⟨_,h⟩:=YL h;obtain⟨x,vs,hx,h⟩:=O9 h;obtain⟨_,h⟩:=YL h;obtain⟨g,_⟩:=Ug h;cases b;·simp at g;rw[<-g];rfl
   .simp at g;rw[<-g];exact Zk9 hx
def Zq6{f d:Nat}{us ts:List Tok}{t:Tree}(h:Z0 f .try_ d us=some (.ok (t,ts))):t.kind=12:=by
 cases f with
 |zero=>cases h
 |succ f=>
   have g:∀(l:List Tree) (us:List Tok),(if ad Zl us=true then Zn (Z0 f (.block false) d us.tail) λc ts=>fH (.mk 12 ByteArray.empty 0 (l++[.mk 14 ByteArray.empty 0 [c]])) ts else if l.length=1 then r' 3 us else fH (.mk 12 ByteArray.empty 0 l) us)=some (.ok (t,ts))->t.kind=12:=by
    intro l us h;by_cases c:ad Zl us=true
    .rw[Y5 c]at h;obtain⟨x,vs,hx,h⟩:=O9 h;obtain⟨rfl,_⟩:=Ug h;rfl
    .rw[Y3 c]at h;by_cases c2:l.length=1;·rw[Y5 c2]at h;cases h
     .rw[Y3 c2]at h;obtain⟨rfl,_⟩:=Ug h;rfl
   rw[Z0]at h;obtain⟨x,vs,hx,h⟩:=O9 h;dsimp only at h
   by_cases c:ad IL vs=true
   .rw[Y5 c]at h;obtain⟨_,h⟩:=YL h;obtain⟨_,h⟩:=Zd7 h;obtain⟨_,h⟩:=YL h;obtain⟨x,vs,hx,h⟩:=O9 h;exact g _ _ h
   .rw[Y3 c]at h;exact g _ _ h
def Zkt{f d:Nat}{us ts:List Tok}{t:Tree}(h:Z0 (f+1) .stmt d us=some (.ok (t,ts)))(hk:t.kind=15):t.kids≠[]:=by
 have bW:∀{n:Tree} {vs:List Tok},po n vs=some (.ok (t,ts))->n=t:=λh=>(Ug (YL h).2).1;rw[Z0]at h;by_cases c0:ad Ay us=true
 .rw[Y5 c0]at h;have:=Zji h;omega
 rw[Y3 c0]at h;by_cases c1:ad Dz us=true
 .rw[Y5 c1]at h;obtain⟨rfl,_⟩:=Ug h;cases hk
 rw[Y3 c1]at h;by_cases c2:ad Vk us=true
 .rw[Y5 c2]at h;exact Zuf
 rw[Y3 c2]at h;by_cases c3:ad VB us=true
 .rw[Y5 c3]at h;exact Zuf
 rw[Y3 c3]at h;by_cases g:ad VA us=true
 .rw[Y5 g]at h;exact Zuf
 rw[Y3 g]at h;by_cases m:ad IJ us=true
 .rw[Y5 m]at h;obtain⟨_,h⟩:=Zd7 h;have:=Zni h;omega
 rw[Y3 m]at h;by_cases o:ad B' us=true
 .rw[Y5 o]at h;obtain⟨x,vs,hx,h⟩:=O9 h;obtain⟨y,vs,hx,h⟩:=O9 h;split at h
  .obtain⟨z,vs,hx,h⟩:=O9 h;obtain⟨rfl,_⟩:=Ug h;cases hk
  .obtain⟨rfl,_⟩:=Ug h;cases hk
 rw[Y3 o]at h;by_cases p:ad Vl us=true
 .rw[Y5 p]at h;exact Zxv
 rw[Y3 p]at h;by_cases u:ad Vy us=true
 .rw[Y5 u]at h;exact Zxv
 rw[Y3 u]at h;by_cases F:ad Vs us=true
 .rw[Y5 F]at h;split at h;·have :=bW h;subst this;cases hk
  .exact Zz8
 rw[Y3 F]at h;by_cases I:ad Vo us=true
 .rw[Y5 I]at h;exact Zz8
 rw[Y3 I]at h;by_cases J:ad Vv us=true
 .rw[Y5 J]at h;have:=Zq6 h;omega
 rw[Y3 J]at h;obtain⟨x,vs,hx,h⟩:=O9 h;have:=bW h;subst this;simp[Tree.kids]
theorem To:(Tryz.prog.info? 22).map (λi=>(i.zero,i.size,i.bytes))=some (some (.pointer none),1,8):=by kernel_rfl
def leftOf(w:kV)(rb:Nat):Nat:=match w.cell? ⟨rb,0,none⟩with|some (.slice _ n _)=>n|_=>0
def Rd.left{w:kV}{rb:Nat}{ts:List Tok}{d:Nat}(h:Rd w rb ts d):leftOf w rb=ts.length:=by
 obtain⟨tb,off,cap,h⟩:=h;unfold leftOf;rw[h.c0]
def Zir(F:Nat)(hS:∀g,g<F->ay 42 bO .stmt g) :
 ay 13 (λrb=>#[vP rb,vI 6,.string Zr]) (.stmts 6 []) F:=by
 intro w rb B d ts r y hp;obtain⟨O,HP,HQ,HS⟩:=gp (wj w rb 6 ⟨#[]⟩ none 0 0) y hp hS;refine D8 ?_;intro iT;obtain⟨nb,U⟩:=zX w.heap.size
 have I:=Got.leaf (k:=6) (t:=⟨#[]⟩) (n:=0) y.le (RFr.refl w rb);have X:=y.rd.below ((Y2 _ _).alloc (Y0 _) (.cells #[vI 6,.string ⟨#[]⟩,vI 0,.slice none 0 0] 28));have Y:RFr w (w.alloc (.cells #[vI 6,.string ⟨#[]⟩,vI 0,.slice none 0 0] 28)) rb:=RFr.below ((Y2 _ _).alloc (Y0 _) _);rw[<-U]at I O;unfold Zr;clear y hp hS;simp only;go_enter func13,ntmps13
 go_wp2_with fail
 refine O.o.mono ?_;rintro e w1⟨rfl,dU⟩;rw[<-dU]at I X Y;have hst:∃(g:Nat) (aj:List Tree) (us:List Tok) (v:Value) (kids:List ATree),g<=F/\Z0 g (.stmts 6 aj) d us=some r/\Got w B w1 (.mk nb v 6 ⟨#[]⟩ 0 kids) (.mk 6 ⟨#[]⟩ 0 aj)/\Rd w1 rb us d/\RFr w w1 rb/\aj.length+us.length<=ts.length/\(∀x∈aj,x.kind=15->x.kids≠[]):=
  ⟨F,[],ts,_,[],Y0 _,HQ.o,I,X,Y,by simp,λx hx=>by cases hx⟩
 have Z:=lh hst;have tt:=lh U;clear hst dU I X Y O U;go_wp2_with fail
 go_loopw [] (λwr=>∃(g:Nat) (aj:List Tree) (us:List Tok) (v:Value) (kids:List ATree),g<=F/\Z0 g (.stmts 6 aj) d us=some r/\Got w B wr (.mk nb v 6 ⟨#[]⟩ 0 kids) (.mk 6 ⟨#[]⟩ 0 aj)/\Rd wr rb us d/\RFr w wr rb/\aj.length+us.length<=ts.length/\(∀x∈aj,x.kind=15->x.kids≠[])) (λwr=>leftOf wr rb)
 case atStart=>exact Z.o
 case round=>
  obtain⟨g,aj,us,v,kids,hg,hq,hG,u,hF,hl,hx⟩:=hrel;obtain⟨G,R,FF,HX,RL⟩:=gq hG u hF hx u.left;cases g with
  |zero=>cases hq
  |succ g=>
  rw[Z0]at hq;have m:=SK wr rb us d Zr u;by_cases hb:ad Zr us=true
  ·rw [hb] at m;rw [Y5 (by rw [Y3 Qe]; exact hb)] at hq;have hr := Yc hq;have tF := lh hr.symm;have m := lh m;unfold Zr at m;clear hG u hF hq hr hb hx Z;go_wp2_with fail
   refine m.o.mono ?_;rintro e w2⟨rfl,ar⟩;refine Zyh ?_;intro aA F2 G2 R2 ac ae;have J:w2.cell? ⟨nb,3,none⟩=some v:=Qk
   have nz:w2.frozen? ⟨nb,1,none⟩=false:=QN
   have Mh:w2.cell? ⟨nb,1,none⟩=some (.string ⟨#[]⟩):=Qk
   have mg:=G2.o.tree;simp only[ATree.tree,Tree.mk.injEq,true_and]at mg;have qc:Tx aj=false->mA w rb B d r (.returned (vP nb)) w2:=λh=>by
    rw[tF.o,h];exact⟨_,rfl,G2.o,R2.o,F2.o⟩
   have pO:=lh qc;have qd:Tx aj=true->mA w rb B d r (.returned (vP nb)) (w2.setCell ⟨nb,1,none⟩ (.string LA)):=λh=>by
    exact Zyb
   have yJ:=lh qd;have kR:=lh mg;have bN:∀a∈kids,TreeAt w2 B a:=λa ha=>G2.o.at'.kid (k:=a) ha;have jX:=lh bN;clear ar ac qc qd mg bN m FF G R;cases kids with
   |nil=>
     exact Zzf
   |cons a0 ks=>
     rcases Z4 ae with⟨_,h0⟩|⟨g0,gB,rfl,k1,k2,k3⟩;·simp at h0
     refine Zyz ?_;intro p0 rQ hb0 pG lx;obtain⟨b0,v0,xL,t0,n0,l0⟩:=a0;simp only[ATree.b,ATree.v,ATree.kind,ATree.text,ATree.n,ATree.kids,ATree.ptr,List.length_cons]at hb0 pG p0 k1 J ⊢;unfold maxLen at k2;have d0:w2.cell? ⟨b0,0,none⟩=some (vI xL):=Ro
     have d3:w2.cell? ⟨b0,3,none⟩=some v0:=Ro
     by_cases xM:xL=15
     .subst xM;cases l0 with
      |nil=>exact absurd rfl (lx rfl)
      |cons x xs=>
      rcases Z4 pG with⟨_,h0⟩|⟨g1,Ew,rfl,j1,j2,j3⟩;·simp at h0
      have p1:=Zq pG (g:=g1) rfl (i:=0) (x:=x.ptr) rfl;have ai:=(rQ.kid (k:=x) (by simp[ATree.kids])).blkOf;obtain⟨b1,v1,xJ,t1,n1,l1⟩:=x;simp only[ATree.b,ATree.v,ATree.kind,ATree.text,ATree.n,ATree.ptr,List.length_cons]at ai p1 j1 d3;unfold maxLen at j2;have e0:w2.cell? ⟨b1,0,none⟩=some (vI xJ):=Rz
      have e1:w2.cell? ⟨b1,1,none⟩=some (.string t1):=Rz
      exact Ab6
     .exact Zxa
  .have du:ad Zr us=false:=by simpa using hb
   rw[du]at m;rw[Y3 (by rw[Y3 Qe];exact hb)]at hq;have m:=lh m;unfold Zr at m;have ci:=lh hq;clear hG u hF hq hb du hx Z;go_wp2_with fail
   refine m.o.mono ?_;rintro e w2⟨rfl,ar⟩;have F2:=FF.o.trans (RFr.below (rb:=rb) ar);have G2:=G.o.rfr HP.o.lt (RFr.below (rb:=rb) ar);have R2:=R.o.below ar;have J:w2.cell? ⟨nb,3,none⟩=some v:=QD
   obtain⟨F2,G2,R2⟩:=ds F2 G2 R2;clear ar m FF G R;go_wp2_with fail
   refine Z7 [0,2,4,6,8,10,12,14,17,19,21] [11,12,13] (λW=>vC W nb 3 v) J λ_=>?_;refine dS ?_
   iterate 8
    refine dq ?_
   refine Ze (λK hK=>?_);go_simp
   have aA:=HP.o.lt;have qe:RFr w2 w2.drew rb:=(RFr.refl w2 rb).drew;have ic:us.length<=4000:=Sf
   have su:B<=w2.drew.heap.size:=Y4 HP.o.le F2.o.size;rcases Zg ci.o with⟨⟨c,p⟩,hv,rfl⟩|⟨t,vs,hv,gO⟩
   .refine(WY w2.drew rb B us d _ _ R2.o.drew Ry aA hv λhd h1 w1 dB hs=>HS.o g Qe w1 rb B (d+1) us _ ⟨dB,hd,aA,by omega,ic⟩ h1).mono ?_;exact Zy9
   .have dr:vs.length<us.length:=Leaves.within (Ts g .stmt (d+1) us) t vs hv;have pH:t.kind=15->t.kids≠[]:=by
     exact Xq
    have Ih:=lh pH;have ni:=lh gO;refine(WY w2.drew rb B us d _ _ R2.o.drew Ry aA hv λhd h1 w1 dB hs=>HS.o g Qe w1 rb B (d+1) us _ ⟨dB,hd,aA,by omega,ic⟩ h1).mono ?_;rintro e w3⟨a,rfl,hA,bI,bh⟩;have iA:RFr w2 w3 rb:=qe.trans bh;have fL:=G2.o.rfr aA iA;refine ui ?_;intro ac;have m3:w3.cell? ⟨nb,3,none⟩=some v:=Qk
    refine UM ?_;intro mz dm;refine Wt ?_;intro dK;refine WQ ?_;intro aH aY gK;refine Tu ?_;intro N3 A3 R3;obtain⟨F3,NE,ft⟩:=ds (F2.o.trans iA) aH aY;refine vB ?_;intro i0 hi aC bj bJ;clear hK K hA bI bh iA fL ac dK aH pH gO hv aY J qe;refine ub ?_;intro K hK;refine Acc ?_;intro gg cap w4 aU aB bV ca m4;refine vf ?_;clear hK K;intro lX
    have am:=Got.push aA HP.o.le N3.o (wA:=w2.drew) (λx hx=>(G2.o.new x hx).2) A3.o F3.o R3.o ((Y2 _ _).alloc (Y0 _) _) aB aU (bV.imp id λh=>by omega) ca;exact tr7
def lL(w:kV)(B:Nat)(v:Value)(l:List ATree):Prop:=w.ownsRow B 22 1 v l.length (l.map ATree.ptr)
theorem lL.nil(w:kV)(B:Nat):lL w B (.slice none 0 0) []:=World.ownsRow_nil w B _ _
def lL.bel{w w':kV}{B:Nat}{v:Value}{l:List ATree}(h:lL w B v l)(g:kW w w'):lL w' B v l:=
 Z3 h λk hk=>g.block k (Y9 h k hk).2
def lL.form{w:kV}{B:Nat}{v:Value}{l:List ATree}(h:lL w B v l):(v=.slice none 0 0/\l=[])\/∃g cap,v=.slice (some ⟨g,0,none⟩) l.length cap/\l.length<=cap/\cap<=maxLen:=by
 exact Zw8
theorem lL.cell{w:kV}{B:Nat}{v:Value}{l:List ATree}(h:lL w B v l){b:Nat}(hb:v.ownBlock=some b){j:Nat}{x:ATree}(hs:l[j]?=some x):w.cell? ⟨b,j,none⟩=some (vP x.b):=
 Zq h hb (by rw[Yg,hs];rfl)
def xp(a:ATree):Bool:=a.kind==5
def vV(a:ATree):Bool:=a.kind==3||a.kind==4
def Zad{p:ATree->Bool}{l:List ATree}{k:Nat}{x:ATree}(h:l[k]?=some x):(l.take (k+1)).filter p=if p x then(l.take k).filter p++[x]else(l.take k).filter p:=by
 rw[Z30 h,List.filter_append];by_cases hp:p x<;>simp[hp]
def ZZ(w:kV)(B0:Nat)(a:ATree)(hT:TreeAt w B0 a)(hn:a.kids.length<1099511627776) :
 kC 26 #[a.ptr] w λe w'=>∃v,e=.returned v/\lL w' w.heap.size v (a.kids.filter xp)/\kW w w':=by
 refine Zxe ?_;intro i0 hi aC bj bJ ac ae p cp hv bq c3 aG HT HV;unfold ATree.ptr;obtain⟨n,m⟩:=zX a.kids.length
 rw[<-m]at c3 aG hn bq;have HN:=lh m;clear ac ae hv m hT;go_enter func26,ntmps26
 go_wp2_with fail
 go_loopw [3,13] (λv i wr=>∃(k:Nat) (O:Value),O=v/\k<=n/\i=(vI k)/\Hid (lL wr w.heap.size O ((a.kids.take k).filter xp))/\Hid (kW w wr)) (λ_ i _=>n-(intOf i).toNat)
 case atStart=>exact⟨0,_,rfl,Yh _,rfl,lh (lL.nil _ _),lh (Y2 _ _)⟩
 case round=>
  obtain⟨k,v,rfl,hk,rfl,HR,HB⟩:=hrel;by_cases bY:k<n
  .obtain⟨x,hx⟩:∃x,a.kids[k]? =some x:=⟨_,Y6 QA⟩
   have o:=HT.o.bel HB.o;have ae:=o.rowOf;rcases Z4 ae with⟨_,h2⟩|⟨g0,gB,gr,_⟩;·rw[<-HN.o]at h2;omega
   have hp:p=some ⟨g0,0,none⟩:=by
    exact Vb
   subst hp;refine SS ?_;intro cx;unfold ATree.ptr at cx;have U:=o.kid (Yd hx);have ck:wr.cell? ⟨x.b,0,none⟩=some (vI x.kind):=by simp[vC,World.cell?,U.blkOf]
   have X:(a.kids.take (k+1)).filter xp=_:=Zad (p:=xp) hx;have y:=lh X;have nI:((a.kids.take k).filter xp).length<=k:=Y4 (List.length_filter_le _ _) Qi;have ba:=HB.o.size;clear o ae gr U X;obtain⟨F,I⟩:=zX x.kind
   rw[<-I]at ck;have Y:=lh I;clear I hx;rcases(by omega:F=5\/F≠5)with h5|h5
   .subst h5;obtain⟨L,J⟩:=zX ((a.kids.take k).filter xp)
    rw[<-J]at nI y HR;have HL:=lh J;unfold lL at HR;clear J
    go_wp2_with (at_builtin;go_must (refine wpList_append_lies _ rfl (.tmp 22) (.tmp 24) 26 rfl w.heap.size 22 i0 (.pointer none) 1 8 underlying26 hi aC bj bJ rfl Qg v L.length (L.map ATree.ptr) rfl (HR.o.alloc _) ⟨wr.heap.size,0,none⟩ 1 1 [vP x.b] rfl rfl (λj u hu=>cell_one_new wr _ _ j u hu) Qp Qn Qj Qn Qn (wr.heap.size+1) Qm ?_);intro g cap w2 Z av cf fI;have HG:=lh av;have HW:=lh Z;have gz:=lh cf;clear av Z cf fI)
    go_roundw
    case rel=>
     refine⟨k+1,_,rfl,by omega,by go_num,lh ?_,lh ?_⟩
     .rw[y.o,Y5 (by simp[xp,<-Y.o])];exact Ack
     .exact AbN
    case measure=>simp[intOf];omega
   .have n5:(F==5)=false:=by simpa using h5
    clear h5;go_wp2;go_roundw
    case rel=>
     refine⟨k+1,_,rfl,by omega,by go_num,lh ?_,HB⟩;rw[y.o,Y3 (by simp[xp,<-Y.o,n5])];exact HR.o
    case measure=>simp[intOf];omega
  .have aT:k=n:=by omega
   subst aT;go_wp2;go_ret;refine⟨_,rfl,?_,HB.o⟩;have:=HR.o;rwa[Ye QS]at this
def YR(w:kV)(B0:Nat)(a:ATree)(hT:TreeAt w B0 a)(hn:a.kids.length<1099511627776) :
 kC 59 #[a.ptr] w λe w'=>∃v,e=.returned v/\lL w' w.heap.size v (a.kids.filter vV)/\kW w w':=by
 refine Zxe ?_;intro i0 hi aC bj bJ ac ae p cp hv bq c3 aG HT HV;unfold ATree.ptr;obtain⟨n,O⟩:=zX a.kids.length
 rw[<-O]at c3 aG hn bq;have HN:=lh O;clear ac ae hv O hT;go_enter func59,ntmps59
 go_wp2_with fail
 go_loopw [3,13] (λv i wr=>∃(k:Nat) (Z:Value),Z=v/\k<=n/\i=(vI k)/\Hid (lL wr w.heap.size Z ((a.kids.take k).filter vV))/\Hid (kW w wr)) (λ_ i _=>n-(intOf i).toNat)
 case atStart=>exact⟨0,_,rfl,Yh _,rfl,lh (lL.nil _ _),lh (Y2 _ _)⟩
 case round=>
  obtain⟨k,v,rfl,hk,rfl,HR,HB⟩:=hrel;by_cases bY:k<n
  .obtain⟨x,hx⟩:∃x,a.kids[k]? =some x:=⟨_,Y6 QA⟩
   have U:=HT.o.bel HB.o;have ae:=U.rowOf;rcases Z4 ae with⟨_,h2⟩|⟨g0,gB,gr,_⟩;·rw[<-HN.o]at h2;omega
   have hp:p=some ⟨g0,0,none⟩:=by
    exact Vb
   subst hp;refine SS ?_;intro cx;unfold ATree.ptr at cx;have eA:=U.kid (Yd hx);have ck:wr.cell? ⟨x.b,0,none⟩=some (vI x.kind):=by simp[vC,World.cell?,eA.blkOf]
   have sg:(a.kids.take (k+1)).filter vV=_:=Zad (p:=vV) hx;have HF:=lh sg;have nI:((a.kids.take k).filter vV).length<=k:=Y4 (List.length_filter_le _ _) Qi;have ba:=HB.o.size;clear U ae gr eA sg;obtain⟨o,X⟩:=zX x.kind
   rw[<-X]at ck;have kT:=lh X;clear X hx;rcases(by omega:o=3\/o=4\/(o≠3/\o≠4))with y|y|⟨y,h4⟩
   .subst y;obtain⟨L,m⟩:=zX ((a.kids.take k).filter vV)
    rw[<-m]at nI HF HR;have HL:=lh m;unfold lL at HR;clear m
    go_wp2_with (at_builtin;go_must (refine wpList_append_lies _ rfl (.tmp 29) (.tmp 31) 26 rfl w.heap.size 22 i0 (.pointer none) 1 8 underlying26 hi aC bj bJ rfl Qg v L.length (L.map ATree.ptr) rfl (HR.o.alloc _) ⟨wr.heap.size,0,none⟩ 1 1 [vP x.b] rfl rfl (λj u hu=>cell_one_new wr _ _ j u hu) Qp Qn Qj Qn Qn (wr.heap.size+1) Qm ?_);intro g cap w2 F I J Y;have HG:=lh I;have HW:=lh F;have gz:=lh J;clear I F J Y)
    exact AaF
   .subst y;obtain⟨L,m⟩:=zX ((a.kids.take k).filter vV)
    rw[<-m]at nI HF HR;have HL:=lh m;unfold lL at HR;clear m
    go_wp2_with (at_builtin;go_must (refine wpList_append_lies _ rfl (.tmp 29) (.tmp 31) 26 rfl w.heap.size 22 i0 (.pointer none) 1 8 underlying26 hi aC bj bJ rfl Qg v L.length (L.map ATree.ptr) rfl (HR.o.alloc _) ⟨wr.heap.size,0,none⟩ 1 1 [vP x.b] rfl rfl (λj u hu=>cell_one_new wr _ _ j u hu) Qp Qn Qj Qn Qn (wr.heap.size+1) Qm ?_);intro g cap w2 F I J Y;have HG:=lh I;have HW:=lh F;have gz:=lh J;clear I F J Y)
    exact AaF
   .have n3:(o==3)=false:=by simpa using y
    have n4:(o==4)=false:=RH
    clear y h4;go_wp2;go_roundw
    case rel=>
     refine⟨k+1,_,rfl,by omega,by go_num,lh ?_,HB⟩;rw[HF.o,Y3 (by simp[vV,<-kT.o,n3,n4])];exact HR.o
    case measure=>simp[intOf];omega
  .have aT:k=n:=by omega
   subst aT;go_wp2;go_ret;refine⟨_,rfl,?_,HB.o⟩;have:=HR.o;rwa[Ye QS]at this
