import Derived.Test.YtkjdnecemhilpaaGreatDoorJ13
import Derived.Test.YtkjdnecemhilpaaGreatDoorJ29
import Derived.LaidMore
import Derived.Stop.Joined
set_option maxRecDepth 100000
set_option maxHeartbeats 20000000
set_option linter.all false
namespace Go.Proofs.YtkjdnecemhilpaaGreatDoor
open Go Go.RowKit Go.Proofs.Tryz Tryz
mutual
theorem Zwo(N:Nat->Int):∀(a:ATree) (k:Nat),(∀i x,a.subs[i]?=some x->N x.b=((k+i:Nat):Int))->a.nt N=jl a.tree k
 | .mk b v o t n g,k,h=>by
   have m:=h 0 (.mk b v o t n g) (by simp only[ATree.subs];rfl);have p:=Zr8 N g (k+1) (λi x hx=>by
    have:=h (i+1) x (by simp only[ATree.subs,List.getElem?_cons_succ];exact hx);rw[this];congr 1;omega)
   simp only[ATree.b,Nat.add_zero]at m;simp only[ATree.nt,ATree.tree,jl,p,m]
theorem Zr8(N:Nat->Int):∀(l:List ATree) (k:Nat),(∀i x,(nc l)[i]?=some x->N x.b=((k+i:Nat):Int))->O5 N l=mK (f6 l) k
 | [],k,h=>by simp only[O5,f6,mK]
 |a::l,k,h=>by
   have hl:a.subs.length=a.tree.many:=by rw[U8,Zg6]
   have g:=Zwo N a k (λi x hx=>h i x (by
    simp only[nc];rw[List.getElem?_append_left (List.getElem?_eq_some_iff.1 hx).1];exact hx))
   have m:=Zr8 N l (k+a.tree.many) (λi x hx=>by
    have:=h (a.subs.length+i) x (by simp only[nc];rw[List.getElem?_append_right Qe,Nat.add_sub_cancel_left];exact hx);rw[this,hl];congr 1;omega)
   simp only[O5,f6,mK,g,m]
end
def Ztk{a:ATree}(hd:(a.subs.map ATree.b).Nodup){i:Nat}{x:ATree}(hx:a.subs[i]?=some x):s5 a x.b=(i:Int):=by
 have hk:=Z9f a [];simp only[List.map_nil,List.nil_append]at hk;have hp:=Z8m a [] (λi x h=>by simp at h);have h:=Ze9 a x (Yd hx);unfold s5;cases hf:(tU lQ a []).find? (λy=>y.1==x.b)with
 |none=>exact absurd (List.find?_eq_none.1 hf _ h) Qm
 |some y=>
   have o:y.1=x.b:=by simpa using List.find?_some hf
   obtain⟨j,g⟩:=List.mem_iff_getElem?.1 (List.mem_of_find?_eq_some hf);have p:=hp _ _ g;have m:(a.subs.map ATree.b)[j]?=some x.b:=by rw[<-hk,Yg,g,<-o];rfl
   have u:(a.subs.map ATree.b)[i]?=some x.b:=RD
   have h5:j=i:=(List.getElem?_inj (List.getElem?_eq_some_iff.1 m).1 hd).1 (m.trans u.symm);simp only[p,h5]
def Zn0{a:ATree}(hd:(a.subs.map ATree.b).Nodup):a.nt (s5 a)=jl a.tree 0:=
 Zwo _ a 0 λi x hx=>by rw[Ztk hd hx,Nat.zero_add]
def Zfw(l:List Tree)(d:kB):Tx (l++(wc d).kids)=Tx l:=by
 cases l with
 |nil=>rfl
 |cons x l=>
   obtain⟨k,t,n,g⟩:=x;cases g<;>rfl
def Z9u(l:List Tree)(d:kB):SL (.mk 1 (wv l) 0 l) (wc d)=.mk 1 (wv l) 0 (l++(wc d).kids):=by
 show Tree.mk 1 (if Tx (l++(wc d).kids)then LA else ByteArray.empty) 0 (l++(wc d).kids)=_;rw[Zfw];rfl
def Zfa(l:List ATree)(s:ATree)(st ins:Bool)(h:qL s st ins=0):qy (l++[s]) st ins=qy l st ins:=by
 induction l with
 |nil=>simp[qy,h]
 |cons x l g=>simp only[List.cons_append,qy,g]
theorem Z96{σ:Type}(g:σ->ATree->Bool×σ):∀(l m:List ATree) (s:σ),oB g (l++m) s=oB g m (oB g l s)
 | [],m,s=>by simp only[List.nil_append,oB]
 |x::l,m,s=>by simp only[List.cons_append,oB,Z96 g l m]
def Zj8{s:ATree}{d:kB}(h:[s.tree]=(wc d).kids):∃b1 g b2 v2 b3 v3 b4 v4,s=.mk b1 g 15 ByteArray.empty 0 [.mk b2 v2 35 ByteArray.empty 0 [.mk b3 v3 23 Jk 0 [],.mk b4 v4 18 d 0 []]]:=by
 simp only[wc,Tree.kids,List.cons.injEq,and_true]at h;obtain⟨b1,g,U,rfl,m⟩:=Tf h;obtain⟨a2,X,rfl,o,p⟩:=TC m;obtain rfl:=Tg p;obtain⟨b2,v2,Y,rfl,u⟩:=Tf o;obtain⟨a3,Z,rfl,y,F⟩:=TC u;obtain⟨a4,r3,rfl,G,I⟩:=TC F;obtain rfl:=Tg I;obtain⟨b3,v3,l3,rfl,J⟩:=Tf y;obtain rfl:=Tg J;obtain⟨b4,v4,l4,rfl,O⟩:=Tf G;obtain rfl:=Tg O;exact⟨b1,g,b2,v2,b3,v3,b4,v4,rfl⟩
def Zfs{l m:List Tree}:∀{k:List ATree},f6 k=l++m->∃p q,k=p++q/\f6 p=l/\f6 q=m:=by
 induction l with
 |nil=>intro k h;exact⟨[],k,rfl,rfl,h⟩
 |cons x l g=>
   intro k h;obtain⟨a,r,rfl,o,u⟩:=TC h;obtain⟨p,q,rfl,y,F⟩:=g u;exact⟨a::p,q,rfl,by simp only[f6,o,y],F⟩
def Zj3{g o:ATree}{l:List Tree}{d:kB}(hx:g.tree=.mk 1 (wv l) 0 l)(u:o.tree=SL g.tree (wc d)):AO o false false=AO g false false:=by
 rw[hx,Z9u]at u;obtain⟨b,v,U,rfl,hk⟩:=Tf u;obtain⟨p,q,rfl,y,F⟩:=Zfs hk;obtain⟨s,r,rfl,h5,G⟩:=TC F;obtain rfl:=Tg G;have hs:[s.tree]=(wc d).kids:=by rw[h5];rfl
 obtain⟨b1,m,b2,v2,b3,v3,b4,v4,rfl⟩:=Zj8 hs;have e:AO g false false=AO (.mk b v 1 (wv l) 0 p) false false:=Za8 (by rw[hx];simp only[ATree.tree,y]) false false;rw[e];have I:∀st ins,qL (.mk b1 m 15 ByteArray.empty 0 [.mk b2 v2 35 ByteArray.empty 0 [.mk b3 v3 23 Jk 0 [],.mk b4 v4 18 d 0 []]]) st ins=0:=λst ins=>by
  simp[qL,qy]
 unfold AO;have J:Zj (.mk b v 1 (wv l) 0 (p++[.mk b1 m 15 ByteArray.empty 0 [.mk b2 v2 35 ByteArray.empty 0 [.mk b3 v3 23 Jk 0 [],.mk b4 v4 18 d 0 []]]]))=Zj (.mk b v 1 (wv l) 0 p):=rfl;rw[J];simp only[ATree.kids];rw[Zfa _ _ _ _ (I _ _)];have O:∀s',EP (.mk b v 1 s' 0 (p++[.mk b1 m 15 ByteArray.empty 0 [.mk b2 v2 35 ByteArray.empty 0 [.mk b3 v3 23 Jk 0 [],.mk b4 v4 18 d 0 []]]])) true=EP (.mk b v 1 s' 0 p) true:=λs'=>by
  unfold EP SP Zbz yi;simp only[ATree.kids,List.filter_append,Z96];simp[vV,xp,ATree.kind,oB,tU,Cv]
 rw[O]
def Zpz{l:List Tree}{d:kB}{tx:Tree}(hx:tx=.mk 1 (wv l) 0 l)(hst:(jl (SL tx (wc d)) 0).stm)(o:(SL tx (wc d)).many<=1500) :
 (∃g,(iz (jl (SL tx (wc d)) 0)).log=(iz (jl tx 0)).log++g)/\((iz (jl tx 0)).code=1\/(iz (jl (SL tx (wc d)) 0)).code=(iz (jl tx 0)).code/\(iz (jl (SL tx (wc d)) 0)).value=(iz (jl tx 0)).value/\(iz (jl (SL tx (wc d)) 0)).log=(iz (jl tx 0)).log):=by
 subst hx;have hk:(jl (SL (.mk 1 (wv l) 0 l) (wc d)) 0).kids=(jl (.mk 1 (wv l) 0 l) 0).kids++mK (wc d).kids (1+mO l):=by
  rw[Zf1,Zf1];show mK (l++(wc d).kids) (0+1)=mK l (0+1)++mK (wc d).kids (1+mO l);rw[Z9l]
 refine Zuu (m:=mK (wc d).kids (1+mO l)) hst (by rw[Zb7];exact o) hk ?_ ?_ ?_ ?_
 .unfold NT.vars;rw[hk,Z8b];simp[wc,Tree.kids,mK,jl,Tn,YJ]
 .unfold NT.lets;exact Zz1
 .unfold NT.funcs;exact Zz1
 .unfold NT.strict;rw[Zf8,Zf8,Ze4,Ze4,Z9u];rfl
def X2(k:Nat):kB:=⟨#[112,114,105,110,116,40,39,UInt8.ofNat (48+k),39,41,59]⟩
def Zik:∀k,k<10->Zm (X2 k)=.ok (wc ⟨#[UInt8.ofNat (48+k)]⟩)
 |0,_=>by kernel_rfl
 |1,_=>by kernel_rfl
 |2,_=>by kernel_rfl
 |3,_=>by kernel_rfl
 |4,_=>by kernel_rfl
 |5,_=>by kernel_rfl
 |6,_=>by kernel_rfl
 |7,_=>by kernel_rfl
 |8,_=>by kernel_rfl
 |9,_=>by kernel_rfl
 |n+10,h=>absurd h Qe
def Zfi(w:kV)(J O:Nat)(I v2:Value)(l:List kB)(h1:Zx w J I l)(m:Zx w O v2 l) :
 kC 10 #[I,v2] w λe w'=>e=.returned (.bool true)/\kW w w':=by
 obtain⟨p,cp,rfl,U,vJ⟩:=h1.parts;obtain⟨q,cq,rfl,X,PY⟩:=m.parts;obtain⟨n,hn⟩:=zX l.length
 have y:=lh h1;have F:=lh m;rw[<-hn]at U X y F ⊢;have HN:=lh hn;have bH:((n:Int) !=(n:Int))=false:=Qm
 clear h1 m hn;go_enter func10,ntmps10
 go_wp2_with fail
 go_loopw [5] (λi wr=>∃k:Nat,k<=n/\i=(vI k)/\Hid (kW w wr)) (λi _=>n-(intOf i).toNat)
 case atStart=>exact⟨0,Yh _,rfl,lh (Y2 _ _)⟩
 case round=>
  obtain⟨k,hk,rfl,u⟩:=hrel;by_cases bY:k<n
  .obtain⟨x,hx⟩:∃x,l[k]? =some x:=⟨_,Y6 QA⟩
   obtain⟨Y,hp⟩:∃g,p=some ⟨g,0,none⟩:=by
    rcases y.o.form with⟨_,m⟩|⟨g,cap,h1,_⟩;·rw[m]at hx;simp at hx
    .exact WE
   subst hp;obtain⟨Z,hq⟩:∃g,q=some ⟨g,0,none⟩:=by
    rcases F.o.form with⟨_,m⟩|⟨g,cap,h1,_⟩;·rw[m]at hx;simp at hx
    .exact WE
   subst hq;have cx:=(y.o.bel u.o).cells rfl hx;have cy:=(F.o.bel u.o).cells rfl hx;have hb:(x.toList !=x.toList)=false:=Qm
   clear hx;go_wp2_with fail
   refine Z7 [0,2,4,6,8,10,12,14] [8] (λW=>W.cell? ⟨Y,k,none⟩=some (.string x)/\W.cell? ⟨Z,k,none⟩=some (.string x)) ⟨cx,cy⟩ λ_=>?_;refine dS ?_
   iterate 8
    refine dq ?_
   refine Z1 ?_;go_wp2;go_roundw
   case rel=>exact⟨k+1,by omega,by go_num,lh u.o.drew⟩
   case measure=>simp[intOf];omega
  .have aT:k=n:=by omega
   subst aT;go_wp2;go_ret;exact⟨rfl,u.o⟩
def Zx.one{w:kV}{B:Nat}(g:B<=w.heap.size)(s:kB):Zx (w.alloc (.cells #[.string s] 9)) B (.slice (some ⟨w.heap.size,0,none⟩) 1 1) [s]:=by
 unfold Zx;refine⟨rfl,.inr ⟨w.heap.size,1,_,rfl,g,(Go.MapKept.heap_alloc w _).1,by simp,by unfold maxLen;omega,by simp,?_⟩⟩;simp
def Zgx{text:kB}{t:Tree}(hr:Zm text=.ok t){a:ATree}(h:a.tree=t):Wf .sl a.tree.kids/\a.many<=1500/\WA a:=by
 obtain⟨g,m⟩:=Zb0 hr;have o:Wj text=some t.bare:=by unfold Wj;rw[hr]
 obtain⟨hst,-,-⟩:=Zay o;refine⟨?_,by rw[<-U8,h];exact m,Ztd a (by rw[h];exact g)⟩;unfold NT.stm at hst;rw[<-E1,Zb3]at hst;rw[h];exact hst
def Zha{text:kB}{t:Tree}(hr:Zm text=.ok t){w w':kV}{B:Nat}{a:ATree}(g:Got w B w' a t){W:kV}(m:kW w' W){eb:Addr}(h:RunW W eb) :
 kC 9 #[a.ptr] W (Zag W a):=by
 obtain⟨o,p,u⟩:=Zgx hr g.tree;exact Zun W B a eb h (g.at'.bel m) u g.apart o p
def Zt3(w:kV)(eb:Addr)(h:RunW w eb):kC 5 #[] w λe w'=>e=.returned (.bool true)/\kW w w':=by
 have p:=Z9p w Zg9 h.wd h.lv;rw[Zdy]at p;unfold Zg9 at p;have X:=lh p;have Y:=lh h;clear p h;go_enter func5,ntmps5
 go_wp2_with fail
 refine X.o.mono ?_;rintro e w1⟨hb,a,rfl,F⟩;have hk:(Zg4.kind==1)=true:=rfl;rw[hk];have o:=Zha Zdy F (Y2 _ _) (Y.o.bel hb);obtain⟨Z,g,m⟩:=Zqh F.tree;unfold ATree.ptr Zag at o;simp only[if_pos Z]at o;obtain⟨r,Li⟩:=zX (iz (a.nt (s5 a)))
 rw[<-Li]at o g m;obtain⟨xj,I,HD⟩:=ds o hb (Yu g m);clear hb F hk o Z g m Li X;go_wp2_with fail
 refine xj.o.mono ?_;rintro e w2⟨y,rfl,v,rfl,hv,J⟩;obtain⟨p1,n1,c1,p2,n2,c2,rfl,hl,-⟩:=hv;obtain⟨log,code,val,steps,seen⟩:=r;obtain⟨g,m⟩:=HD.o;simp only at g m hl;subst g;subst m;obtain⟨z,u⟩:=zX ((w2.alloc (.cells #[.slice p1 n1 c1,vI 1,.string val,vI steps,.slice p2 n2 c2] 40)).alloc (.cells #[.string ⟨#[54]⟩] 9))
 have O:kW w2 z:=by rw[u];exact((Y2 _ _).alloc (Y0 _) _).alloc Qm _
 have bN:=Zfi z _ 0 _ (.slice (some ⟨w2.heap.size+1,0,none⟩) 1 1) [⟨#[54]⟩] (hl.bel O) (by
  rw[u];have:=Zx.one (w:=w2.alloc (.cells #[.slice p1 n1 c1,vI 1,.string val,vI steps,.slice p2 n2 c2] 40)) (Yh _) ⟨#[54]⟩;simpa using this)
 obtain⟨jX,HZ,aP⟩:=ds bN u (I.o.trans ((J.trans (O.mono J.size)).mono I.o.size));clear hl J u O bN xj HD I Y;go_wp2_with fail
 rw[<-HZ.o];refine jX.o.mono ?_;rintro e w3⟨rfl,bo⟩;have U:=zT aP bo;clear bo jX aP;go_wp2;go_ret;exact⟨rfl,U.o⟩
theorem xk{w a b:kV}(h:kW w a)(g:kW a b):kW w b:=h.trans (g.mono h.size)
def Aa'{p:Nat}{v0 g v2 v3 v4:Value}{w W:kV}(h:w.heap[p]?=some (.cells #[v0,g,v2,v3,v4] 40 (0,0)))(m:kW w W) :
 vC W p 0 v0/\vC W p 1 g/\vC W p 2 v2/\vC W p 3 v3/\W.cell? ⟨p,4,none⟩=some v4:=by
 have hb:=(m.block p (Y1.1 h).1).trans h;refine⟨?_,?_,?_,?_,?_⟩<;>simp[vC,World.cell?,hb]
def Znq(w:kV)(a:Int) :
 kC 6 #[vI a,vI 10] w λe w'=>(∃r:Nat,r<10/\e=.returned (vI r))/\w'=w:=by
 go_enter func6,ntmps6
 go_wp2;go_ret;have g:0<=IntKind.u64.wrap a:=Int.emod_nonneg _ Qg;have m:0<=(IntKind.u64.wrap a).tmod 10:=Int.tmod_nonneg _ g;have o:(IntKind.u64.wrap a).tmod 10<10:=Int.tmod_lt_of_pos _ Qe;refine⟨⟨((IntKind.u64.wrap a).tmod 10).toNat,by omega,Z9m ?_⟩,rfl⟩;unfold wrap64;omega
theorem Zx.take{w:kV}{B n c:Nat}{p:Option Addr}{l m:List kB}(h:Zx w B (.slice p n c) (l++m)):Zx w B (.slice p l.length c) l:=by
 unfold Zx at h ⊢;obtain⟨X,F⟩:=h;refine⟨by simp,?_⟩;rcases F with⟨o,u⟩|⟨g,cap,I,o,u,h5,J,O,U,y⟩
 .rw[Yi]at u;have e:l=[]:=List.length_eq_zero_iff.1 Qe;subst e;simp only[Value.slice.injEq]at o;obtain⟨rfl,-,rfl⟩:=o;exact .inl ⟨rfl,rfl⟩
 .simp only[Value.slice.injEq]at o;obtain⟨rfl,-,rfl⟩:=o;rw[Yi]at J;refine .inr ⟨g,c,I,rfl,u,h5,by omega,O,U,?_⟩;rw[Yl,Yi]at y;have t:=congrArg (List.take l.length) y;rw[List.take_take,Nat.min_eq_left Qe]at t;rw[Nat.mul_one,t,List.take_append_of_le_length Qm,Ye Qm]
theorem Zx.at{w:kV}{B n c:Nat}{p:Option Addr}{l:List kB}(h:Zx w B (.slice p n c) l):n=l.length/\n<=c/\c<=9223372036854775807:=by
 obtain⟨q,o,e,g,m⟩:=h.parts;simp only[Value.slice.injEq]at e;obtain⟨-,rfl,rfl⟩:=e;exact⟨rfl,g,m⟩
def AaB(w:kV)(b:Nat)(L:List ATree):Prop:=∃p m,vC w b 3 (.slice p L.length m)/\L.length<=m/\m<=maxLen/\∀(i:Nat) (x:ATree),L[i]?=some x->∃g,p=some ⟨g,0,none⟩/\w.cell? ⟨g,i,none⟩=some x.ptr
def Zz7{w:kV}{F:Nat}{a:ATree}(o:TreeAt w F a):AaB w a.b a.kids:=by
 obtain⟨p,I,u,J,O⟩:=o.vOf;have c3:=o.c3;have y:=o.rowOf;rw[u]at c3;refine⟨p,I,c3,J,O,λi x hx=>?_⟩;rcases Z4 y with⟨_,U⟩|⟨g,cap,m,_⟩;·rw[List.eq_nil_of_length_eq_zero U]at hx;cases hx
 .rw[u]at m;simp only[Value.slice.injEq]at m;exact⟨g,m.1,Zq (x:=x.ptr) y (g:=g) (by rw[u,m.1];rfl) RD⟩
def Zr3(w:kV)(text:kB)(O:Int)(ok:Bool)(hk:ok=false\/2000<text.size)
 (F:Hid (kC 4 #[.string text] w λe w'=>(∃p,e=.returned (.tuple #[p,.bool ok]))/\kW w w'))
 (G:Hid (∀w1,kW w w1->kC 5 #[] w1 λe w'=>e=.returned (.bool true)/\kW w1 w')) :
 kC 3 #[.string text,vI O] w λe w'=>e=.returned (.bool true)/\kW w w':=by
 have g:ok=true->2000<text.size:=λe=>hk.resolve_left (by rw[e];simp);have m:ok=true->2000<(text.size:Int):=λe=>by have:=g e;omega
 have hd:ok=true->decide (2000<(text.size:Int))=true:=λe=>by have:=m e;simpa using this
 clear hk;cases ok;case' false=>clear hd m g
 case' true=>replace hd:=hd rfl;replace m:=m rfl;replace g:=g rfl
 all_goals focus
  go_enter func3,ntmps3
  go_wp2_with fail
  refine F.o.mono ?_;rintro e w1⟨⟨p,rfl⟩,hb⟩;have o:=lh hb;clear hb F;go_wp2_with fail
  refine(G.o w1 o.o).mono ?_;rintro e w2⟨rfl,I⟩;have u:=lh (xk o.o I);clear I o;go_wp2_with fail
  refine(G.o w2 u.o).mono ?_;rintro e U⟨rfl,J⟩;have y:=lh (xk u.o J);clear J u;go_wp2;go_ret;exact⟨rfl,y.o⟩
theorem Zcw:∀l:List ATree,l.length<=x4 l
 | []=>Yh _
 |a::l=>by
   have:=Zcw l;cases a;simp only[List.length_cons,x4,ATree.many];omega
def Zxi(r m:Res):Prop:=(∃g,m.log=r.log++g)/\(r.code=1\/m.code=r.code/\m.value=r.value/\m.log=r.log)
def Zu8{w0 w1 w2 m:kV}{B o:Nat}{text T:kB}{t:Tree}{d:kB}(hr:Zm text=.ok t)(hr2:Zm T=.ok (SL t (wc d))){x z:ATree}(hx:Got w0 B w1 x t)(g:Got w2 o m z (SL t (wc d))) :
 AO z false false=AO x false false/\Zxi (iz (x.nt (s5 x))) (iz (z.nt (s5 z))):=by
 obtain⟨l,-,hl,-⟩:=Z5q hr;refine⟨Zj3 (l:=l) (d:=d) (by rw[hx.tree,hl]) (by rw[hx.tree,g.tree]),?_⟩;rw[Zn0 hx.apart,Zn0 g.apart,hx.tree,g.tree];obtain⟨p,u,-⟩:=Zgx hr2 g.tree;refine Zpz hl ?_ (by rw[<-g.tree,U8];exact u);unfold NT.stm;rw[<-E1,Zb7,<-g.tree];exact p
def Zq8(w:kV)(text:kB)(t:Tree)(eb:Addr)(h:RunW w eb)(hr:Zm text=.ok t)(hs:text.size<=2000)(r:Nat)(u:r<10) :
 kC 7 #[.string (text++⟨#[10]⟩++X2 r)] w λe w'=>kW w w'/\(e=.returned (.tuple #[.pointer none,.iface 35 (vI 4)])\/∃z d,e=.returned (.tuple #[vP z.b,.nilIface])/\Zm (text++⟨#[10]⟩++X2 r)=.ok (SL t (wc d))/\Got w w.heap.size w' z (SL t (wc d))):=by
 have g:=Zac w (text++⟨#[10]⟩++X2 r) h.wd h.lv;have o:=Zdr (s:=⟨#[10]⟩) rfl Qg hr (Zik r u);have y:¬3000<(text++⟨#[10]⟩++X2 r).size:=by
  have:(X2 r).size=11:=rfl;have:(⟨#[10]⟩:kB).size=1:=rfl;rw[ByteArray.size_append,ByteArray.size_append];omega
 rw[Y3 y]at o;rw[o]at g ⊢;by_cases p:1500<(SL t (wc ⟨#[UInt8.ofNat (48+r)]⟩)).many
 .rw[Y5 p]at g;refine g.mono λe w2 m=>⟨m.1,.inl ?_⟩;obtain⟨_,x,rfl,hx⟩:=m;rcases hx with⟨_,rfl⟩|⟨q,hq,_⟩;·rfl
  .omega
 .rw[Y3 p]at g ⊢;refine g.mono λe w2 m=>⟨m.1,.inr ?_⟩;obtain⟨_,z,rfl,F⟩:=m;exact⟨z,_,rfl,rfl,F⟩
def Zj9(w2:kV)(r:Nat)(hr:r<10):(convert 30 9 (.slice (some ⟨w2.heap.size,0,none⟩) 1 1)).run Tryz.prog (w2.alloc (.cells #[.int .u8 (48+(r:Int))] 5)).drew=.ok (.string ⟨#[UInt8.ofNat (48+r)]⟩) (w2.alloc (.cells #[.int .u8 (48+(r:Int))] 5)).drew:=by
 have h:=run_convert_bytes_back (P:=Tryz.prog) (w2.alloc (.cells #[.int .u8 (48+(r:Int))] 5)).drew 30 9 5 ⟨w2.heap.size,0,none⟩ 1 [UInt8.ofNat (48+r)] underlying30 underlying5 Yj (λj g=>by
  have e:j=0:=by simpa using g
  subst e;have hb:(w2.alloc (.cells #[.int .u8 (48+(r:Int))] 5)).drew.heap[w2.heap.size]?=some (.cells #[.int .u8 (48+(r:Int))] 5 (0,0)):=Yq w2 _;have m:(48+(r:Int)) %256=48+(r:Int):=Qe
  show(w2.alloc (.cells #[.int .u8 (48+(r:Int))] 5)).drew.cell? ⟨w2.heap.size,0,none⟩=_;unfold World.cell?;rw[hb];simp[m])
 exact h
theorem Znk(r:Nat):(⟨#[112,114,105,110,116,40,39]⟩:kB)++⟨#[UInt8.ofNat (48+r)]⟩++⟨#[39,41,59]⟩=X2 r:=by rfl
def AbO(w:kV)(text:kB)(nn:Int)(t:Tree)(eb:Addr)(h:RunW w eb)(hr:Zm text=.ok t)(hs:text.size<=2000)
 (kE:Hid (∀w1,kW w w1->kC 5 #[] w1 λe w'=>e=.returned (.bool true)/\kW w1 w'))
 (HR:Hid (kC 4 #[.string text] w (Zdg w (.ok t)))) :
 kC 3 #[.string text,vI nn] w λe w'=>e=.returned (.bool true)/\kW w w':=by
 have hk:(t.kind==1)=true:=by
  obtain⟨l,-,e,-⟩:=Z5q hr;rw[e];rfl
 have hd:decide (2000<(text.size:Int))=false:=Qi
 have tN:¬2000<(text.size:Int):=Qe
 have BX:¬2000<text.size:=Qe
 have Lj:=lh (λ(r:Nat) (lj:r<10) W (hB:kW w W)=>Zq8 W text t eb (h.bel hB) hr hs r lj);have q1:¬(text.size+1>9223372036854775807):=Qe
 have q2:¬(text.size+1+11>9223372036854775807):=Qe
 obtain⟨HW,HP,HK,Lk⟩:=gp h hr hk (λW=>Znq W nn);clear hs h hr hk;go_enter func3,ntmps3
 go_wp2_with fail
 refine HR.o.mono ?_;rintro e w1⟨hb,x,rfl,hg⟩;rw[HK.o];obtain⟨HB,HG,xj⟩:=ds hb hg (λW (hB:kW w1 W)=>Zha HP.o hg hB (HW.o.bel (xk hb hB)));unfold ATree.ptr at xj;clear hb hg HR HK;go_wp2_with fail
 refine(kE.o w1 HB.o).mono ?_;rintro e w2⟨rfl,aw⟩;have aP:=lh (xk HB.o aw);have BY:=lh aw;have hT:=HG.o.at'.bel aw;clear aw kE;obtain⟨n,hn⟩:=zX x.kids.length
 have OF:n<=1500:=by
  have h1:=(Zgx HP.o HG.o.tree).2.1;have h2:=Zcw x.kids;rw[<-hn]at h2;cases x;simp only[ATree.many,ATree.kids]at h1 h2;omega
 obtain⟨px,cx,x3,xF,OG,ie⟩:=Zz7 hT;rw[<-hn]at x3 xF;unfold maxLen at OG;obtain⟨HX,Hs,HN⟩:=ds hT ie hn;clear ie hn hT;rcases Nat.eq_zero_or_pos n with hn0|hn0;case' inl=>
  have bj:decide ((0:Int)<(n:Int))=false:=Qi
  have bJ:¬(0:Int)<(n:Int):=Qe
  have rI:¬0<n:=Qe
  have jR:=lh hn0;clear hn0;go_wp2_with fail
  refine Z7 [0,2,4,6,8,10,12,14,16,18,20,22,24,26,28,30,32] [17,18,19,20,21,22,23] (λW=>vC W x.b 3 (.slice px n cx)) x3 λ_=>?_;refine dS ?_
  iterate 17
   refine dq ?_
  refine Z1 ?_;go_wp2_with fail
  clear bj bJ rI x3
 case' inr=>
  obtain⟨j,hj⟩:∃j,j+1=n:=⟨n-1,by omega⟩
  obtain⟨u,hu⟩:∃u,x.kids[j]?=some u:=⟨_,Y6 (by rw[<-HN.o];omega)⟩
  obtain⟨gx,OH,xu⟩:=Hs.o j u hu;subst OH;have Ll:=HX.o.kid (Yd hu);have u0:=Ll.c0;unfold ATree.ptr at xu;obtain⟨kd,bC⟩:=zX u.kind
  rw[<-bC]at u0;have pX:(n:Int)-1=(j:Int):=Qe
  have bj:decide ((0:Int)<(n:Int))=true:=Qi
  have bJ:(0:Int)<(n:Int):=Qe
  have rI:0<n:=Qe
  have OJ:decide (0<n)=true:=Qi
  have xO:j<n:=Qe
  have OK:(j:Int)<(n:Int):=Qe
  have OL:IntKind.i64.wrap (j:Int)=(j:Int):=Yv _ Qe;have HJ:=lh hj;clear hj hn0 hu Ll bC;by_cases h7:kd=7;case' pos=>
   have e7:(kd==7)=true:=by simp[h7]
   clear h7;go_wp2_with fail
   refine Z7 [0,2,4,6,8,10,12,14,16,18,20,22,24,26,28,30,32] [17,18,19,20,21,22,23] (λW=>vC W x.b 3 (.slice (some ⟨gx,0,none⟩) n cx)/\W.cell? ⟨gx,j,none⟩=some (vP u.b)/\vC W u.b 0 (vI kd)) ⟨x3,xu,u0⟩ λ_=>?_;refine dS ?_
   iterate 17
    refine dq ?_
   refine Z1 ?_;go_wp2;go_ret;exact⟨rfl,aP.o.drew⟩
  have e7:(kd==7)=false:=by simp[h7]
  clear h7;go_wp2_with fail
  refine Z7 [0,2,4,6,8,10,12,14,16,18,20,22,24,26,28,30,32] [17,18,19,20,21,22,23] (λW=>vC W x.b 3 (.slice (some ⟨gx,0,none⟩) n cx)/\W.cell? ⟨gx,j,none⟩=some (vP u.b)/\vC W u.b 0 (vI kd)) ⟨x3,xu,u0⟩ λ_=>?_;refine dS ?_
  iterate 17
   refine dq ?_
  refine Z1 ?_;go_wp2_with fail
  clear bj bJ rI OJ xO OK OL pX e7 xu u0 x3
 all_goals focus
  refine(Lk.o _).mono ?_;rintro e w3⟨⟨r,BZ,rfl⟩,rfl⟩;have a1:IntKind.i64.wrap (48+(r:Int))=48+(r:Int):=Yv _ Qe;have a2:IntKind.u8.wrap (48+(r:Int))=48+(r:Int):=by show(48+(r:Int)) %256=_;omega
  have a3:=Zj9 w2 r BZ;obtain⟨dg,tM⟩:∃dg:kB,dg=⟨#[UInt8.ofNat (48+r)]⟩:=⟨_,rfl⟩
  rw[<-tM]at a3;have OM:dg.size=1:=by rw[tM];rfl
  have wR:=Znk r;rw[<-tM]at wR;have ON:=lh wR;clear tM wR;go_wp2_with fail
  rw[ON.o];obtain⟨w3,jk⟩:=zX ((w2.alloc (.cells #[.int .u8 (48+(r:Int))] 5)).drew)
  rw[<-jk];have xl:kW w2 w3:=by rw[jk];exact(Z2 _ _).drew
  have HB3:=lh (xk aP.o xl);have B7:=lh (xk BY.o xl);clear jk xl a1 a2 a3 OM aP BY;refine(Lj.o r BZ w3 HB3.o).mono ?_;rintro e w4⟨fq,cS⟩;have ep:=lh (xk HB3.o fq);have B8:=lh (xk B7.o fq);clear fq HB3 B7 Lj Lk;rcases cS with rfl|⟨z,d,rfl,Ht,yh⟩
  .have cG:=Zdo w4 4 ((HW.o.bel ep.o).et);rw[show cL 4= .iface 35 (vI 4) by rfl]at cG;have Lm:=lh cG;clear cG;go_wp2_with fail
   refine Lm.o.mono ?_;rintro e w6⟨rfl,jV⟩;have jQ:=lh (xk ep.o jV);clear jV Lm;go_wp2;go_ret;exact⟨rfl,jQ.o⟩
  have Hu:=Zu8 HP.o Ht HG.o yh;have B9:=lh (λW (hB:kW w4 W)=>Zha Ht yh hB (HW.o.bel (xk ep.o hB)));unfold ATree.ptr at B9;obtain⟨F,kt⟩:=zX (iz (x.nt (s5 x)))
  obtain⟨rb,ii⟩:=zX (iz (z.nt (s5 z)))
  rw[<-kt,<-ii]at Hu;obtain⟨Bv,qm,Ca⟩:=ds kt ii Hu;clear kt ii Hu Ht yh;go_wp2_with fail
  refine(xj.o w4 B8.o).mono ?_;rintro e w5⟨y,rfl,hy⟩;by_cases hc:AO x false false=0
  .rw[Y5 hc,<-Bv.o]at hy;obtain⟨v,rfl,hv,gI⟩:=hy;have gr:=hv;obtain⟨p1,p,c1,p2,n2,c2,rfl,xm,-⟩:=hv;have en:=xm.at.1;obtain⟨w6,U⟩:=zX (w5.alloc (.cells #[.slice p1 p c1,vI F.code,.string F.value,vI F.steps,.slice p2 n2 c2] 40))
   have ig:w6.heap[w5.heap.size]?=some (.cells #[.slice p1 p c1,vI F.code,.string F.value,vI F.steps,.slice p2 n2 c2] 40 (0,0)):=by rw[U];exact Yq w5 _
   have X:kW w5 w6:=by rw[U];exact Z2 _ _
   obtain⟨jQ,Cb,HV,DA,Do,HC,tR⟩:=kF (xk ep.o (xk gI X)) (xk gI X) (xm.bel X) en ig hc U;obtain⟨pa,Hv⟩:=zX w5.heap.size
   rw[<-Hv]at Do;have Cc:=lh Hv;clear hc gI gr ig X U Hv xm en;go_wp2_with fail
   rw[<-tR.o,<-Cc.o];refine(B9.o w6 Cb.o).mono ?_;rintro e Y⟨y,rfl,hy⟩;rw[Ca.o.1,Y5 HC.o,<-qm.o]at hy;obtain⟨v,rfl,hv,jp⟩:=hy;obtain⟨iq,I,d1,lY,m2,d2,rfl,xo,-⟩:=hv;obtain⟨em,OO,rE⟩:=xo.at;obtain⟨m,Z⟩:=zX (Y.alloc (.cells #[.slice iq I d1,vI rb.code,.string rb.value,vI rb.steps,.slice lY m2 d2] 40))
   have jj:m.heap[Y.heap.size]?=some (.cells #[.slice iq I d1,vI rb.code,.string rb.value,vI rb.steps,.slice lY m2 d2] 40 (0,0)):=by rw[Z];exact Yq Y _
   have J:kW Y m:=by rw[Z];exact Z2 _ _
   have mV:=lh (xk jQ.o (xk jp J));obtain⟨⟨g,hg⟩,bW⟩:=Ca.o.2;have CO:=(HV.o.bel (xk jp J)).bel (Y2 m.heap.size m).drew;have xR:=(xo.bel J).bel (Y2 m.heap.size m).drew;rw[hg]at xR;have bN:=Zfi m.drew _ _ (.slice iq p d1) (.slice p1 p c1) F.log (by rw[DA.o];exact xR.take) CO;have dt:p<=I:=by rw[DA.o,em,hg,Yi];omega
   have uL:F.code=1\/rb.code=F.code/\rb.value=F.value/\I=p:=bW.imp id λh=>⟨h.1,h.2.1,by rw[em,DA.o,h.2.2]⟩;obtain⟨Hw,oX,DB⟩:=ds (λW (hB:kW m W)=>Aa' Do.o (xk (xk jp J) hB)) (λW (hB:kW m W)=>Aa' jj hB) Z;obtain⟨pb,jG⟩:=zX Y.heap.size
   rw[<-jG]at oX;have rC:=lh jG;obtain⟨e0,-,-,-,-⟩:=Hw.o m (Y2 _ _);obtain⟨f0,-,-,-,-⟩:=oX.o m (Y2 _ _);have jX:=lh bN;have Cd:=lh uL;have k1:decide ((I:Int)<(p:Int))=false:=Qi
   have k2:¬(I:Int)<(p:Int):=Qe
   have k3:¬I<p:=Qe
   have k4:(p:Int)<=(d1:Int):=Qe
   have k5:p<=d1:=Qe
   have k6:(0:Int)<=(p:Int):=Qe
   clear dt OO rE Z jG jj J jp em hg bW uL CO xR xo bN tR Cc Do Ca Bv qm B9 xj HV DA HC HG HX HP Hs HN;go_wp2_with fail
   rw[<-DB.o,<-rC.o];refine Z7 [0,2,4,6,8,10,12,14,16,18,20,22,24,26,28,30] [16,17,18] (λW=>vC W pa 0 (.slice p1 p c1)/\vC W pb 0 (.slice iq I d1)) ⟨e0,f0⟩ λ_=>?_;refine dS ?_
   iterate 16
    refine dq ?_
   refine Z1 ?_;go_wp2_with fail
   clear k1 k2 k3 k4 k5 k6 e0 f0;refine jX.o.mono ?_;rintro e w9⟨rfl,O⟩;have O:kW m w9:=(Y2 m.heap.size m).drew.trans O;obtain⟨e0,e1,e2,e3,e4⟩:=Hw.o w9 O;obtain⟨f0,f1,f2,f3,f4⟩:=oX.o w9 O;have ea:=lh (xk mV.o O);obtain⟨log,code,val,steps,seen⟩:=F;obtain⟨OP,uM,Ce,Hx,Ln⟩:=rb;have qP:=Cd.o;try simp only at qP
   clear O Hw oX jX Cd DB rC mV jQ Cb;by_cases h1:code=1;case' pos=>
    subst h1;clear qP;go_wp2;go_ret;exact⟨rfl,ea.o⟩
   case' neg=>
    have jE:(code==1)=false:=SF
    obtain⟨rfl,rfl,rfl⟩:=qP.resolve_left h1;have lC:(uM==uM)=true:=Qm
    have IS:(Ce.toList==Ce.toList)=true:=Qm
    have PZ:((I:Int)==(I:Int))=true:=beq_self_eq_true _;clear h1;go_wp2;go_ret;exact⟨rfl,ea.o⟩
  .rw[Y3 hc]at hy;obtain⟨rfl,gI⟩:=hy;obtain⟨c,By⟩:=zX (AO x false false)
   rw[<-By]at hc ⊢;have gN:cL c=.iface 35 (vI c):=Y3 hc;rw[gN];obtain⟨w6,U⟩:=zX (w5.alloc (.cells #[.slice none 0 0,vI 0,.string ⟨#[]⟩,vI 0,.slice none 0 0] 40))
   have X:kW w5 w6:=by rw[U];exact Z2 _ _
   obtain⟨jQ,Cf,Hz⟩:=ds (xk ep.o (xk gI X)) (B9.o w6 (xk gI X)) (λW (hB:kW w W)=>Zdo W c (HW.o.bel hB).et);rw[gN]at Hz;obtain⟨tu,HC,iN,tR⟩:=gp gN hc By U;have P8:(c==c)=true:=Qm
   clear hc By gI gN X U ep B8 xj HP HG HX Hs HN HW;go_wp2_with fail
   rw[<-tR.o];refine Cf.o.mono ?_;rintro e Y⟨y,rfl,hy⟩;rw[Ca.o.1,<-iN.o,Y3 HC.o]at hy;obtain⟨rfl,jp⟩:=hy;rw[tu.o];have J:=Z2 Y (.cells #[.slice none 0 0,vI 0,.string ⟨#[]⟩,vI 0,.slice none 0 0] 40);obtain⟨m,Z⟩:=zX (Y.alloc (.cells #[.slice none 0 0,vI 0,.string ⟨#[]⟩,vI 0,.slice none 0 0] 40))
   rw[<-Z]at J;have mV:=lh (xk jQ.o (xk jp J));have DB:=lh Z;clear jp J Z Cf Ca Bv qm B9;go_wp2_with fail
   rw[<-DB.o];refine(Hz.o m mV.o).mono ?_;rintro e w9⟨rfl,O⟩;have ea:=lh (xk mV.o O);clear O;go_wp2_with fail
   refine(Hz.o w9 ea.o).mono ?_;rintro e P9⟨rfl,Cg⟩;have H5:=lh (xk ea.o Cg);clear Cg mV ea;go_wp2;go_ret;exact⟨rfl,H5.o⟩
def Zmh(w:kV)(text:kB)(m:Int)(eb:Addr)(h:RunW w eb):kC 3 #[.string text,vI m] w λe w'=>e=.returned (.bool true)/\kW w w':=by
 have g:=Z9p w text h.wd h.lv;have p:=lh (λw1 (u:kW w w1)=>Zt3 w1 eb (h.bel u));cases hr:Zm text with
 |error x=>
   rw[hr]at g;exact Zr3 w text m false (.inl rfl) (lh (g.mono λe w1 o=>⟨⟨_,o.2⟩,o.1⟩)) p
 |ok t=>
   rw[hr]at g;by_cases hs:text.size<=2000;·exact AbO w text m t eb h hr hs p (lh g)
   .refine Zr3 w text m (t.kind==1) (.inr Qe) (lh (g.mono λe w1 o=>?_)) p;obtain⟨y,a,F,-⟩:=o;exact⟨⟨_,F⟩,y⟩
def Zbj{H:Type}{enc:TypeId×Value->H}{P:Program}{w:kV}{base:Nat}{y:Nat->Bool}{F:Bool}{fuel:Nat}{t e:TypeId}{n:Nat}{cs:List Value}{l:List (List UInt8)}{p:List MemPlace}
 (ht:P.underlying t=some (.array n e))(he:P.underlying e=some .string)(I:P.cellsOf e=1)(J:P.cellsOf t=n)
 (h:DataW.trod enc P w base y F fuel t cs=some (.agg (l.map λb=>.lit (.string b)),p)):cs=l.map λb=>Value.string ⟨b.toArray⟩:=by
 cases fuel with
 |zero=>simp[DataW.trod]at h
 |succ fuel=>
   simp only[DataW.trod,ht,I,J,Nat.mul_one]at h;split at h
   .rename_i hl;obtain⟨g,o,hx⟩:=Option.map_eq_some_iff.1 h;have u:g.map (·.1)=l.map λb=>(DataW.lit (.string b):DataW H):=by
     have:=congrArg Prod.fst hx;simpa using this
    have Y:g.length=n:=by simpa using Lib.mapM_length o
    have Z:l.length=n:=by
     have:=congrArg List.length u;simp at this;omega
    apply List.ext_getElem?;intro i;by_cases hi:i<n
    .obtain⟨b,hb,hf⟩:=Lib.mapM_at o i i (by simp[hi]);obtain⟨s,hc,rfl,_⟩:=DataW.trod_string he hf;have O:cs[i]?=some (.string s):=by
      have:=congrArg (·[0]?) hc;simpa[List.getElem?_take,List.getElem?_drop]using this
     have m:(g.map (·.1))[i]?=some (DataW.lit (.string s.data.toList):DataW H):=by simp[hb]
     rw[u]at m;simp only[List.getElem?_map,Option.map_eq_some_iff,DataW.lit.injEq,Lit.string.injEq]at m;obtain⟨z',U,X⟩:=m;simp only[O,List.getElem?_map,U,Option.map_some,X]
    .rw[List.getElem?_eq_none Qe,List.getElem?_eq_none Qi]
   .cases h
def Zs9{H:Type}{enc:TypeId×Value->H}{P:Program}{w:kV}{base:Nat}{g:Nat->Bool}{m:Bool}{fuel:Nat}{e:TypeId}{v:Value}{b:List UInt8}{q:List MemPlace}(he:P.underlying e=some .string)
 (h:DataW.trod enc P w base g m fuel e [v]=some (.lit (.string b),q)):v=.string ⟨b.toArray⟩:=by
 obtain⟨s,hc,hx,_⟩:=DataW.trod_string he h;simp only[List.cons.injEq,and_true]at hc;simp only[Prod.mk.injEq,DataW.lit.injEq,Lit.string.injEq]at hx;rw[hc,hx.1]
def Zde{P:Program}{W:kV}{name:String}{d:DataW Unit}{u:List (String×DataW Unit)}{g:Nat}{t e:TypeId}{n:Nat}{l:List (List UInt8)}
 (m:P.globalNamed name=some g)(y:(P.globals[g]?).map (·.type)=some t)(ht:P.underlying t=some (.array n e))(he:P.underlying e=some .string)(F:P.cellsOf e=1)(G:P.cellsOf t=n)
 (hd:d=.agg (l.map λb=>.lit (.string b)))(h:laidMet P ((name,d)::u) W)(i:Nat)(b:List UInt8)(hi:l[i]?=some b):W.cell? ⟨g,i,none⟩=some (.string ⟨b.toArray⟩):=by
 obtain⟨ps,⟨U,t',cs,fuel,p,q,I,J,O,o,_,_⟩,_⟩:=h;obtain rfl:=Yc (m.symm.trans I);obtain rfl:=Yc (y.symm.trans J);rw[hd]at o;have hc:=Zbj ht he F G o;have:=World.var?_cell m O i;rw[this];have hx:cs=(l.map λb=>Value.string ⟨b.toArray⟩).toArray:=by rw[<-hc]
 rw[hx];simp[hi]
def Zsi{H:Type}{enc:TypeId×Value->H}{P:Program}{w:kV}{base:Nat}{m:Nat->Bool}{o:Bool}{fuel:Nat}{t e:TypeId}{n:Nat}{cs:List Value}{l:List (DataW H)}{p:List MemPlace}
 (ht:P.underlying t=some (.array n e))(G:P.cellsOf e=1)(I:P.cellsOf t=n)
 (h:DataW.trod enc P w base m o fuel t cs=some (.agg l,p))(i:Nat)(r:DataW H)(hi:l[i]?=some r) :
 ∃J q,DataW.trod enc P w base m o J e ((cs.drop i).take 1)=some (r,q):=by
 cases fuel with
 |zero=>simp[DataW.trod]at h
 |succ fuel=>
   simp only[DataW.trod,ht,G,I,Nat.mul_one]at h;split at h
   .rename_i hl;obtain⟨g,u,hx⟩:=Option.map_eq_some_iff.1 h;have y:g.map (·.1)=l:=by
     have:=congrArg Prod.fst hx;simpa using this
    have X:g.length=n:=by simpa using Lib.mapM_length u
    have O:i<n:=by
     have U:=(List.getElem?_eq_some_iff.1 hi).1;rw[<-y,Ym]at U;omega
    obtain⟨b,hb,hf⟩:=Lib.mapM_at u i i (by simp[O]);have F:(g.map (·.1))[i]?=some b.1:=by simp[hb]
    rw[y,hi]at F;exact⟨fuel,b.2,by rw[Yc F];exact hf⟩
   .cases h
def Zbr{P:Program}{W:kV}{I name:String}{J d:DataW Unit}{O:List (String×DataW Unit)}{g:Nat}{t e f:TypeId}{n:Nat}{l:List (List (List UInt8))}
 (m:P.globalNamed name=some g)(U:(P.globals[g]?).map (·.type)=some t)(ht:P.underlying t=some (.array n e))(he:P.underlying e=some (.slice f))(hf:P.underlying f=some .string)
 (X:P.cellsOf e=1)(Y:P.cellsOf f=1)(Z:P.cellsOf t=n)
 (hd:d=.agg (l.map λr=>.slice (r.map λb=>.lit (.string b)) []))(h:laidMet P ((I,J)::(name,d)::O) W)(i:Nat)(r:List (List UInt8))(hi:l[i]?=some r)(hr:0<r.length) :
 ∃b off cap,W.cell? ⟨g,i,none⟩=some (.slice (some ⟨b,off,none⟩) r.length cap)/\r.length<=cap/\∀j x,r[j]?=some x->W.cell? ⟨b,off+j,none⟩=some (.string ⟨x.toArray⟩):=by
 obtain⟨ps,⟨_,_,_,_,_,_,_,_,_,_,h2,_⟩,_⟩:=h;obtain⟨g',t',cs,fuel,p,q,eQ,H6,xv,o,_,_⟩:=h2;obtain rfl:=Yc (m.symm.trans eQ);obtain rfl:=Yc (U.symm.trans H6);rw[hd]at o;obtain⟨uN,q',ae⟩:=Zsi ht X Z o i (.slice (r.map λb=>.lit (.string b)) []) (by rw[Yg,hi];rfl);obtain⟨a,cap,u,y,F⟩:=open_row he Y ae;rw[Ym]at u y;have bu:W.cell? ⟨g,i,none⟩=some (.slice (some a) r.length cap):=by
  rw[World.var?_cell m xv i];have:=congrArg (·[0]?) u;simpa[List.getElem?_take,List.getElem?_drop]using this
 obtain⟨b,off,H7⟩:=a;have Ch:H7=none:=by
  obtain⟨x,hx⟩:∃x,r[0]?=some x:=⟨r[0],Y6 hr⟩
  obtain⟨v,n,q,hc,_⟩:=F 0 _ RD;simpa[Addr.add]using World.cell?_spot hc
 subst Ch;refine⟨b,off,cap,bu,y,λj x hx=>?_⟩;obtain⟨v,n,q,hc,hr⟩:=F j _ RD;rw[Zs9 hf hr]at hc;rwa[show((⟨b,off,none⟩:Addr).add j)=⟨b,off+j,none⟩ by unfold Addr.add;split<;>simp_all]at hc
