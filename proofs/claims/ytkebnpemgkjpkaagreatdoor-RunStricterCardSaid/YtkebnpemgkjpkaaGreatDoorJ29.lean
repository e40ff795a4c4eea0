import Derived.Test.YtkebnpemgkjpkaaGreatDoorJ28
import Derived.LaidMore
import Derived.Stop.Joined
set_option maxRecDepth 100000
set_option maxHeartbeats 20000000
set_option linter.all false
namespace Go.Proofs.YtkebnpemgkjpkaaGreatDoor
open Go Go.RowKit Go.Proofs.Tryz Tryz
mutual
theorem Zxn(N:Nat->Int):∀(a:ATree) (k:Nat),(∀i x,a.subs[i]?=some x->N x.b=((k+i:Nat):Int))->a.nt N=m' a.tree k
 | .mk b v p t n g,k,h=>by
   have m:=h 0 (.mk b v p t n g) (by simp only[ATree.subs];rfl);have h1:=Zse N g (k+1) (λi x hx=>by
    have:=h (i+1) x (by simp only[ATree.subs,List.getElem?_cons_succ];exact hx);rw[this];congr 1;omega)
   simp only[ATree.b,Nat.add_zero]at m;simp only[ATree.nt,ATree.tree,m',h1,m]
theorem Zse(N:Nat->Int):∀(l:List ATree) (k:Nat),(∀i x,(lw l)[i]?=some x->N x.b=((k+i:Nat):Int))->FA N l=wD (f6 l) k
 | [],k,h=>by simp only[FA,f6,wD]
 |a::l,k,h=>by
   have hl:a.subs.length=a.tree.many:=by rw[Vi,Zgq]
   have h1:=Zxn N a k (λi x hx=>h i x (by
    simp only[lw];rw[List.getElem?_append_left (List.getElem?_eq_some_iff.1 hx).1];exact hx))
   have g:=Zse N l (k+a.tree.many) (λi x hx=>by
    have:=h (a.subs.length+i) x (by simp only[lw];rw[List.getElem?_append_right Px,Nat.add_sub_cancel_left];exact hx);rw[this,hl];congr 1;omega)
   simp only[FA,f6,wD,h1,g]
end
def Zv4{a:ATree}(hd:(a.subs.map ATree.b).Nodup){i:Nat}{x:ATree}(hx:a.subs[i]?=some x):oi a x.b=(i:Int):=by
 have hk:=Z9q a [];simp only[List.map_nil,List.nil_append]at hk;have hp:=Z8v a [] (λi x h=>by simp at h);have h:=Zeg a x (Yd hx);unfold oi;cases hf:(sp kR a []).find? (λy=>y.1==x.b)with
 |none=>exact absurd (List.find?_eq_none.1 hf _ h) PE
 |some y=>
   have h1:y.1=x.b:=by simpa using List.find?_some hf
   obtain⟨j,g⟩:=List.mem_iff_getElem?.1 (List.mem_of_find?_eq_some hf);have p:=hp _ _ g;have m:(a.subs.map ATree.b)[j]?=some x.b:=by rw[<-hk,Yg,g,<-h1];rfl
   have u:(a.subs.map ATree.b)[i]?=some x.b:=Rq
   have h5:j=i:=(List.getElem?_inj (List.getElem?_eq_some_iff.1 m).1 hd).1 (m.trans u.symm);simp only[p,h5]
def Zme{a:ATree}(hd:(a.subs.map ATree.b).Nodup):a.nt (oi a)=m' a.tree 0:=
 Zxn _ a 0 λi x hx=>by rw[Zv4 hd hx,Nat.zero_add]
def TW(x:ATree):Bool:=x.kind==12||x.kind==23&&Zg x.text sW||x.kind==36&&Zg x.text sW
mutual
theorem Zcs(N:Nat->Int):∀(a:ATree),(∀x∈a.subs,TW x=false)->(a.nt N).clean
 | .mk b v k t n l,h=>by
   have g:=h (.mk b v k t n l) (by simp[ATree.subs]);simp only[TW,ATree.kind,ATree.text,Bool.or_eq_false_iff,Bool.and_eq_false_iff,beq_eq_false_iff_ne]at g;simp only[ATree.nt,NT.clean];refine⟨g.1.1,λhk ht=>?_,Zbc N l λx hx=>h x (by simp[ATree.subs,hx])⟩;have hs:Zg t sW=true:=Z7z.2 ht;rcases hk with hk|hk
   .rcases g.1.2 with e|e;·exact e hk
    .rw[hs]at e;cases e
   .rcases g.2 with e|e;·exact e hk
    .rw[hs]at e;cases e
theorem Zbc(N:Nat->Int):∀(l:List ATree),(∀x∈lw l,TW x=false)->TY (FA N l)
 | [],h=>by simp[FA,TY]
 |a::l,h=>by
   simp only[FA,TY];exact⟨Zcs N a λx hx=>h x (by simp[lw,hx]),Zbc N l λx hx=>h x (by simp[lw,hx])⟩
end
def Zc3{s:ATree}{a:kB}(h:s.tree=Ey a):∃b1 g b2 v2,s=.mk b1 g 15 ByteArray.empty 0 [.mk b2 v2 18 a 0 []]:=by
 obtain⟨b1,g,F,rfl,m⟩:=Tw h;obtain⟨a2,G,rfl,p,u⟩:=Uv m;obtain rfl:=UP u;obtain⟨b2,v2,I,rfl,y⟩:=Tw p;obtain rfl:=UP y;exact⟨b1,g,b2,v2,rfl⟩
def Zoc{u y:ATree}{F:List Tree}(ha:u.tree=.mk 1 Cw 0 (Ey Vf::F))(hb:y.tree=.mk 1 ByteArray.empty 0 (Ey TZ::F))(h:A0 u false false=0):A0 y false false=0:=by
 obtain⟨b,v,l,rfl,hl⟩:=Tw ha;obtain⟨s,m,rfl,hs,G⟩:=Uv hl;obtain⟨b',p,Z,rfl,I⟩:=Tw hb;obtain⟨s',rb,rfl,J,O⟩:=Uv I;obtain⟨b1,g,b2,v2,rfl⟩:=Zc3 hs;obtain⟨b3,v3,b4,v4,rfl⟩:=Zc3 J;have e:A0 (.mk b' p 1 ByteArray.empty 0 (.mk b3 v3 15 ByteArray.empty 0 [.mk b4 v4 18 TZ 0 []]::rb)) false false=A0 (.mk b' p 1 ByteArray.empty 0 (.mk b3 v3 15 ByteArray.empty 0 [.mk b4 v4 18 TZ 0 []]::m)) false false:=
  Zbi (by simp only[ATree.tree,f6,G,O]) false false
 rw[e];unfold A0 at h ⊢;have U:Iw (.mk b' p 1 ByteArray.empty 0 (.mk b3 v3 15 ByteArray.empty 0 [.mk b4 v4 18 TZ 0 []]::m)) true=Iw (.mk b v 1 Cw 0 (.mk b1 g 15 ByteArray.empty 0 [.mk b2 v2 18 Vf 0 []]::m)) true:=by
  unfold Iw Sj Zd0 zt;simp[vG,xk,ATree.kind,ATree.kids,pV,sp,Ex]
 rw[U];split at h;·cases h
 .rename_i X;rw[Y3 X];simp only[ATree.kids]at h ⊢;have Y:∀b1 g b2 v2 a st ins,mK (.mk b1 g 15 ByteArray.empty 0 [.mk b2 v2 18 a 0 []]) st ins=0:=λb1 g b2 v2 a st ins=>by simp[mK,ov]
  unfold ov at h ⊢;rw[Y3 (by rw[Y];simp)]at h ⊢;have s1:Zi (.mk b v 1 Cw 0 (.mk b1 g 15 ByteArray.empty 0 [.mk b2 v2 18 Vf 0 []]::m))=true:=by simp[Zi,ATree.text,ATree.kind,Zg]
  rw[s1]at h;exact Z8z (st':=_) (ins':=_) (λx _ hx=>Zk4 x.many x (Y0 _) (λ_=>rfl) id hx) h
def Zim(a:kB)(k:Nat):IsText (m' (Ey a) k) a:=by
 refine⟨?_,?_⟩;·rw[Zb8];rfl
 .refine⟨m' (.mk 18 a 0 []) (k+1),?_,?_,?_⟩;·rw[Za7];simp[Ey,Tree.kids,wD]
  .rw[Zb8];rfl
  .rw[Ze7];rfl
def Ztl{g u:ATree}{m:List Tree}(ha:g.tree=.mk 1 Cw 0 (Ey Vf::m))(hb:u.tree=.mk 1 ByteArray.empty 0 (Ey TZ::m))(I:(g.subs.map ATree.b).Nodup)(J:(u.subs.map ATree.b).Nodup)
 (hc:∀x∈g.subs,TW x=false)(h:(mI (g.nt (oi g))).code=1):mI (u.nt (oi u))=mI (g.nt (oi g)):=by
 have F:=Zcs (oi g) g hc;rw[Zme I]at h F ⊢;rw[Zme J,hb];rw[ha]at h F ⊢;have p:(m' (.mk 1 Cw 0 (Ey Vf::m)) 0).kids=m' (Ey Vf) 1::wD m 3:=QZ
 have y:(m' (.mk 1 ByteArray.empty 0 (Ey TZ::m)) 0).kids=m' (Ey TZ) 1::wD m 3:=QZ
 refine Zen p y (Zim _ _) (Zim _ _) ?_ ?_ ?_ ?_ ?_ h
 .unfold NT.vars;rw[p,y];simp[Ey,m',wD,V',YM]
 .unfold NT.lets;rw[p,y];simp[Ey,m',wD,NT.kind]
 .unfold NT.funcs;rw[p,y];simp[Ey,m',wD,NT.kind]
 .unfold NT.strict;rw[Ze7,Zb8];simp[Tree.text,Tree.kind,Zg]
 .have:=F.kids;rw[p]at this;simp only[TY]at this;exact this.2
def Ts(s:Bool)(y:ATree):Bool×Bool:=(true,s||TW y)
mutual
theorem Zii:∀(a:ATree) (s:Bool),sp Ts a s=(s||a.subs.any TW)
 | .mk b v k t n g,s=>by
   rw[Z8o];simp only[Ts,if_true,ATree.kids];rw[Zeu g];simp only[ATree.subs,List.any_cons,Bool.or_assoc]
theorem Zeu:∀(l:List ATree) (s:Bool),pV Ts l s=(s||(lw l).any TW)
 | [],s=>by simp[pV,lw]
 |a::l,s=>by
   simp only[pV,lw,List.any_append];rw[Zeu l,Zii a,Bool.or_assoc]
end
structure TInv(w0:kV)(c:Nat)(s:Bool)(w:kV):Prop where
 cell:w.heap[c]?=some (.cells #[.bool s] 4 (0,0))
 fr:RFr w0 w c
def TInv.set{w0 w:kV}{c:Nat}{s s':Bool}(h:TInv w0 c s w):TInv w0 c s' (w.setCell ⟨c,0,none⟩ (.bool s')):=
 ⟨Zj (o:=0) _ h.cell,h.fr.trans (RFr.of_set 0 _)⟩
def Zrt(w:kV)(c b:Nat)(s:Bool)(g:Int)(tx:kB)(c0:vC w c 0 (.bool s))(O:w.frozen? ⟨c,0,none⟩=false)
 (U:vC w b 0 (vI g))(X:vC w b 1 (.string tx)) :
 kC 12 #[vP b,vP c] w λe w'=>e=.returned (.bool true)/\w'=w.setCell ⟨c,0,none⟩ (.bool (s||(g==12||g==23&&Zg tx sW||g==36&&Zg tx sW))):=by
 obtain⟨q,hq⟩:=zX ((s||(g==12||g==23&&Zg tx sW||g==36&&Zg tx sW)))
 rw[<-hq];obtain⟨ev,p⟩:=zX (decide (tx=sW))
 have Y:(tx.toList== [101,118,97,108])=ev:=by
  rw[p];rw[show([101,118,97,108]:List UInt8)=sW.toList by simp[ByteArray.toList_eq,sW]];by_cases e:tx=sW;·rw[e];simp
  .rw[decide_eq_false e];simpa using λh=>e (Z4b h)
 have m:q=(s||(g==12||g==23&&ev||g==36&&ev)):=by rw[hq,p];rfl
 clear hq p;cases s;case' true=>obtain rfl:q=true:=by simpa using m
 case' false=>
  by_cases u:g=12;case' pos=>
   subst u;obtain rfl:q=true:=by simpa using m
  case' neg=>
   have G:(g==12)=false:=by simp[u]
   by_cases y:g=23;case' pos=>
    subst y;cases ev;case' true=>obtain rfl:q=true:=by simpa using m
    case' false=>obtain rfl:q=false:=by simpa using m
   case' neg=>
    have I:(g==23)=false:=by simp[y]
    by_cases F:g=36;case' pos=>
     subst F;cases ev;case' true=>obtain rfl:q=true:=by simpa using m
     case' false=>obtain rfl:q=false:=by simpa using m
    case' neg=>
     have J:(g==36)=false:=by simp[F]
     obtain rfl:q=false:=by simpa[G,I,J]using m
 all_goals focus
  clear m;go_enter func12,ntmps12
  go_wp2;go_ret;exact⟨rfl,rfl⟩
def Ztw(w0:kV)(c B:Nat)(y:ATree)(s:Bool)(w:kV)(hI:TInv w0 c s w)(g:TreeAt w B y) :
 kC 12 #[y.ptr,vP c] w λe w'=>e=.returned (.bool (Ts s y).1)/\TInv w0 c (Ts s y).2 w':=
 (Zrt w c y.b s y.kind y.text QG (by simp[World.frozen?,hI.cell]) g.c0 g.c1).mono λe w' ⟨h1,m⟩=>⟨h1,by rw[m];exact hI.set⟩
def Zj3(w:kV)(B:Nat)(a:ATree)(p:TreeAt w B a) :
 kC 6 #[a.ptr] w λe w'=>e=.returned (.bool (a.subs.any TW))/\kW w w':=by
 obtain⟨w1,dD⟩:=zX (w.alloc (.cells #[.bool false] 4))
 have g:kW w w1:=Ql
 have h1:w1.heap[w.heap.size]?=some (.cells #[.bool false] 4 (0,0)):=by rw[dD];exact(Go.MapKept.heap_alloc w _).1
 have bel:∀{s:Bool} {W:kV},TInv w1 w.heap.size s W->kW w W:=λh=>
  ⟨h.fr.os.trans g.os,h.fr.tape.trans g.tape,h.fr.output.trans g.output,Y4 g.size h.fr.size,λk hk=>(h.fr.block k (Y7 hk g.size) Px).trans (g.block k hk)⟩
 have m:=lh (Zwa ⟨w.heap.size,0,none⟩ (TInv w1 w.heap.size) Ts B a.many a (Y0 _) (λs W h=>p.bel (bel h)) false
  (λy s' F W h=>Ztw w1 w.heap.size B y s' W h (Zag (p.bel (bel h)) F.sub)) w1 ⟨h1,RFr.refl _ _⟩)
 rw[Zii]at m;simp only[Bool.false_or]at m;have u:=lh (λ(W:kV) (h:TInv w1 w.heap.size (a.subs.any TW) W)=>bel h);have I:=lh dD;obtain⟨s,hs⟩:=zX (a.subs.any TW)
 rw[<-hs]at m u ⊢;unfold ATree.ptr at m ⊢;clear dD g h1 bel p hs;go_enter func6,ntmps6
 go_wp2_with fail
 rw[<-I.o];refine m.o.mono ?_;rintro e w2⟨rfl,hI⟩;have O:w2.cell? ⟨w.heap.size,0,none⟩=some (.bool s):=QG
 have J:=lh (u.o w2 hI);clear hI m u;go_wp2;go_ret;exact⟨rfl,J.o⟩
def Zea(w:kV)(I J:Nat)(F v2:Value)(l:List kB)(h1:Zz w I F l)(m:Zz w J v2 l) :
 kC 10 #[F,v2] w λe w'=>e=.returned (.bool true)/\kW w w':=by
 obtain⟨p,cp,rfl,O,vq⟩:=h1.parts;obtain⟨q,cq,rfl,U,Ps⟩:=m.parts;obtain⟨n,hn⟩:=zX l.length
 have u:=lh h1;have y:=lh m;rw[<-hn]at O U u y ⊢;have HN:=lh hn;have bF:((n:Int) !=(n:Int))=false:=PE
 clear h1 m hn;go_enter func10,ntmps10
 go_wp2_with fail
 go_loopw [5] (λi wr=>∃k:Nat,k<=n/\i=(vI k)/\Hid (kW w wr)) (λi _=>n-(intOf i).toNat)
 case atStart=>exact⟨0,Yh _,rfl,lh (Y2 _ _)⟩
 case round=>
  obtain⟨k,hk,rfl,HB⟩:=hrel;by_cases bX:k<n
  .obtain⟨x,hx⟩:∃x,l[k]? =some x:=⟨_,Y6 PU⟩
   obtain⟨X,hp⟩:∃g,p=some ⟨g,0,none⟩:=by
    rcases u.o.form with⟨_,m⟩|⟨g,cap,h1,_⟩;·rw[m]at hx;simp at hx
    .exact V2
   subst hp;obtain⟨Y,hq⟩:∃g,q=some ⟨g,0,none⟩:=by
    rcases y.o.form with⟨_,m⟩|⟨g,cap,h1,_⟩;·rw[m]at hx;simp at hx
    .exact V2
   subst hq;have Z:=(u.o.bel HB.o).cells rfl hx;have cy:=(y.o.bel HB.o).cells rfl hx;have hb:(x.toList !=x.toList)=false:=PE
   clear hx;go_wp2_with fail
   refine Z7 [0,2,4,6,8,10,12,14] [8] (λW=>W.cell? ⟨X,k,none⟩=some (.string x)/\W.cell? ⟨Y,k,none⟩=some (.string x)) ⟨Z,cy⟩ λ_=>?_;refine dU ?_
   iterate 8
    refine fa ?_
   refine Z0 ?_;go_wp2;exact XV
  .have aR:k=n:=by omega
   subst aR;go_wp2;go_ret;exact⟨rfl,HB.o⟩
theorem Zoe:∀(l:List (Int×Int)) (k:Nat) (p:Int×Int),l[k]?=some p->(Znv l)[2*k]?=some (vI p.1)/\(Znv l)[2*k+1]?=some (vI p.2)
 | [],k,p,h=>by simp at h
 |q::l,0,p,h=>by
   simp only[List.getElem?_cons_zero,Option.some.injEq]at h;subst h;exact⟨rfl,rfl⟩
 |q::l,k+1,p,h=>by
   rw[List.getElem?_cons_succ]at h;have:=Zoe l k p h;have g:2*(k+1)=2*k+1+1:=Px
   rw[g];exact this
def Z82{w:kV}{base:Nat}{e:TypeId}{m:Nat}{v:Value}{n:Nat}{xs:List Value}(h:w.ownsRow base e m v n xs){g:Nat}(p:v.ownBlock=some g){i:Nat}{x:Value}(hi:xs[i]?=some x) :
 w.cell? ⟨g,i,none⟩=some x:=by
 have:=h.cells p i x hi;rwa[show((⟨g,0,none⟩:Addr).add i)=⟨g,i,none⟩ by unfold Addr.add;split<;>simp_all]at this
def Zep{w:kV}{B m:Nat}{T:TypeId}{v:Value}{n:Nat}{xs:List Value}(h:w.ownsRow B T m v n xs):∃p u,v=.slice p n u/\n<=u/\u<=maxLen/\(0<n->∃g,p=some ⟨g,0,none⟩):=by
 rcases Z4 h with⟨h1,y⟩|⟨g,cap,h1,y,F,_⟩;·exact⟨none,0,by rw[h1,y],by omega,by unfold maxLen;omega,λhx=>by omega⟩
 .exact⟨_,_,h1,y,F,λ_=>⟨g,rfl⟩⟩
theorem X7.bel{w w':kV}{B:Nat}{v:Value}{r:Res}(h:X7 w B v r)(g:kW w w'):X7 w' B v r:=by
 obtain⟨p,u,c1,y,F,c2,h1,G,m⟩:=h;exact⟨p,u,c1,y,F,c2,h1,G.bel g,Z3 m λk hk=>g.block k (Y9 m k hk).2⟩
def Zve(w:kV)(g m:Int):(Op.equalIn 10000 77 (.agg #[vI g,vI m]) (.agg #[vI g,vI m])).run Tryz.prog w=.ok true w:=by
 have p:=Yk;have u:∀w (x:Int),(Op.equalIn 9999 3 (vI x) (vI x)).run Tryz.prog w=.ok (x==x) w:=λw x=>run_equalIn_int w 9998 _ _ _ _ _ p;have hs:∀w,(sizeOf 3).run Tryz.prog w=.ok 1 w:=λw=>by kernel_rfl
 have y:∀w,(part 3 #[vI g,vI m] 0).run Tryz.prog w=.ok (vI g) w:=λw=>by simp[part,isAgg,run_underlying p]
 have F:∀w,(part 3 #[vI g,vI m] 1).run Tryz.prog w=.ok (vI m) w:=λw=>by simp[part,isAgg,run_underlying p]
 rw[show(10000:Nat)=9999+1 from rfl,Op.equalIn.eq_def];simp[run_underlying underlying77,hs,y,F,u,Std.Legacy.Range.forIn_eq_forIn_range',Std.Legacy.Range.size,List.range']
def Zs6(w:kV)(Z B2:Nat)(v1 v2:Value)(r:Res)(h1:X7 w Z v1 r)(h2:X7 w B2 v2 r) :
 kC 8 #[v1,v2] w λe w'=>e=.returned (.bool true)/\kW w w':=by
 obtain⟨p1,n1,c1,X,n2,c2,rfl,kj,g⟩:=h1;obtain⟨q1,m1,d1,Y,m2,F,rfl,nC,m⟩:=h2;obtain⟨log,code,val,steps,seen⟩:=r;simp only at kj nC g m ⊢;obtain⟨_,_,e1,u,g2,g3⟩:=Zep g;cases e1;obtain⟨_,_,e2,g4,g5,g6⟩:=Zep m;cases e2;obtain⟨n,hn⟩:=zX seen.length
 rw[<-hn]at g m u g3 g4 g6 ⊢;obtain⟨HK,dp,bW,HN,hb⟩:=gp (λ(W:kV) (hB:kW w W)=>Zea W Z B2 _ _ log (kj.bel hB) (nC.bel hB)) g m hn (show∀a b:Value,kW w ((w.alloc (.cells #[.slice p1 n1 c1,vI code,.string val,vI steps,.slice X n c2] 30)).alloc (.cells #[.slice q1 m1 d1,vI code,.string val,vI steps,.slice Y n F] 30))from λ_ _=>((Y2 _ _).alloc (Y0 _) _).alloc PE _)
 obtain⟨z,y⟩:=zX (((w.alloc (.cells #[.slice p1 n1 c1,vI code,.string val,vI steps,.slice X n c2] 30)).alloc (.cells #[.slice q1 m1 d1,vI code,.string val,vI steps,.slice Y n F] 30)))
 have jF:=lh (show kW w z by rw[y];exact hb.o (.bool true) (.bool true));have GZ:=lh (show∀W,kW z W->vC W w.heap.size 4 (.slice X n c2)/\vC W (w.heap.size+1) 4 (.slice Y n F)from λW hB=>by
  have l1:w.heap.size+1<z.heap.size:=by rw[y];simp
  refine⟨(hB.cell (p:=⟨w.heap.size,4,none⟩) (show w.heap.size<z.heap.size by omega)).trans ?_,(hB.cell (p:=⟨w.heap.size+1,4,none⟩) l1).trans ?_⟩;·rw[y];go_simp
  .rw[y];go_simp)
 have HZ:=lh y;clear y;have eT:n<=9223372036854775807:=by unfold maxLen at *;omega
 have jA:(code !=code)=false:=PE
 have lC:(steps !=steps)=false:=PE
 have Ix:(val.toList !=val.toList)=false:=PE
 have bF:((n:Int) !=(n:Int))=false:=PE
 have G3:=lh g3;have G6:=lh g6;clear kj nC g m hn u g2 g3 g4 g5 g6;go_enter func8,ntmps8
 go_wp2_with fail
 rw[<-HZ.o];refine(HK.o z jF.o).mono ?_;rintro e w1⟨rfl,I⟩;obtain⟨k1,k2⟩:=GZ.o w1 I;have G7:=lh (show∀W,kW w1 W->vC W w.heap.size 4 (.slice X n c2)/\vC W (w.heap.size+1) 4 (.slice Y n F)from λW h=>GZ.o W (I.trans (h.mono I.size)));have J:=zT jF I;clear I HK HZ GZ;go_wp2_with fail
 clear k1 k2;go_loopw [5] (λi wr=>∃k:Nat,k<=n/\i=(vI k)/\Hid (kW w1 wr)) (λi _=>n-(intOf i).toNat)
 case atStart=>exact⟨0,Yh _,rfl,lh (Y2 _ _)⟩
 case round=>
  obtain⟨k,hk,rfl,HB⟩:=hrel;obtain⟨k1,k2⟩:=G7.o wr HB.o;by_cases bX:k<n
  .obtain⟨x,hx⟩:∃x,seen[k]? =some x:=⟨_,Y6 PU⟩
   obtain⟨y1,y2⟩:=Zoe seen k x hx;obtain⟨g0,rfl⟩:=G3.o Px;obtain⟨u,rfl⟩:=G6.o Px;have cB:=J.o.trans (HB.o.mono J.o.size);have g:wr.ownsRow Z 77 2 _ n (Znv seen):=Z3 dp.o λk hk=>cB.block k (Y9 dp.o k hk).2;have m:wr.ownsRow B2 77 2 _ n (Znv seen):=Z3 bW.o λk hk=>cB.block k (Y9 bW.o k hk).2;have a1:=Z82 g rfl y1;have a2:=Z82 g rfl y2;have a3:=Z82 m rfl y1;have a4:=Z82 m rfl y2;have Pt:=J;rw[Nat.mul_comm 2 k]at a1 a2 a3 a4;obtain⟨O,U⟩:=x
   simp only at a1 a2 a3 a4;have e1:(O !=O)=false:=PE
   have e2:(U !=U)=false:=PE
   clear hx y1 y2 g m cB;go_wp2_with fail
   refine ow [(true,0),(true,1),(true,2),(true,3),(true,4),(true,5),(true,6),(true,7),(true,8),(true,9)] [10] (λW=>W.cell? ⟨g0,k*2,none⟩=some (vI O)/\W.cell? ⟨g0,k*2+1,none⟩=some (vI U)/\W.cell? ⟨u,k*2,none⟩=some (vI O)/\W.cell? ⟨u,k*2+1,none⟩=some (vI U)/\vC W w.heap.size 4 (.slice (some ⟨g0,0,none⟩) n c2)/\vC W (w.heap.size+1) 4 (.slice (some ⟨u,0,none⟩) n F)) ⟨a1,a2,a3,a4,k1,k2⟩ (λbq=>?_);refine oK ?_;refine Z0 ?_;have Pu:=Zve wr.drew O U
   go_wp2_with fail
   exact XV
  .have aR:k=n:=by omega
   subst aR;go_wp2;go_ret;exact⟨rfl,J.o.trans (HB.o.mono J.o.size)⟩
def Zz.one{w:kV}{B:Nat}(g:B<=w.heap.size)(s:kB):Zz (w.alloc (.cells #[.string s] 9)) B (.slice (some ⟨w.heap.size,0,none⟩) 1 1) [s]:=by
 unfold Zz;refine⟨rfl,.inr ⟨w.heap.size,1,_,rfl,g,(Go.MapKept.heap_alloc w _).1,by simp,by unfold maxLen;omega,by simp,?_⟩⟩;simp
def Zv0{text:kB}{t:Tree}(hr:Zt text=.ok t){a:ATree}(h:a.tree=t):Wf .sl a.tree.kids/\a.many<=1500/\WA a:=by
 obtain⟨g,m⟩:=Zax hr;have p:Wi text=some t.bare:=by unfold Wi;rw[hr]
 obtain⟨hst,-,-⟩:=Zb3 p;refine⟨?_,by rw[<-Vi,h];exact m,Zva a (by rw[h];exact g)⟩;unfold NT.stm at hst;rw[<-K9,Zaf]at hst;rw[h];exact hst
def Zgo{text:kB}{t:Tree}(hr:Zt text=.ok t){w w':kV}{B:Nat}{a:ATree}(g:Got w B w' a t){W:kV}(m:kW w' W){eb:Addr}(h:RunW W eb) :
 kC 7 #[a.ptr] W (Z98 W a):=by
 obtain⟨h1,p,u⟩:=Zv0 hr g.tree;exact Zw0 W B a eb h (g.at'.bel m) u g.apart h1 p
def Zsz(w:kV)(eb:Addr)(h:RunW w eb):kC 5 #[] w λe w'=>e=.returned (.bool true)/\kW w w':=by
 have u:=Z7k w Zho h.wd h.lv;rw[Zdw]at u;unfold Zho at u;have Y:=lh u;have Z:=lh h;clear u h;go_enter func5,ntmps5
 go_wp2_with fail
 refine Y.o.mono ?_;rintro e w1⟨hb,a,rfl,I⟩;have hk:(Zg8.kind==1)=true:=rfl;rw[hk];have p:=Zgo Zdw I (Y2 _ _) (Z.o.bel hb);obtain⟨d1,g,m⟩:=Zr3 I.tree;unfold ATree.ptr Z98 at p;simp only[if_pos d1]at p;obtain⟨r,KR⟩:=zX (mI (a.nt (oi a)))
 rw[<-KR]at p g m;obtain⟨KS,J,HD⟩:=ds p hb (Yu g m);clear hb I hk p d1 g m KR Y;go_wp2_with fail
 refine KS.o.mono ?_;rintro e w2⟨y,rfl,v,rfl,hv,O⟩;obtain⟨p1,n1,c1,p2,n2,c2,rfl,hl,-⟩:=hv;obtain⟨log,code,val,steps,seen⟩:=r;obtain⟨g,m⟩:=HD.o;simp only at g m hl;subst g;subst m;obtain⟨z,F⟩:=zX ((w2.alloc (.cells #[.slice p1 n1 c1,vI 1,.string val,vI steps,.slice p2 n2 c2] 30)).alloc (.cells #[.string ⟨#[54]⟩] 9))
 have U:kW w2 z:=by rw[F];exact((Y2 _ _).alloc (Y0 _) _).alloc PE _
 have bO:=Zea z _ 0 _ (.slice (some ⟨w2.heap.size+1,0,none⟩) 1 1) [⟨#[54]⟩] (hl.bel U) (by
  rw[F];have:=Zz.one (w:=w2.alloc (.cells #[.slice p1 n1 c1,vI 1,.string val,vI steps,.slice p2 n2 c2] 30)) (Yh _) ⟨#[54]⟩;simpa using this)
 obtain⟨lp,HZ,aN⟩:=ds bO F (J.o.trans ((O.trans (U.mono O.size)).mono J.o.size));clear hl O F U bO KS HD J Z;go_wp2_with fail
 rw[<-HZ.o];refine lp.o.mono ?_;rintro e w3⟨rfl,bj⟩;have X:=zT aN bj;clear bj lp aN;go_wp2;go_ret;exact⟨rfl,X.o⟩
theorem Ep{w a b:kV}(h:kW w a)(g:kW a b):kW w b:=h.trans (g.mono h.size)
def Ack{p:Nat}{v0 g v2 v3 v4:Value}{w W:kV}(h:w.heap[p]?=some (.cells #[v0,g,v2,v3,v4] 30 (0,0)))(m:kW w W) :
 vC W p 0 v0/\vC W p 1 g/\vC W p 2 v2/\vC W p 3 v3/\W.cell? ⟨p,4,none⟩=some v4:=by
 have hb:=(m.block p (Y1.1 h).1).trans h;refine⟨?_,?_,?_,?_,?_⟩<;>simp[vC,World.cell?,hb]
theorem Zgs(x:kB):(⟨#[39,117,115,101,32,115,116,114,105,99,116,39,59,32]⟩:kB)++x=TR++⟨#[32]⟩++x:=rfl
theorem Zgd(x:kB):(⟨#[39,117,115,101,32,115,108,111,112,112,121,39,59,32]⟩:kB)++x=KZ++⟨#[32]⟩++x:=rfl
def Zfb{W:kV}{a:ATree}{e:Ending}{w':kV}(h:Z98 W a e w'):∃g m c1 code val steps p u c2 G,e=.returned (.tuple #[.agg #[.slice g m c1,vI code,.string val,vI steps,.slice p u c2],G])/\kW W w'/\
 (G = .nilIface ∧ A0 a false false = 0 ∧ code = (mI (a.nt (oi a))).code ∧ X7 w' W.heap.size (.agg #[.slice g m c1, vI code, .string val, vI steps, .slice p u c2]) (mI (a.nt (oi a))) ∨
  ∃c,G=.iface 44 (vI c)/\¬A0 a false false=0):=by
 obtain⟨y,rfl,F⟩:=h;by_cases hc:A0 a false false=0
 .rw[Y5 hc]at F;obtain⟨v,rfl,I,hb⟩:=F;have J:=I;obtain⟨g,m,c1,p,u,c2,rfl,-,-⟩:=I;exact⟨g,m,c1,_,_,_,p,u,c2,_,rfl,hb,.inl ⟨rfl,hc,rfl,J⟩⟩
 .rw[Y3 hc]at F;obtain⟨rfl,hb⟩:=F;exact⟨_,_,_,_,_,_,_,_,_,_,rfl,hb,.inr ⟨_,Y3 hc,hc⟩⟩
def Zzt(w:kV)(text:kB)(h:2000<text.size):kC 3 #[.string text] w λe w'=>e=.returned (.bool true)/\kW w w':=by
 have g:2000<(text.size:Int):=Px
 have hd:decide (2000<(text.size:Int))=true:=by simpa using g
 go_enter func3,ntmps3
 go_wp2;go_ret;exact⟨rfl,Y2 _ _⟩
def Zni(w:kV)(text:kB)(m u:Bool)(hk:(m&&u)=false)(hs:text.size<=2000)
 (I:Hid (kC 4 #[.string (TR++⟨#[32]⟩++text)] w λe w'=>(∃p,e=.returned (.tuple #[p,.bool m]))/\kW w w'))
 (J:Hid (∀w1,kW w w1->kC 4 #[.string (KZ++⟨#[32]⟩++text)] w1 λe w'=>(∃p,e=.returned (.tuple #[p,.bool u]))/\kW w1 w'))
 (O:Hid (∀w1,kW w w1->kC 5 #[] w1 λe w'=>e=.returned (.bool true)/\kW w1 w')) :
 kC 3 #[.string text] w λe w'=>e=.returned (.bool true)/\kW w w':=by
 refine Xx ?_;intro rO hd Dr q1 dp bW;cases m<;>cases u
 rotate_right
 .exact absurd hk Py
 all_goals focus
  clear hk hs;go_enter func3,ntmps3
  go_wp2_with fail
  rw[dp.o];refine I.o.mono ?_;rintro e w1⟨⟨p,rfl⟩,hb⟩;have y:=lh hb;clear hb I;go_wp2_with fail
  rw[bW.o];refine(J.o w1 y.o).mono ?_;rintro e w2⟨⟨q,rfl⟩,hb⟩;have F:=lh (Ep y.o hb);clear hb y J;go_wp2_with fail
  refine(O.o w2 F.o).mono ?_;rintro e U⟨rfl,hb⟩;have g:=lh (Ep F.o hb);clear hb F;go_wp2_with fail
  refine(O.o U g.o).mono ?_;rintro e Y⟨rfl,hb⟩;have X:=lh (Ep g.o hb);clear hb g;go_wp2;go_ret;exact⟨rfl,X.o⟩
def Ab3(w:kV)(text:kB)(ta tb:Tree)(eb:Addr)(h:RunW w eb)(ha:Zt (TR++⟨#[32]⟩++text)=.ok ta)(hb:Zt (KZ++⟨#[32]⟩++text)=.ok tb)(hs:text.size<=2000)
 (jk:Hid (∀w1,kW w w1->kC 5 #[] w1 λe w'=>e=.returned (.bool true)/\kW w1 w'))
 (g:Hid (kC 4 #[.string (TR++⟨#[32]⟩++text)] w (Z9s w (.ok ta))))
 (m:Hid (∀w1,kW w w1->kC 4 #[.string (KZ++⟨#[32]⟩++text)] w1 (Z9s w1 (.ok tb)))) :
 kC 3 #[.string text] w λe w'=>e=.returned (.bool true)/\kW w w':=by
 obtain⟨ks,ea,Hb⟩:=Zmw ha hb;have zb:(ta.kind==1)=true:=by rw[ea];rfl
 have lz:(tb.kind==1)=true:=by rw[Hb];rfl
 refine Xx ?_;intro rO hd Dr q1 dp bW;obtain⟨HW,KT,rC,Hc,ox,zc,Ol⟩:=gw h ha hb ea Hb zb lz;clear hs h ha hb ea Hb zb lz;go_enter func3,ntmps3
 go_wp2_with fail
 rw[dp.o];refine g.o.mono ?_;rintro e w1⟨hb,x,rfl,p⟩;rw[zc.o];obtain⟨HB,O,wQ⟩:=ds hb p (λW (U:kW w1 W)=>Zgo KT.o p U (HW.o.bel (Ep hb U)));unfold ATree.ptr at wQ;clear hb p g;go_wp2_with fail
 rw[bW.o];refine(m.o w1 HB.o).mono ?_;rintro e w2⟨hb,z,rfl,p⟩;rw[Ol.o];obtain⟨aN,BH,Dh⟩:=ds (Ep HB.o hb) hb p;have wR:=lh (λW (U:kW w2 W)=>Zgo rC.o p U (HW.o.bel (Ep aN.o U)));unfold ATree.ptr at wR;clear hb p m;go_wp2_with fail
 refine(jk.o w2 aN.o).mono ?_;rintro e w3⟨rfl,hb⟩;obtain⟨X,wS,lQ⟩:=ds (Ep aN.o hb) (Ep BH.o hb) hb;have jJ:=Zj3 w3 _ x (O.o.at'.bel wS.o);unfold ATree.ptr at jJ;obtain⟨tr,wU⟩:=zX (x.subs.any TW)
 rw[<-wU]at jJ;have jD:=lh jJ;have BJ:=lh wU;clear hb jJ wU HB aN BH;go_wp2_with fail
 refine jD.o.mono ?_;rintro e w4⟨rfl,hb⟩;obtain⟨Y,BK,BL⟩:=ds (Ep X.o hb) (Ep wS.o hb) (Ep lQ.o hb);clear hb jD X wS lQ;cases tr with
 |true=>
   go_wp2_with fail
   refine(jk.o w4 Y.o).mono ?_;rintro e I⟨rfl,hb⟩;have gI:=lh (Ep Y.o hb);clear hb Y;go_wp2;go_ret;exact⟨rfl,gI.o⟩
 |false=>
 obtain⟨ra,jp⟩:=zX (mI (x.nt (oi x)))
 obtain⟨rb,gO⟩:=zX (mI (z.nt (oi z)))
 have eo:∀y∈x.subs,TW y=false:=λy u=>by
  have:=BJ.o.symm;rw[List.any_eq_false]at this;simpa using this y u
 have mW:A0 x false false=0->A0 z false false=0:=Zoc (by rw[O.o.tree];exact Hc.o) (by rw[Dh.o.tree];exact ox.o);have fF:ra.code=1->rb=ra:=λe=>by
  rw[jp]at e;rw[jp,gO];exact Ztl (by rw[O.o.tree];exact Hc.o) (by rw[Dh.o.tree];exact ox.o) O.o.apart Dh.o.apart eo e
 obtain⟨g,m,uu,xX⟩:=en jp gO mW fF;clear jp gO eo mW fF BJ jk;go_wp2_with fail
 refine(wQ.o w4 BK.o).mono ?_;rintro e I u;obtain⟨p1,n1,c1,code,val,steps,p2,n2,c2,er,rfl,iC,u⟩:=Zfb u;rw[<-g.o]at u;obtain⟨w6,lE⟩:=zX (I.alloc (.cells #[.slice p1 n1 c1,vI code,.string val,vI steps,.slice p2 n2 c2] 30))
 have ic:w6.heap[I.heap.size]?=some (.cells #[.slice p1 n1 c1,vI code,.string val,vI steps,.slice p2 n2 c2] 30 (0,0)):=by rw[lE];exact Yq I _
 have Di:kW I w6:=by rw[lE];exact Z1 _ _
 obtain⟨kH,s6,HY,Dj,Z,tI⟩:=gq (Ep Y.o (Ep iC Di)) (wR.o w6 (Ep BL.o (Ep iC Di))) u Di ic lE;obtain⟨pa,Hd⟩:=zX I.heap.size
 rw[<-Hd]at Z;have s7:=lh Hd;clear u iC ic Di lE Hd Y BK BL wQ wR O Dh KT rC Hc ox HW;go_wp2_with fail
 rw[<-tI.o,<-s7.o];refine s6.o.mono ?_;rintro e w7 hz;obtain⟨q1,m1,d1,qM,wV,na,q2,m2,d2,BM,rfl,J,hz⟩:=Zfb hz;rw[<-m.o]at hz;have F:=Z1 w7 (.cells #[.slice q1 m1 d1,vI qM,.string wV,vI na,.slice q2 m2 d2] 30);have o9:=lh (Ep kH.o (Ep J F));obtain⟨e0,e1,e2,e3,e4⟩:=Ack Z.o (Ep J F);obtain⟨f0,f1,f2,f3,f4⟩:=Ack (Yq w7 (.cells #[.slice q1 m1 d1,vI qM,.string wV,vI na,.slice q2 m2 d2] 30)) (Y2 _ _)
 rcases HY.o with⟨rfl,hc,au,He⟩|⟨c,rfl,-⟩
 .by_cases h1:code=1
  .obtain⟨rfl,Af⟩:BM=.nilIface/\X7 w7 w6.heap.size (.agg #[.slice q1 m1 d1,vI qM,.string wV,vI na,.slice q2 m2 d2]) ra:=by
    rcases hz with⟨h2,-,-,h3⟩|⟨c,-,h2⟩;·rw[xX.o (au▸h1)]at h3;exact⟨h2,h3⟩
    .exact absurd (uu.o hc) h2
   have jy:=lh (Zs6 _ _ _ _ _ ra ((((He.bel Dj.o).bel J).bel F)) (Af.bel F));subst h1;clear hc au He Af hz J F xX uu g m s6 HY Dj tI s7 Z kH;go_wp2_with fail
   refine jy.o.mono ?_;rintro e w9⟨rfl,fI⟩;have eH:=lh (Ep o9.o fI);clear fI o9 jy;go_wp2;go_ret;exact⟨rfl,eH.o⟩
  .have aG:(code !=1)=true:=by simp[h1]
   have iV:(code==1)=false:=Sc
   have Hq:BM=.nilIface\/∃c,BM=.iface 44 (vI c):=by
    exact Zya
   clear h1 hc au He hz J F xX uu g m s6 HY Dj tI s7 Z kH;exact WU
 .have Hq:BM=.nilIface\/∃c,BM=.iface 44 (vI c):=by
   exact Zya
  clear hz J F xX uu g m s6 HY Dj tI s7 Z kH;exact WU
def Zb7(w:kV)(text:kB)(eb:Addr)(h:RunW w eb):kC 3 #[.string text] w λe w'=>e=.returned (.bool true)/\kW w w':=by
 by_cases hs:2000<text.size;·exact Zzt w text hs
 have u:text.size<=2000:=Px
 have p:=Z7k w (TR++⟨#[32]⟩++text) h.wd h.lv;have g:=λw1 (g:kW w w1)=>Z7k w1 (KZ++⟨#[32]⟩++text) (h.bel g).wd (h.bel g).lv;have F:=lh (λw1 (g:kW w w1)=>Zsz w1 eb (h.bel g));cases ha:Zt (TR++⟨#[32]⟩++text)with
 |error x=>
   rw[ha]at p;cases hb:Zt (KZ++⟨#[32]⟩++text)with
   |error y=>exact Zni w text false false rfl u (lh (p.mono λe w1 h1=>⟨⟨_,h1.2⟩,h1.1⟩)) (lh λw1 m=>(g w1 m).mono λe w' h1=>by rw[hb]at h1;exact⟨⟨_,h1.2⟩,h1.1⟩) F
   |ok tb=>exact Zni w text false (tb.kind==1) rfl u (lh (p.mono λe w1 h1=>⟨⟨_,h1.2⟩,h1.1⟩)) (lh λw1 m=>(g w1 m).mono λe w' h1=>by
    rw[hb]at h1;obtain⟨I,a,J,-⟩:=h1;exact⟨⟨_,J⟩,I⟩) F
 |ok O=>
   rw[ha]at p;cases hb:Zt (KZ++⟨#[32]⟩++text)with
   |error y=>exact Zni w text (O.kind==1) false PE u (lh (p.mono λe w1 h1=>by obtain⟨I,a,J,-⟩:=h1;exact⟨⟨_,J⟩,I⟩)) (lh λw1 m=>(g w1 m).mono λe w' h1=>by rw[hb]at h1;exact⟨⟨_,h1.2⟩,h1.1⟩) F
   |ok tb=>exact Ab3 w text O tb eb h ha hb u F (lh p) (lh λw1 m=>by have:=g w1 m;rw[hb]at this;exact this)
def Zbq{H:Type}{enc:TypeId×Value->H}{P:Program}{w:kV}{base:Nat}{u:Nat->Bool}{y:Bool}{fuel:Nat}{t e:TypeId}{n:Nat}{cs:List Value}{l:List (List UInt8)}{p:List MemPlace}
 (ht:P.underlying t=some (.array n e))(he:P.underlying e=some .string)(F:P.cellsOf e=1)(I:P.cellsOf t=n)
 (h:DataW.trod enc P w base u y fuel t cs=some (.agg (l.map λb=>.lit (.string b)),p)):cs=l.map λb=>Value.string ⟨b.toArray⟩:=by
 cases fuel with
 |zero=>simp[DataW.trod]at h
 |succ fuel=>
   simp only[DataW.trod,ht,F,I,Nat.mul_one]at h;split at h
   .rename_i hl;obtain⟨xs,hm,hx⟩:=Option.map_eq_some_iff.1 h;have m:xs.map (·.1)=l.map λb=>(DataW.lit (.string b):DataW H):=by
     have:=congrArg Prod.fst hx;simpa using this
    have U:xs.length=n:=by simpa using Lib.mapM_length hm
    have X:l.length=n:=by
     have:=congrArg List.length m;simp at this;omega
    apply List.ext_getElem?;intro i;by_cases hi:i<n
    .obtain⟨b,hb,hf⟩:=Lib.mapM_at hm i i (by simp[hi]);obtain⟨s,hc,rfl,_⟩:=DataW.trod_string he hf;have h1:cs[i]?=some (.string s):=by
      have:=congrArg (·[0]?) hc;simpa[List.getElem?_take,List.getElem?_drop]using this
     have g:(xs.map (·.1))[i]?=some (DataW.lit (.string s.data.toList):DataW H):=by simp[hb]
     rw[m]at g;simp only[List.getElem?_map,Option.map_eq_some_iff,DataW.lit.injEq,Lit.string.injEq]at g;obtain⟨z',J,O⟩:=g;simp only[h1,List.getElem?_map,J,Option.map_some,O]
    .rw[List.getElem?_eq_none Px,List.getElem?_eq_none PB]
   .cases h
def Zso{H:Type}{enc:TypeId×Value->H}{P:Program}{w:kV}{base:Nat}{g:Nat->Bool}{m:Bool}{fuel:Nat}{e:TypeId}{v:Value}{b:List UInt8}{q:List MemPlace}(he:P.underlying e=some .string)
 (h:DataW.trod enc P w base g m fuel e [v]=some (.lit (.string b),q)):v=.string ⟨b.toArray⟩:=by
 obtain⟨s,hc,hx,_⟩:=DataW.trod_string he h;simp only[List.cons.injEq,and_true]at hc;simp only[Prod.mk.injEq,DataW.lit.injEq,Lit.string.injEq]at hx;rw[hc,hx.1]
def Zdg{P:Program}{W:kV}{name:String}{d:DataW Unit}{y:List (String×DataW Unit)}{g:Nat}{t e:TypeId}{n:Nat}{l:List (List UInt8)}
 (m:P.globalNamed name=some g)(F:(P.globals[g]?).map (·.type)=some t)(ht:P.underlying t=some (.array n e))(he:P.underlying e=some .string)(G:P.cellsOf e=1)(I:P.cellsOf t=n)
 (hd:d=.agg (l.map λb=>.lit (.string b)))(h:laidMet P ((name,d)::y) W)(i:Nat)(b:List UInt8)(hi:l[i]?=some b):W.cell? ⟨g,i,none⟩=some (.string ⟨b.toArray⟩):=by
 obtain⟨ps,⟨X,t',cs,fuel,p,q,J,O,U,u,_,_⟩,_⟩:=h;obtain rfl:=Yc (m.symm.trans J);obtain rfl:=Yc (F.symm.trans O);rw[hd]at u;have hc:=Zbq ht he G I u;have:=World.var?_cell m U i;rw[this];have hx:cs=(l.map λb=>Value.string ⟨b.toArray⟩).toArray:=by rw[<-hc]
 rw[hx];simp[hi]
def Zw2{H:Type}{enc:TypeId×Value->H}{P:Program}{w:kV}{base:Nat}{g:Nat->Bool}{m:Bool}{fuel:Nat}{t e:TypeId}{n:Nat}{cs:List Value}{l:List (DataW H)}{p:List MemPlace}
 (ht:P.underlying t=some (.array n e))(F:P.cellsOf e=1)(G:P.cellsOf t=n)
 (h:DataW.trod enc P w base g m fuel t cs=some (.agg l,p))(i:Nat)(r:DataW H)(hi:l[i]?=some r) :
 ∃I q,DataW.trod enc P w base g m I e ((cs.drop i).take 1)=some (r,q):=by
 cases fuel with
 |zero=>simp[DataW.trod]at h
 |succ fuel=>
   simp only[DataW.trod,ht,F,G,Nat.mul_one]at h;split at h
   .rename_i hl;obtain⟨xs,hm,hx⟩:=Option.map_eq_some_iff.1 h;have u:xs.map (·.1)=l:=by
     have:=congrArg Prod.fst hx;simpa using this
    have O:xs.length=n:=by simpa using Lib.mapM_length hm
    have J:i<n:=by
     have h1:=(List.getElem?_eq_some_iff.1 hi).1;rw[<-u,Ym]at h1;omega
    obtain⟨b,hb,hf⟩:=Lib.mapM_at hm i i (by simp[J]);have y:(xs.map (·.1))[i]?=some b.1:=by simp[hb]
    rw[u,hi]at y;exact⟨fuel,b.2,by rw[Yc y];exact hf⟩
   .cases h
def Zbw{P:Program}{W:kV}{J name:String}{O d:DataW Unit}{U:List (String×DataW Unit)}{g:Nat}{t e f:TypeId}{n:Nat}{l:List (List (List UInt8))}
 (m:P.globalNamed name=some g)(X:(P.globals[g]?).map (·.type)=some t)(ht:P.underlying t=some (.array n e))(he:P.underlying e=some (.slice f))(hf:P.underlying f=some .string)
 (Y:P.cellsOf e=1)(Z:P.cellsOf f=1)(wY:P.cellsOf t=n)
 (hd:d=.agg (l.map λr=>.slice (r.map λb=>.lit (.string b)) []))(h:laidMet P ((J,O)::(name,d)::U) W)(i:Nat)(r:List (List UInt8))(hi:l[i]?=some r)(hr:0<r.length) :
 ∃b off cap,W.cell? ⟨g,i,none⟩=some (.slice (some ⟨b,off,none⟩) r.length cap)/\r.length<=cap/\∀j x,r[j]?=some x->W.cell? ⟨b,off+j,none⟩=some (.string ⟨x.toArray⟩):=by
 obtain⟨ps,⟨_,_,_,_,_,_,_,_,_,_,h2,_⟩,_⟩:=h;obtain⟨g',t',cs,fuel,p,q,eO,Hf,wZ,u,_,_⟩:=h2;obtain rfl:=Yc (m.symm.trans eO);obtain rfl:=Yc (X.symm.trans Hf);rw[hd]at u;obtain⟨uA,q',ae⟩:=Zw2 ht Y wY u i (.slice (r.map λb=>.lit (.string b)) []) (by rw[Yg,hi];rfl);obtain⟨a,cap,y,F,I⟩:=open_row he Z ae;rw[Ym]at y F;have bh:W.cell? ⟨g,i,none⟩=some (.slice (some a) r.length cap):=by
  rw[World.var?_cell m wZ i];have:=congrArg (·[0]?) y;simpa[List.getElem?_take,List.getElem?_drop]using this
 obtain⟨b,off,Hg⟩:=a;have BO:Hg=none:=by
  obtain⟨x,hx⟩:∃x,r[0]?=some x:=⟨r[0],Y6 hr⟩
  obtain⟨v,n,q,hc,_⟩:=I 0 _ Rq;simpa[Addr.add]using World.cell?_spot hc
 subst BO;refine⟨b,off,cap,bh,F,λj x hx=>?_⟩;obtain⟨v,n,q,hc,hr⟩:=I j _ Rq;rw[Zso hf hr]at hc;rwa[show((⟨b,off,none⟩:Addr).add j)=⟨b,off+j,none⟩ by unfold Addr.add;split<;>simp_all]at hc
