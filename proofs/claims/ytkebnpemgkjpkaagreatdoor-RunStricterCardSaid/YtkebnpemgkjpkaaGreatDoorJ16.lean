import Derived.Test.YtkebnpemgkjpkaaGreatDoorJ15
set_option maxRecDepth 100000
set_option maxHeartbeats 20000000
set_option linter.all false
namespace Go.Proofs.YtkebnpemgkjpkaaGreatDoor
open Go Go.RowKit Go.Proofs.Tryz Tryz
def Zgg(w:kV)(text:kB)(hm:3000<text.size) :
 kC 27 #[.string text] w λe w'=>e=.returned (.tuple #[.slice none 0 0,.iface 44 (vI 4)])/\w=w':=by
 have g:(3000:Int)<text.size:=Px
 go_enter func27,ntmps27
 go_wp2;go_ret2
 exact⟨rfl,rfl⟩
def Ztq(w':kV)(base:Nat)(x:Value)(c p:Int):Prop:=(p=-1/\x=.iface 44 (vI c))\/∃q:Nat,p=q/\Zt2 w' base x c q
def Z54(w:kV)(r:Except (Int×Int) Tree)(e:Ending)(w':kV):Prop:=
 kW w w'/\match r with
 | .ok t=>∃a,e=.returned (.tuple #[vP a.b,.nilIface])/\Got w w.heap.size w' a t
 | .error (c,p)=>∃x,e=.returned (.tuple #[.pointer none,x])/\Ztq w' w.heap.size x c p
def Sn(w:kV):kV:=(w.alloc (.cells #[.pointer none] 22)).alloc (.cells #[.nilIface] 32)
def Zaw(w:kV):(Sn w).heap[w.heap.size]?=some (.cells #[.pointer none] 22 (0,0))/\(Sn w).heap[w.heap.size+1]?=some (.cells #[.nilIface] 32 (0,0))/\(Sn w).heap.size=w.heap.size+2/\kW w (Sn w):=by
 have h1:kW w (w.alloc (.cells #[.pointer none] 22)):=(Y2 _ _).alloc (Y0 _) _;have g:Below (w.alloc (.cells #[.pointer none] 22)).heap.size (w.alloc (.cells #[.pointer none] 22)) (Sn w):=(Y2 _ _).alloc (Y0 _) _;have m:(w.alloc (.cells #[.pointer none] 22)).heap.size=w.heap.size+1:=PE
 refine⟨?_,?_,by simp[Sn],h1.alloc PE _⟩;·rw[g.block w.heap.size Px];exact Yq w _
 .have:=Yq (w.alloc (.cells #[.pointer none] 22)) (.cells #[.nilIface] 32);rw[m]at this;exact this
def Z6z{R:Ending->kV->Prop}{tmps:Array Value}{W:kV}{pb eb:Nat}{x y:Value}(h2:tmps.getD 2 undef=(vP pb))(h3:tmps.getD 3 undef=(vP eb))
 (c1:vC W pb 0 x)(c2:vC W eb 0 y)(g:R (.returned (.tuple #[x,y])) W):Go.Leaves Tryz.prog f9 tmps R [] .returning W:=by
 refine⟨.tuple #[x,y],?_,g⟩;have m:tmps[2]?.getD undef=(vP pb):=RU
 have p:tmps[3]?.getD undef=(vP eb):=RV
 simp[results,results9,go_sem,m,p,c1,c2]
def Z54.bad{w w1 W:kV}{c p:Int}{x:Value}(hx:Ztq w1 (w.heap.size+2) x c p)(g:kW w w1)(m:∀k,k<w1.heap.size->k≠w.heap.size->k≠w.heap.size+1->W.heap[k]?=w1.heap[k]?)(hs:w1.heap.size<=W.heap.size)
 (ho:W.os=w1.os)(ht:W.tape=w1.tape)(y:W.output=w1.output):Z54 w (.error (c,p)) (.returned (.tuple #[.pointer none,x])) W:=by
 refine⟨⟨ho.trans g.os,ht.trans g.tape,y.trans g.output,Y4 g.size hs,λk hk=>(m k (Y7 hk g.size) Px Px).trans (g.block k hk)⟩,x,rfl,?_⟩;rcases hx with h|⟨q,hq,b,h1,F,u⟩;·exact .inl h
 .exact .inr ⟨q,hq,b,h1,by omega,(m b (Y1.1 u).1 Px Px).trans u⟩
def Zfy(w:kV)(text:kB)(c p:Int)(g:kC 27 #[.string text] (Sn w) λe w'=>(∃x,e=.returned (.tuple #[.slice none 0 0,x])/\Ztq w' (Sn w).heap.size x c p)/\Below (Sn w).heap.size (Sn w) w') :
 kC 9 #[.string text] w (Z54 w (.error (c,p))):=by
 obtain⟨J,O,U,X⟩:=Zaw w;obtain⟨K1,K2,K3,u⟩:=en J O U X;obtain⟨w0,m⟩:=zX (Sn w)
 rw[<-m]at g K1 K2 K3 u;unfold Sn at m;have Y:=lh m;have g:=lh g;clear m J O U X;go_enter_defers func9,ntmps9
 go_wp2_with fail
 rw[<-Y.o];refine g.o.mono ?_;rintro e w1⟨⟨x,rfl,hx⟩,hB⟩;refine Yx ?_;intro b1 b2 pb li eb pH;rw[<-pH]at b2;rw[<-li]at b1;rw[<-pH,<-li];refine Zx0 ?_;intro c1 c2 z1 z2;have aG:pb≠eb:=Px
 have kj:pb<w1.heap.size:=(Y1.1 b1).1;have nC:eb<w1.heap.size:=(Y1.1 b2).1;obtain⟨Z,HB,rC,ox,B1,B2⟩:=gq hx hB li pH b1 b2;obtain⟨tx,F,L8⟩:∃tx F,x=.iface tx F:=by
  rcases hx with⟨_,rfl⟩|⟨q,_,b,rfl,_⟩;·exact⟨_,_,rfl⟩
  .exact⟨_,_,rfl⟩
 subst L8;clear hx hB li pH b1 b2 g;go_wp2_with fail
 go_region
 go_wp2;refine Z6z (pb:=pb) (eb:=eb) rfl rfl (x:=.pointer none) (y:=.iface tx F) ?_ ?_ ?_;·show World.cell? _ _=_;go_simp
 .show World.cell? _ _=_;go_simp
 .refine Z54.bad (w1:=w1) (by have :=Z.o;rwa[K3.o]at this) (u.o.trans (HB.o.mono u.o.size)) (λk hk h1 I=>?_) ?_ rfl rfl rfl
  .rw[<-rC.o]at h1;rw[<-ox.o]at I;exact((Y8 _ _ _ _ I).trans (Y8 _ _ _ _ h1)).trans (Y8 _ _ _ _ I)
  .show _<=(World.setCell _ _ _).heap.size;rw[Yf,Yf,Yf];exact Y0 _
def Gv.mono{w:kV}{rb g:Nat}(h:Gv w rb)(hr:rb<=g):Gv w g:=by
 intro lv hl;obtain⟨b,off,cap,h1,p,m⟩:=h lv hl;exact⟨b,off,cap,by omega,by omega,m⟩
def Rd.new{w1 w2:kV}{base rb:Nat}{ts:List Tok}{v:Value}(m:w1.ownsRow base 139 4 v ts.length (ts.flatMap Tok.cells))(hl:∃l e,ts=l++[e]/\e.kind=6/\∀t∈l,t.kind≠6)
 (hb:w2.heap[rb]?=some (.cells #[v,vI 0] 86 (0,0)))(hr:rb=w1.heap.size)(hk:∀k,k<w1.heap.size->v.ownBlock=some k->w2.heap[k]?=w1.heap[k]?)(hs:w1.heap.size<=w2.heap.size)(y:Gv w2 rb):Rd w2 rb ts 0:=by
 have G:0<ts.length:=by obtain⟨l,e,h,_⟩:=hl;rw[h];simp
 rcases Z4 m with⟨_,p⟩|⟨g,cap,rfl,h1,p,I⟩;·omega
 have u:g<w1.heap.size:=(m.lt g rfl).2;refine⟨g,0,cap,⟨hb,h1,p,by omega,Y7 u hs,λk t j x hi F=>?_,hl,y⟩⟩;have:=SH (f:=Tok.cells) (λ_=>rfl) m (g:=g) rfl hi F;rw[Nat.zero_add];exact(Yb (hk g u rfl)).trans this
def Zn1(c:Int):IntKind.i64.wrap (IntKind.i64.wrap c+1)=IntKind.i64.wrap (c+1):=by
 simp only[IntKind.wrap_i64];omega
def Zf4(g:kV)(B mb:Nat)(a:ATree)(c:Nat)(W:kV):Prop:=
 TreeAt W B a/\W.heap[mb]?=some (.cells #[vI (IntKind.i64.wrap c)] 3 (0,0))/\W.os=g.os/\W.tape=g.tape/\W.output=g.output/\g.heap.size<=W.heap.size/\∀k,k<g.heap.size->k≠mb->W.heap[k]?=g.heap[k]?
def Tk(c:Nat)(x:ATree):Bool×Nat:=(true,c+1)
mutual
theorem Ziy:∀(a:ATree) (c:Nat),sp Tk a c=c+a.many
 | .mk b v k t n l,c=>by simp only[sp,Tk,if_true,ATree.many];rw[Zfg l];omega
theorem Zfg:∀(l:List ATree) (c:Nat),pV Tk l c=c+Ad l
 | [],c=>by simp[pV,Ad]
 |a::l,c=>by simp only[pV,Ad];rw[Ziy a,Zfg l];omega
end
def Zv5(g:kV)(B mb:Nat)(a x:ATree)(u:mb<B\/mb∉a.blocks)(X:mb<g.heap.size)(c:Nat)(w:kV)(hI:Zf4 g B mb a c w) :
 kC 30 #[x.ptr,vP mb] w λe w'=>e=.returned (.bool (Tk c x).1)/\Zf4 g B mb a (Tk c x).2 w':=by
 obtain⟨h1,m,F,G,h5,I,J⟩:=hI;have c1:w.cell? ⟨mb,0,none⟩=some (vI (IntKind.i64.wrap c)):=by simp[vC,World.cell?,m]
 have Y:w.frozen? ⟨mb,0,none⟩=false:=by simp[World.frozen?,m]
 have hn:mb∉a.blocks:=by
  rcases u with h|h;·intro hx;have:=(h1.has mb hx).1;omega
  .exact h
 obtain⟨y,p⟩:∃y,y=IntKind.i64.wrap (c:Int):=⟨_,rfl⟩
 rw[<-p]at c1;have H:Hid (Zf4 g B mb a (c+1) (w.setCell ⟨mb,0,none⟩ (vI (IntKind.i64.wrap (y+1))))):=by
  refine lh ⟨h1.keepB λk hk=>Y8 _ _ _ _ (λe=>hn (by have U:k=mb:=e;rw[<-U];exact hk)),?_,F,G,h5,by rw[Yf];exact I,λk hk O=>(Y8 _ _ _ _ O).trans (J k hk O)⟩;rw[show IntKind.i64.wrap (((c+1:Nat):Int))=IntKind.i64.wrap (y+1) by rw[p,Zn1];rfl];exact Zj (o:=0) _ m
 unfold ATree.ptr;clear h1 m F G h5 I J hn p u;go_enter func30,ntmps30
 go_wp2;go_ret;rw[show wrap64 (y+1)=IntKind.i64.wrap (y+1) by simp only[IntKind.wrap_i64,wrap64]];exact⟨rfl,H.o⟩
def Ac':Except (Int×Nat) (Tree×List Tok)->Except (Int×Int) Tree
 | .error (e,p)=>.error (e,p)
 | .ok (t,_)=>if 1500<t.many then .error (4,-1)else .ok t
def Zjh(w:kV)(text:kB)(hm:text.size<=3000)(hW:Words w)(hL:Gv w w.heap.size)(ts:List Tok)(ht:Xz text=.ok ts) :
 kC 9 #[.string text] w (Z54 w (Zt text)):=by
 obtain⟨k1,k2,k3,k4⟩:=Zaw w;obtain⟨w0,sB⟩:=zX (Sn w)
 rw[<-sB]at k1 k2 k3 k4;have HC:=Zcm w0 text hm (hW.below k4);rw[ht]at HC;have HC:=lh HC;have HL:=lh hL;obtain⟨s1,s2,s3⟩:=Zap ts 0 (Yh _) (Z8e ht);obtain⟨S1,S2,HM,HT⟩:=en s1 s2 hm ht;refine FG ?_;intro iO;obtain⟨r,hr⟩:∃r,Z2 (40*ts.length+31) (.stmts 1 []) 0 ts=some r:=by
  have:=Zk8 (40*ts.length+31) (.stmts 1 []) 0 ts (by simp only[Job.rank];omega);cases h:Z2 (40*ts.length+31) (.stmts 1 []) 0 ts with
  |none=>exact absurd h this
  |some r=>exact⟨r,rfl⟩
 have ao:Zt text=Ac' r:=by
  unfold Zt;rw[Y3 Px,ht];simp only[hr];rcases r with⟨e,p⟩|⟨t,us⟩<;>rfl
 obtain⟨HR,cN,K1,K2,K3,K4⟩:=gq hr ao k1 k2 k3 k4;unfold Sn at sB;have Ff:=lh sB;clear sB k1 k2 k3 k4 s1 s2 s3 ht hr ao hm hL hW;go_enter_defers func9,ntmps9
 go_wp2_with fail
 rw[<-Ff.o];refine HC.o.mono ?_;rintro e w1⟨⟨v,rfl,hv⟩,hB⟩;obtain⟨vp,vn,vc,gV⟩:∃p n c,v=.slice p n c:=by
  rcases Z4 hv with⟨h1,_⟩|⟨g,cap,h1,_⟩;·exact⟨_,_,_,h1⟩
  .exact⟨_,_,_,h1⟩
 subst gV;refine Yx ?_;intro b1 b2 pb li eb pH;rw[<-pH]at b2;rw[<-li]at b1;rw[<-pH,<-li];have aG:pb≠eb:=Px
 refine Zx0 ?_;intro c1 c2 z1 z2;have kj:pb<w1.heap.size:=(Y1.1 b1).1;have nC:eb<w1.heap.size:=(Y1.1 b2).1;have J:=zT K4 hB;obtain⟨HV,rC,Y,OP,OQ⟩:=gp hv li pH b1 b2;obtain⟨w2,Z⟩:=zX ((w1.setCell ⟨eb,0,none⟩ .nilIface).alloc (.cells #[.slice vp vn vc,vI 0] 86))
 obtain⟨rb,gO⟩:=zX w1.heap.size
 have aF:(w1.setCell ⟨eb,0,none⟩ .nilIface).heap.size=rb:=by rw[gO];exact Yf ..
 have cf:w2.heap.size=rb+1:=by rw[Z];simp[gO]
 have cL:∀k,k<rb->k≠eb->w2.heap[k]?=w1.heap[k]?:=λk hk hn=>by
  rw[Z];exact(Below.heap_alloc _ _ _ (by rw[aF];exact hk)).trans (Y8 _ _ _ _ hn)
 have e2:w2.heap[eb]?=some (.cells #[.nilIface] 32 (0,0)):=by
  rw[Z];exact(Below.heap_alloc _ _ _ (by rw[aF];omega)).trans (Zj (o:=0) .nilIface b2)
 have r2:w2.heap[rb]?=some (.cells #[.slice vp vn vc,vI 0] 86 (0,0)):=by
  rw[Z,<-aF];exact Yq _ _
 have Ae:Gv w2 rb:=by
  refine(HL.o.keep (w':=w2) λk hk=>?_).mono (by have:=J.o.size;omega);exact(cL k (by have:=J.o.size;omega) Px).trans (J.o.block k hk)
 have Af:∀k,(Value.slice vp vn vc).ownBlock=some k->k≠eb:=λk hk=>by have:=(hv.lt k hk).1;rw[K3.o]at this;omega
 have Jq:Rd w2 rb ts 0:=Rd.new hv S1.o r2 gO (λk hk aR=>cL k Px (Af k aR)) Px Ae;have hP:Pre w2 rb w2.heap.size 0 ts:=⟨Jq,by omega,by omega,Y0 _,by have:=S2.o;have:=HM.o;omega⟩
 have HS:=Zr7 _ w2 rb w2.heap.size 0 ts r hP HR.o;simp only at HS;obtain⟨HS,Ag,E2,fq,kP,bW⟩:=gq HS cL e2 Z gO cf;have p2:=(Ag.o pb Px aG).trans b1;have Jr:=lh p2;have oy:=lh (show w2.os=w1.os/\w2.tape=w1.tape/\w2.output=w1.output by rw[Z];exact⟨rfl,rfl,rfl⟩);clear hB hv li pH b1 b2 HC Z gO aF cf cL e2 r2 Ae Af Jq hP p2;go_wp2_with fail
 rw[<-fq.o,<-kP.o];refine HS.o.mono ?_;have Js:Hid (∀k,k<w.heap.size->w2.heap[k]?=w.heap[k]?):=lh λk hk=>(Ag.o k (by have:=J.o.size;have:=kP.o;omega) (by have:=Y.o;omega)).trans (J.o.block k hk);have X:Hid (w.heap.size+2<=rb):=lh (by have:=Y.o;have:=kP.o;omega);rcases r with⟨c,p⟩|⟨t,us⟩
 .rintro e m⟨⟨b,rfl,h1,I⟩,U⟩;have p3:=(U.block pb Rr (by have :=X.o;have :=rC.o;omega)).trans Jr.o;have e3:=(U.block eb Rr (by have :=X.o;have :=Y.o;omega)).trans E2.o;have H1:=lh h1;have H2:=lh I;have O:=lh U;rw[cN.o];clear h1 I U HS;refine Zvd ?_;refine(Zgx pb eb b [] m _ _ p3 e3 aG).mono ?_;rintro e u' u⟨rfl,rfl,L9⟩;obtain⟨q1,q2,q3,q4,q5,q6,q7⟩:=L9;show Go.Leaves _ _ _ _ [] .returning _
  refine Z6z (pb:=pb) (eb:=eb) rfl rfl (x:=.pointer none) (y:=.iface 140 (vP b)) (by simp[vC,World.cell?,q1]) (by simp[vC,World.cell?,q2]) ?_;have aZ:=O.o.size;have bj:b<m.heap.size:=(Y1.1 H2.o).1;have rf:=H1.o;refine⟨⟨?_,?_,?_,?_,λk hk=>?_⟩,.iface 140 (vP b),rfl,.inr ⟨p,rfl,b,rfl,?_,?_⟩⟩;·exact q3.trans (O.o.os.trans (oy.o.1.trans J.o.os))
  .exact q4.trans (O.o.tape.trans (oy.o.2.1.trans J.o.tape))
  .exact q5.trans (O.o.output.trans (oy.o.2.2.trans J.o.output))
  .have:=bW.o;have:=X.o;omega
  .have I:=bW.o;have h3:=X.o;have h4:=rC.o;have h5:=Y.o;exact(q7 k Px Px Px).trans ((O.o.block k Px Px).trans (Js.o k hk))
  .have:=bW.o;have:=X.o;omega
  .have I:=bW.o;have h3:=X.o;have h4:=rC.o;have h5:=Y.o;exact(q7 b bj Px Px).trans H2.o
 .rintro e m⟨a,rfl,hG,bG,U⟩;have I:=bW.o;have h3:=X.o;have h4:=rC.o;have h5:=Y.o;have h6:=kP.o;have p3:=(U.block pb Px Px).trans Jr.o;have e3:=(U.block eb Px Px).trans E2.o;have aZ:=U.size;obtain⟨mb,jg⟩:=zX m.heap.size
  obtain⟨u,fV⟩:=zX ((m.setCell ⟨pb,0,none⟩ (vP a.b)).alloc (.cells #[vI 0] 3))
  have cF:(m.setCell ⟨pb,0,none⟩ (vP a.b)).heap.size=mb:=by rw[jg];exact Yf ..
  have iT:u.heap.size=mb+1:=by rw[fV];simp[jg]
  have vE:∀k,k<mb->k≠pb->u.heap[k]?=m.heap[k]?:=λk hk hn=>by
   rw[fV];exact(Below.heap_alloc _ _ _ (by rw[cF];exact hk)).trans (Y8 _ _ _ _ hn)
  have p4:u.heap[pb]?=some (.cells #[vP a.b] 22 (0,0)):=by
   rw[fV];exact(Below.heap_alloc _ _ _ (by rw[cF];omega)).trans (Zj (o:=0) _ p3)
  have m4:u.heap[mb]?=some (.cells #[vI 0] 3 (0,0)):=by
   rw[fV,<-cF];exact Yq _ _
  have Ah:TreeAt u w2.heap.size a:=hG.at'.keepB λk hk=>vE k (by have:=(hG.new k hk).2;omega) (by have:=(hG.new k hk).1;omega);have hI:Zf4 u w2.heap.size mb a 0 u:=⟨Ah,m4,rfl,rfl,rfl,Y0 _,λ_ _ _=>rfl⟩
  have lG:mb∉a.blocks:=λhx=>by have:=(hG.new mb hx).2;omega
  have xM:=Zv8 ⟨mb,0,none⟩ (Zf4 u w2.heap.size mb a) Tk w2.heap.size a.many a (Y0 _) (λs W h=>h.1) (λx hx s W h=>Zv5 u w2.heap.size mb a x (.inr lG) Px s W h) 0 u hI;unfold ATree.ptr at xM;rw[Ziy,Nat.zero_add,<-Vi,hG.tree]at xM;have xM:=lh xM;have c3:m.cell? ⟨pb,0,none⟩=some (.pointer none):=by simp[vC,World.cell?,p3]
  have z3:m.frozen? ⟨pb,0,none⟩=false:=by simp[World.frozen?,p3]
  have Mc:pb<m.heap.size:=Px
  obtain⟨HG,O,EM,EH,nu,Ai,P4,E3⟩:=kw hG U fV jg iT vE p4 e3;have nH:t.many<=6100:=by
   have:=Zjg _ _ _ _ _ _ HR.o;simp only[Job.base,qc]at this;have:=S2.o;have:=HM.o;omega
  have Fg:=lh (show u.os=m.os/\u.tape=m.tape/\u.output=m.output by rw[fV];exact⟨rfl,rfl,rfl⟩);clear hG bG U fV jg cF iT vE p4 m4 Ah hI lG p3 e3 I h3 h4 h5 h6 aZ HS;go_wp2_with fail
  rw[<-EM.o,<-EH.o];refine xM.o.mono ?_;rintro e F⟨rfl,i1,i2,i3,i4,i5,i6,i7⟩;rw[show IntKind.i64.wrap ((t.many:Nat):Int)=(t.many:Int) by simp only[IntKind.wrap_i64];omega]at i2;have I:=bW.o;have h3:=X.o;have h4:=rC.o;have h5:=Y.o;have h6:=kP.o;have h7:=nu.o;have h8:=EH.o;have h9:=O.o.size;have p5:=(i7 pb Px Px).trans P4.o;have e5:=(i7 eb Px Px).trans ((Ai.o eb Px Px).trans E3.o)
  have cm:F.cell? ⟨mb,0,none⟩=some (vI (t.many:Int)):=by simp[vC,World.cell?,i2]
  have cp:F.cell? ⟨pb,0,none⟩=some (vP a.b):=by simp[vC,World.cell?,p5]
  have ce:F.cell? ⟨eb,0,none⟩=some .nilIface:=by simp[vC,World.cell?,e5]
  have zp:F.frozen? ⟨pb,0,none⟩=false:=by simp[World.frozen?,p5]
  have ze:F.frozen? ⟨eb,0,none⟩=false:=by simp[World.frozen?,e5]
  have OR:pb<F.heap.size:=Px
  have Aj:eb<F.heap.size:=Px
  have fin:Hid (∀(W:kV) (x y:Value),W=(F.setCell ⟨pb,0,none⟩ x).setCell ⟨eb,0,none⟩ y->kW w W/\Got w w.heap.size W a t):=by
   refine lh λW x y hW=>?_;have OS:W.heap.size=F.heap.size:=by rw[hW,Yf,Yf]
   have Fh:∀k,k≠pb->k≠eb->W.heap[k]?=F.heap[k]?:=λk h1 I=>by rw[hW];exact(Y8 _ _ _ _ I).trans (Y8 _ _ _ _ h1)
   have Ak:∀k,k<mb->k≠pb->k≠eb->W.heap[k]?=m.heap[k]?:=λk hk h1 I=>(Fh k h1 I).trans ((i7 k Px Px).trans (Ai.o k Px h1));have o1:W.os=F.os/\W.tape=F.tape/\W.output=F.output:=by rw[hW];exact⟨rfl,rfl,rfl⟩
   refine⟨⟨?_,?_,?_,by omega,λk hk=>?_⟩,⟨HG.o.tree,?_,HG.o.nodup,λz hz=>?_⟩⟩;·exact o1.1.trans (i3.trans (Fg.o.1.trans (O.o.os.trans (oy.o.1.trans J.o.os))))
   .exact o1.2.1.trans (i4.trans (Fg.o.2.1.trans (O.o.tape.trans (oy.o.2.1.trans J.o.tape))))
   .exact o1.2.2.trans (i5.trans (Fg.o.2.2.trans (O.o.output.trans (oy.o.2.2.trans J.o.output))))
   .exact(Ak k Px Px Px).trans ((O.o.block k Px Px).trans (Js.o k hk))
   .refine(HG.o.at'.keepB λk hk=>?_).base Px;have:=HG.o.new k hk;exact Ak k Px Px Px
   .have:=HG.o.new z hz;omega
  have jV:Zt text=if 1500<t.many then .error (4,-1)else .ok t:=cN.o;clear i1 i2 i3 i4 i5 i6 i7 p5 e5 I h3 h4 h5 h6 h7 h8 h9 xM;by_cases eP:1500<t.many
  .rw[Y5 eP]at jV;have hb:decide ((t.many:Int)>1500)=true:=by simp;omega
   have HA:=lh jV;clear jV eP;go_wp2_with fail
   refine Zvd ?_;refine(Zc9 ⟨pb,0,none⟩ ⟨eb,0,none⟩ _).mono ?_;rintro e u' w6⟨rfl,rfl,rfl⟩;show Go.Leaves _ _ _ _ [] .returning _;refine Z6z (pb:=pb) (eb:=eb) rfl rfl (x:=.pointer none) (y:=.iface 44 (vI 4)) QB QB ?_;rw[HA.o];have hf:=fin.o _ (.pointer none) (.iface 44 (vI 4)) rfl;exact⟨hf.1,_,rfl,.inl ⟨rfl,rfl⟩⟩
  .rw[Y3 eP]at jV;have hb:decide ((t.many:Int)>1500)=false:=by simp;omega
   have HA:=lh jV;clear jV eP;go_wp2_with fail
   refine Zvd ?_;refine(Zc9 ⟨pb,0,none⟩ ⟨eb,0,none⟩ _).mono ?_;rintro e u' w6⟨rfl,rfl,rfl⟩;show Go.Leaves _ _ _ _ [] .returning _;refine Z6z (pb:=pb) (eb:=eb) rfl rfl (x:=(vP a.b)) (y:=.nilIface) QB QB ?_;rw[HA.o];have hf:=fin.o _ (vP a.b) (.nilIface) rfl;exact⟨hf.1,a,rfl,hf.2⟩
def Zeo(w:kV)(text:kB)(m:Words w)(y:Gv w w.heap.size) :
 kC 9 #[.string text] w (Z54 w (Zt text)):=by
 have F:=(Zaw w).2.2.2;by_cases hm:3000<text.size
 .have e:Zt text= .error (4,-1):=by unfold Zt;rw[Y5 hm]
  rw[e];exact Zfy w text 4 (-1) ((Zgg (Sn w) text hm).mono λe w' ⟨h1,g⟩=>by subst h1;subst g;exact⟨⟨_,rfl,.inl ⟨rfl,rfl⟩⟩,Y2 _ _⟩)
 .cases ht:Xz text with
  |ok ts=>exact Zjh w text Px m y ts ht
  |error x=>
    obtain⟨c,p⟩:=x;have e:Zt text=.error (c,(p:Int)):=by unfold Zt;rw[Y3 hm,ht]
    rw[e];have u:=Zcm (Sn w) text Px (m.below F);rw[ht]at u;exact Zfy w text c p (u.mono λe w' ⟨⟨x,h1,g⟩,I⟩=>⟨⟨x,h1,.inr ⟨p,rfl,g⟩⟩,I⟩)
structure RCtx where
 w0:kV
 mb:Nat
 nb:Nat
 eb:Addr
 pl:List (Nat×Nat)
def RCtx.N(C:RCtx)(b:Nat):Int:=match C.pl.find? (λx=>x.1==b)with|some x=>x.2|none=>-3
structure CloR where
 a:ATree
 scope:Int
 strict:Bool
def CloR.cells(c:CloR):List Value:=[c.a.ptr,vI c.scope,.bool c.strict]
def CloR.clo(N:Nat->Int)(c:CloR):Clo:=⟨c.a.nt N,c.scope,c.strict⟩
structure MRep where
 ρ:Nat->Option Role
 L:HL
 row:Nat->Value
 cl:List CloR
def nc:Nat->TypeId
 |0=>9
 |1=>77
 |2=>3
 |_=>117
def nF:Nat->Nat
 |0=>1
 |1=>2
 |2=>1
 |_=>3
def rowO:Nat->Nat
 |0=>2
 |1=>6
 |2=>8
 |_=>9
def kr(s:MSt)(cl:List CloR):Nat->Nat
 |0=>s.log.length
 |1=>s.seen.length
 |2=>s.owners.length
 |_=>cl.length
def nE(s:MSt)(cl:List CloR):Nat->List Value
 |0=>s.log.map Value.string
 |1=>s.seen.flatMap λp=>[vI p.1,vI p.2]
 |2=>s.owners.map (Value.int .i64)
 |_=>cl.flatMap CloR.cells
def MRep.has(M:MRep)(b:Nat):Prop:=M.ρ b≠none\/∃i,i<4/\(M.row i).ownBlock=some b
def lR(C:RCtx)(s:MSt):List (Nat×Value):=
 [(3,vI 0),(4,.string ⟨#[]⟩),(5,vI s.steps),(7,.map (some C.nb)),(10,vI s.glob),(11,vI s.outer),(12,vI s.top),(13,vI s.calls),(14,vI s.last.kind),(15,vI s.last.n),(16,.string s.last.s)]
structure MAt(C:RCtx)(M:MRep)(w:kV)(s:MSt):Prop where
 heap:HeapAt M.ρ w C.mb 0 M.L s.H
 cell:∀o x,(o,x)∈lR C s->w.cell? ⟨C.mb,o,none⟩=some x
 rcell:∀i,i<4->w.cell? ⟨C.mb,rowO i,none⟩=some (M.row i)
 fz:∀o,w.frozen? ⟨C.mb,o,none⟩=false
 rows:∀i,i<4->w.ownsRow 0 (nc i) (nF i) (M.row i) (kr s M.cl i) (nE s M.cl i)
 rfree:∀i,i<4->∀g,(M.row i).ownBlock=some g->M.ρ g=none/\g<w.heap.size
 rdist:∀i j g,i<4->j<4->(M.row i).ownBlock=some g->(M.row j).ownBlock=some g->i=j
 clos:s.clos=M.cl.map (CloR.clo C.N)
 trees:∀x∈M.cl,TreeAt w 0 x.a/\∀k∈x.a.blocks,¬M.has k
 old:Below C.w0.heap.size C.w0 w
 far:∀k,k<C.w0.heap.size->¬M.has k
structure MFr(M M':MRep)(w w':kV):Prop where
 os:w'.os=w.os
 tape:w'.tape=w.tape
 output:w'.output=w.output
 size:w.heap.size<=w'.heap.size
 block:∀k,k<w.heap.size->¬M.has k->w'.heap[k]?=w.heap[k]?
 free:∀k,k<w.heap.size->¬M.has k->¬M'.has k
section
variable {C:RCtx}{M M' sC:MRep}{w w' dL:kV}{s s':MSt}
theorem MFr.refl(M:MRep)(w:kV):MFr M M w w:=⟨rfl,rfl,rfl,Y0 _,λ_ _ _=>rfl,λ_ _ h=>h⟩
theorem MFr.trans(a:MFr M M' w w')(b:MFr M' sC w' dL):MFr M sC w dL:=
 ⟨b.os.trans a.os, b.tape.trans a.tape, b.output.trans a.output, Y4 a.size b.size,
  λk hk hf=>(b.block k (Y7 hk a.size) (a.free k hk hf)).trans (a.block k hk hf),
  λk hk hf=>b.free k (Y7 hk a.size) (a.free k hk hf)⟩
theorem MFr.of_below(g:kW w w'):MFr M M w w':=⟨g.os,g.tape,g.output,g.size,λk hk _=>g.block k hk,λ_ _ h=>h⟩
theorem MFr.drew(a:MFr M M' w w'):MFr M M' w w'.drew:=⟨a.os,a.tape,a.output,a.size,a.block,a.free⟩
def MAt.lt(h:MAt C M w s){k:Nat}(hk:M.has k):k<w.heap.size:=by
 rcases hk with hk|⟨i,hi,hk⟩;·exact h.heap.live k hk
 .exact(h.rfree i hi k hk).2
theorem MAt.mbHas(h:MAt C M w s):M.has C.mb:=.inl (by simp[h.heap.rhp])
theorem MAt.mbLt(h:MAt C M w s):C.mb<w.heap.size:=h.heap.hbLt
theorem MAt.fresh(h:MAt C M w s){k:Nat}(hk:w.heap.size<=k):¬M.has k:=λg=>by have:=h.lt g;omega
def MAt.rowNe(h:MAt C M w s){i:Nat}(hi:i<4):(M.row i).ownBlock≠some C.mb:=λe=>by
 have:=(h.rfree i hi _ e).1;rw[h.heap.rhp]at this;cases this
theorem MAt.keep(h:MAt C M w s)(hs:w.heap.size<=w'.heap.size)(hk:∀k,k<w.heap.size->w'.heap[k]?=w.heap[k]?)(h1:w'.os=w.os)(p:w'.tape=w.tape)(u:w'.output=w.output):MAt C M w' s where
 heap:=h.heap.keep hs λb hb=>hk b (h.heap.live b hb)
 cell o x hx:=(Yb (hk _ h.mbLt)).trans (h.cell o x hx)
 rcell i hi:=(Yb (hk _ h.mbLt)).trans (h.rcell i hi)
 fz o:=(Yn (hk _ h.mbLt)).trans (h.fz o)
 rows i hi:=Z3 (h.rows i hi) λg m=>hk g (h.rfree i hi g m).2
 rfree i hi g m:=⟨(h.rfree i hi g m).1,by have:=(h.rfree i hi g m).2;omega⟩
 rdist:=h.rdist
 clos:=h.clos
 trees x hx:=⟨(h.trees x hx).1.keepB λk hb=>hk k ((h.trees x hx).1.has k hb).2,(h.trees x hx).2⟩
 old:=⟨h1.trans h.old.os,p.trans h.old.tape,u.trans h.old.output,Y4 h.old.size hs,λk hb=>(hk k (Y7 hb h.old.size)).trans (h.old.block k hb)⟩
 far:=h.far
theorem MAt.below(h:MAt C M w s)(g:kW w w'):MAt C M w' s:=h.keep g.size g.block g.os g.tape g.output
theorem MAt.drew(h:MAt C M w s):MAt C M w.drew s:=h.keep (Y0 _) (λ_ _=>rfl) rfl rfl rfl
def MAt.heapStep{ρ':Nat->Option Role}{p:HL}{u:LHeap}(h:MAt C M w s)(g:HeapAt ρ' w' C.mb 0 p u)(f:Fr M.ρ ρ' C.mb 0 w w') :
 MAt C {M with ρ:=ρ',L:=p} w' (s.setH u)/\MFr M {M with ρ:=ρ',L:=p} w w':=by
 have eW:∀k,k<w.heap.size->¬M.has k->¬({M with ρ:=ρ',L:=p}:MRep).has k:=λk hk hf m=>by
  have hr:M.ρ k=none:=by
   cases hr:M.ρ k with
   |none=>rfl
   |some r=>exact absurd (.inl QV) hf
  rcases m with m|m;·exact m (f.role k hk hr)
  .exact hf (.inr m)
 have ac:∀k,k<w.heap.size->¬M.has k->w'.heap[k]?=w.heap[k]?:=λk hk hf=>f.block k hk (by
  cases hr:M.ρ k with
  |none=>rfl
  |some r=>exact absurd (.inl QV) hf)
 have y:∀o x,(o,x)∈lR C s->o≠0/\o≠0+1:=λo x hx=>by
  simp only[lR,List.mem_cons,Prod.mk.injEq,List.not_mem_nil,or_false]at hx;omega
 refine⟨⟨g,λo x hx=>?_,λi hi=>?_,λo=>(f.frz o).trans (h.fz o),λi hi=>?_,λi hi k hk=>?_,h.rdist,h.clos,λx hx=>?_,?_,λk hk=>?_⟩,⟨f.os,f.tape,f.output,f.size,ac,eW⟩⟩;·exact(f.cell o (y o x hx).1 (y o x hx).2).trans (h.cell o x hx)
 .have :rowO i≠0/\rowO i≠0+1:=by unfold rowO;split<;>decide
  exact(f.cell _ this.1 this.2).trans (h.rcell i hi)
 .exact Z3 (h.rows i hi) λk hk=>f.block k (h.rfree i hi k hk).2 (h.rfree i hi k hk).1
 .exact⟨f.role k (h.rfree i hi k hk).2 (h.rfree i hi k hk).1,Y7 (h.rfree i hi k hk).2 f.size⟩
 .have ht:=h.trees x hx;exact Zwm
 .exact⟨f.os.trans h.old.os,f.tape.trans h.old.tape,f.output.trans h.old.output,Y4 h.old.size f.size,λk hk=>(ac k (Y7 hk h.old.size) (h.far k hk)).trans (h.old.block k hk)⟩
 .exact eW k (Y7 hk h.old.size) (h.far k hk)
def MAt.scalar{j:Nat}{v:Value}(h:MAt C M w s)(hj:3<=j)(O:s'.H=s.H)(hl:s'.log=s.log)(hn:s'.seen=s.seen)(ho:s'.owners=s.owners)(hc:s'.clos=s.clos)
 (hr:∀i,i<4->rowO i≠j)(U:∃x,w.cell? ⟨C.mb,j,none⟩=some x)(hx:∀o x,(o,x)∈lR C s'->o=j/\x=v\/o≠j/\(o,x)∈lR C s) :
 MAt C M (w.setCell ⟨C.mb,j,none⟩ v) s'/\MFr M M w (w.setCell ⟨C.mb,j,none⟩ v):=by
 have hb:∀k,k≠C.mb->(w.setCell ⟨C.mb,j,none⟩ v).heap[k]?=w.heap[k]?:=λk hk=>Y8 _ _ _ _ hk;have y:(w.setCell ⟨C.mb,j,none⟩ v).heap.size=w.heap.size:=Qb
 have I:∀k,¬M.has k->k≠C.mb:=λk hk e=>hk (e▸h.mbHas);obtain⟨x0,X⟩:=U;have F:∀o,o≠j->(w.setCell ⟨C.mb,j,none⟩ v).cell? ⟨C.mb,o,none⟩=w.cell? ⟨C.mb,o,none⟩:=λo ho=>Yr _ _ _ _ (by intro e;cases e;exact ho rfl);have Y:(w.setCell ⟨C.mb,j,none⟩ v).cell? ⟨C.mb,j,none⟩=some v:=World.cell?_setCell_same _ _ _ X;have J:∀o,(w.setCell ⟨C.mb,j,none⟩ v).frozen? ⟨C.mb,o,none⟩=w.frozen? ⟨C.mb,o,none⟩:=λo=>World.frozen?_setCell _ _ _ _;have m:=h.heap
 have u:∀k r,M.ρ k=some r->r≠.hp->k≠C.mb:=λk r hk hr e=>by rw[e,m.rhp]at hk;cases hk;exact hr rfl
 refine⟨⟨?_,λo x ho=>?_,λi hi=>?_,λo=>(J o).trans (h.fz o),λi hi=>?_,λi hi g p=>by rw[y];exact h.rfree i hi g p,h.rdist,hc.trans h.clos,λx hx=>?_,?_,h.far⟩,⟨rfl,rfl,rfl,Nat.le_of_eq y.symm,λk _ hk=>hb k (I k hk),λ_ _ hk=>hk⟩⟩
 .rw[O]
  exact⟨(F 0 Px).trans m.cellO,(F (0+1) Px).trans m.cellS,(J 0).trans m.frO,(J (0+1)).trans m.frS,
   Z3 m.rowO λg p=>hb g (u g _ (m.rvo g p) PJ),Z3 m.rowS λg p=>hb g (u g _ (m.rvs g p) PJ),
   λi o ho=>⟨(hb _ (u _ _ (m.rob i (getElem?_lt ho)) PJ)).trans (m.obj i o ho).1,Z3 (m.obj i o ho).2 λg p=>hb g (u g _ (m.rpv i g (getElem?_lt ho) p) PJ)⟩,
   λi o ho=>⟨(hb _ (u _ _ (m.rsb i (getElem?_lt ho)) PJ)).trans (m.scp i o ho).1,Z3 (m.scp i o ho).2 λg p=>hb g (u g _ (m.rnv i g (getElem?_lt ho) p) PJ)⟩,
   m.rhp,m.rvo,m.rvs,m.rob,m.rpv,m.rsb,m.rnv,λb hb=>by rw[y];exact m.live b hb⟩
 .rcases hx o x ho with⟨rfl,rfl⟩|⟨h1,Z⟩;·exact Y
  .exact(F o h1).trans (h.cell o x Z)
 .exact(F _ (hr i hi)).trans (h.rcell i hi)
 .have e1:kr s' M.cl i=kr s M.cl i:=by unfold kr;split<;>simp[hl,hn,ho]
  have e2:nE s' M.cl i=nE s M.cl i:=by unfold nE;split<;>simp[hl,hn,ho]
  rw[e1,e2];exact Z3 (h.rows i hi) λg p=>hb g λe=>h.rowNe hi (e▸p)
 .exact⟨(h.trees x hx).1.keepB λk hk=>hb k (I k ((h.trees x hx).2 k hk)),(h.trees x hx).2⟩
 .exact⟨h.old.os,h.old.tape,h.old.output,Y4 h.old.size (Nat.le_of_eq y.symm),λk hk=>(hb k (I k (h.far k hk))).trans (h.old.block k hk)⟩
end
section
variable {C:RCtx}{M M':MRep}{w w' wA w1:kV}{s s':MSt}
def MAt.push{i g n cap:Nat}{cl':List CloR}(h:MAt C M w s)(hi:i<4)(hA:kW w wA)(hG:wA.grownBy w1 (M.row i).ownBlock)(m:(M.row i).ownBlock=some g\/w.heap.size<=g)(cV:g<w1.heap.size)
 (ae:w1.ownsRow 0 (nc i) (nF i) (.slice (some ⟨g,0,none⟩) n cap) (kr s' cl' i) (nE s' cl' i))
 (oA:∀j,j<4->j≠i->kr s' cl' j=kr s M.cl j/\nE s' cl' j=nE s M.cl j)(hH:s'.H=s.H)(gN:lR C s'=lR C s)
 (eo:s'.clos=cl'.map (CloR.clo C.N))(jJ:∀x∈cl',TreeAt w 0 x.a/\∀k∈x.a.blocks,¬M.has k) :
 ∃M',MAt C M' (w1.setCell ⟨C.mb,rowO i,none⟩ (.slice (some ⟨g,0,none⟩) n cap)) s'/\MFr M M' w (w1.setCell ⟨C.mb,rowO i,none⟩ (.slice (some ⟨g,0,none⟩) n cap)):=by
 obtain⟨F,Jt⟩:∃F:Value,F=.slice (some ⟨g,0,none⟩) n cap:=⟨_,rfl⟩
 rw[<-Jt]at ae ⊢;have U:∀k,F.ownBlock=some k->k=g:=λk hk=>by rw[Jt]at hk;simp only[Value.ownBlock,Option.some.injEq]at hk;exact hk.symm
 obtain⟨k1,X,k3,k4,k5,k6,Y,k8,k9,jB⟩:=Z4d F hA hG h.mbLt (h.rowNe hi) (h.rcell i hi);have p:=h.heap;have Md:g≠C.mb:=λe=>by
  rcases m with m|m;·exact h.rowNe hi (e▸m)
  .have:=h.mbLt;omega
 have mL:M.ρ g=none:=by
  rcases m with m|m;·exact(h.rfree i hi g m).1
  .exact p.fresh m
 have own:∀k,M.ρ k≠none->some k≠(M.row i).ownBlock:=λk hk e=>hk (h.rfree i hi k e.symm).1;have An:∀k,M.ρ k≠none->k≠C.mb->(w1.setCell ⟨C.mb,rowO i,none⟩ F).heap[k]?=w.heap[k]?:=λk hk hm=>k4 k (p.live k hk) hm (own k hk);have J:∀k r,M.ρ k=some r->r≠.hp->(w1.setCell ⟨C.mb,rowO i,none⟩ F).heap[k]?=w.heap[k]?:=λk r hk hr=>An k (by simp[hk]) (λe=>by rw[e,p.rhp]at hk;cases hk;exact hr rfl);have sD:∀j,j<4->j≠i->rowO j≠rowO i:=λj u y=>by
  revert y;have:=hi;match j,i,u,hi with
  |0,0,_,_=>exact λh=>absurd rfl h
  |0,1,_,_=>decide
  |0,2,_,_=>decide
  |0,3,_,_=>decide
  |1,0,_,_=>decide
  |1,1,_,_=>exact λh=>absurd rfl h
  |1,2,_,_=>decide
  |1,3,_,_=>decide
  |2,0,_,_=>decide
  |2,1,_,_=>decide
  |2,2,_,_=>exact λh=>absurd rfl h
  |2,3,_,_=>decide
  |3,0,_,_=>decide
  |3,1,_,_=>decide
  |3,2,_,_=>decide
  |3,3,_,_=>exact λh=>absurd rfl h
 have qm:rowO i≠0/\rowO i≠1/\rowO i∈[2,6,8,9]:=by
  match i,hi with
  |0,_=>decide
  |1,_=>decide
  |2,_=>decide
  |3,_=>decide
 have Fi:∀o x,(o,x)∈lR C s->o≠rowO i:=λo x hx=>by
  have h3:=qm.2.2;simp only[lR,List.mem_cons,Prod.mk.injEq,List.not_mem_nil,or_false]at hx h3;omega
 have eW:∀k,k<w.heap.size->¬M.has k->¬({M with row:=λj=>if j=i then F else M.row j,cl:=cl'}:MRep).has k:=by
  intro k hk hf hm;rcases hm with hm|⟨j,u,hm⟩;·exact hf (.inl hm)
  .by_cases y:j=i
   .subst y;simp only[if_true]at hm;have :=U k hm;subst this;rcases m with m|m;·exact hf (.inr ⟨j,hi,m⟩)
    .omega
   .simp only[y,if_false]at hm;exact hf (.inr ⟨j,u,hm⟩)
 have ac:∀k,k<w.heap.size->¬M.has k->(w1.setCell ⟨C.mb,rowO i,none⟩ F).heap[k]?=w.heap[k]?:=λk hk hf=>k4 k hk (λe=>hf (e▸h.mbHas)) (λe=>hf (.inr ⟨i,hi,e.symm⟩));have qn:(w1.setCell ⟨C.mb,rowO i,none⟩ F).heap.size=w1.heap.size:=Qb
 refine⟨{M with row:=λj=>if j=i then F else M.row j,cl:=cl'},⟨?_,λo x hx=>?_,λj u=>?_,λo=>(k3 o).trans (h.fz o),λj u=>?_,λj u k hk=>?_,λj O k u Z h1 I=>?_,eo,λx hx=>?_,?_,λk hk=>?_⟩,⟨k8,k9,jB,Y,ac,eW⟩⟩
 .rw[hH]
  exact⟨(X 0 (Ne.symm qm.1)).trans p.cellO,(X (0+1) (Ne.symm qm.2.1)).trans p.cellS,(k3 0).trans p.frO,(k3 (0+1)).trans p.frS,
   Z3 p.rowO λg m=>J g _ (p.rvo g m) PJ,Z3 p.rowS λg m=>J g _ (p.rvs g m) PJ,
   λi o ho=>⟨(J _ _ (p.rob i (getElem?_lt ho)) PJ).trans (p.obj i o ho).1,Z3 (p.obj i o ho).2 λg m=>J g _ (p.rpv i g (getElem?_lt ho) m) PJ⟩,
   λi o ho=>⟨(J _ _ (p.rsb i (getElem?_lt ho)) PJ).trans (p.scp i o ho).1,Z3 (p.scp i o ho).2 λg m=>J g _ (p.rnv i g (getElem?_lt ho) m) PJ⟩,
   p.rhp,p.rvo,p.rvs,p.rob,p.rpv,p.rsb,p.rnv,λb hb=>Y7 (p.live b hb) Y⟩
 .rw[gN]at hx;exact(X o (Fi o x hx)).trans (h.cell o x hx)
 .by_cases y:j=i
  .subst y;simp only[if_true];exact k1
  .simp only[y,if_false];exact(X _ (sD j u y)).trans (h.rcell j u)
 .by_cases y:j=i
  .subst y;simp only[if_true];exact Z3 ae λk hk=>k5 k (λe=>Md ((U k hk).symm.trans e))
  .simp only[y,if_false];rw[(oA j u y).1,(oA j u y).2];exact Z3 (h.rows j u) λk hk=>k4 k (h.rfree j u k hk).2 (λe=>h.rowNe u (e▸hk)) (λe=>y (h.rdist j i k u hi hk e.symm))
 .by_cases y:j=i
  .subst y;simp only[if_true]at hk;have:=U k hk;subst this;exact⟨mL,by rw[qn];exact cV⟩
  .simp only[y,if_false]at hk;exact⟨(h.rfree j u k hk).1,Y7 (h.rfree j u k hk).2 Y⟩
 .by_cases y:j=i
  .by_cases sE:O=i;·omega
   .subst y;simp only[if_true]at h1;simp only[sE,if_false]at I;have :=U k h1;subst this;rcases m with m|m;·exact h.rdist j O k u Z m I
    .have:=(h.rfree O Z k I).2;omega
  .by_cases sE:O=i
   .subst sE;simp only[if_true]at I;simp only[y,if_false]at h1;have :=U k I;subst this;rcases m with m|m;·exact h.rdist j O k u Z h1 m
    .have:=(h.rfree j u k h1).2;omega
   .simp only[y,if_false]at h1;simp only[sE,if_false]at I;exact h.rdist j O k u Z h1 I
 .have ht:=jJ x hx;exact Zwm
 .exact⟨k8.trans h.old.os,k9.trans h.old.tape,jB.trans h.old.output,Y4 h.old.size Y,λk hk=>(ac k (Y7 hk h.old.size) (h.far k hk)).trans (h.old.block k hk)⟩
 .exact eW k (Y7 hk h.old.size) (h.far k hk)
end
theorem UT:(Tryz.prog.info? 3).map (λi=>(i.zero,i.size,i.bytes))=some (some (vI 0),1,8):=by kernel_rfl
section
variable {C:RCtx}{M M':MRep}{w w' wA w1:kV}{s s':MSt}
def MAt.aft(h:MAt C M w s){i:Nat}(hi:i<4){wA w1:kV}(g:kW w wA)(m:wA.grownBy w1 (M.row i).ownBlock) :
 w1.heap[C.mb]?=w.heap[C.mb]?:=
 (m.block C.mb (Y7 h.mbLt g.size) (λe=>h.rowNe hi e.symm)).trans (g.block C.mb h.mbLt)
def Zri(h:MAt C M w s)(outer object owner:Int)(hn:s.H.scopes.length<1000000000)(ho:s.owners.length<1000000000) :
 kC 17 #[vP C.mb,vI outer,vI object,vI owner] w λe w'=>e=.returned (vI s.next)/\
  ∃M',MAt C M' w' (s.opens outer object owner)/\MFr M M' w w':=by
 obtain⟨i0,hi,aC,bo,bQ⟩:=info_parts UT;have hc:=h.rcell 2 Py;have hz:=h.fz 8;have m:=h.rows 2 Py;obtain⟨v,p⟩:=zX (M.row 2)
 obtain⟨xs,I⟩:=zX (nE s M.cl 2)
 obtain⟨n,y⟩:=zX s.owners.length
 rw[<-p]at hc m;rw[<-I,show kr s M.cl 2=n from y.symm]at m;simp only[nc,nF,rowO]at hc m;rw[<-y]at ho;have X:∀o (w1:kV),(w.alloc o).grownBy w1 v.ownBlock->vC w1 C.mb 8 v/\w1.frozen? ⟨C.mb,8,none⟩=false:=λo w1 F=>by
  have e:=h.aft (i:=2) Py ((Y2 w.heap.size w).alloc (Y0 _) o) (p▸F);exact⟨(Yb e).trans hc,(Yn e).trans hz⟩
 obtain⟨HA,J,Y,HX,HN,HO,HS⟩:=gw X h p I y m hn;clear h p I y m hn X;go_enter func17,ntmps17
 go_wp2_with (at_builtin;go_must (refine wpList_append_lies _ rfl (.tmp 13) (.tmp 15) 53 rfl 0 3 i0 (vI 0) 1 8 underlying53 hi aC bo bQ rfl Py v n xs rfl (HO.o.alloc _) ⟨w.heap.size,0,none⟩ 1 1 [vI owner] rfl rfl (cell_one_new _ _ _) PH Px PA Px Px (w.heap.size+1) PE ?_);intro g cap w1 Z O gM cV;obtain⟨jA,tD⟩:=HA.o _ _ O;have HG:=lh O;have HW:=lh Z;have HT:=lh gM;have uD:=lh cV;clear O Z gM cV)
 have F:(M.row 2).ownBlock=some g\/w.heap.size<=g:=by
  rw[<-Y.o];rcases HT.o with h|h;·exact .inl h
  .exact .inr Px
 have ae:w1.ownsRow 0 (nc 2) (nF 2) (.slice (some ⟨g,0,none⟩) (n+1) cap) (kr {s with owners:=s.owners++[owner]} M.cl 2) (nE {s with owners:=s.owners++[owner]} M.cl 2):=by
  show w1.ownsRow 0 3 1 _ (s.owners++[owner]).length ((s.owners++[owner]).map (Value.int .i64));rw[Yi,Yl,<-HN.o,show s.owners.map (Value.int .i64)=xs from HX.o.symm];exact HW.o
 obtain⟨M1,U,cZ⟩:=J.o.push (s':={s with owners:=s.owners++[owner]}) (cl':=M.cl) Py ((Y2 w.heap.size w).alloc (Y0 _) (.cells #[vI owner] 3)) (Y.o▸HG.o) F uD.o ae
  (fun j hj aG => by match j, hj with
   |0,_=>exact⟨rfl,rfl⟩
   |1,_=>exact⟨rfl,rfl⟩
   |2,_=>exact absurd rfl aG
   |3,_=>exact⟨rfl,rfl⟩) rfl rfl J.o.clos J.o.trees
 have H1:=lh U;have HF:=lh cZ;have HL:=lh (Zex U.heap outer object (by have:=HS.o;show s.H.scopes.length<_;omega));clear U cZ ae F;refine HL.o.mono ?_;rintro e w2⟨rfl,ρ',L',g1,f1⟩;obtain⟨a1,a2⟩:=H1.o.heapStep g1 f1;have HR:=lh a1;have HQ:=lh a2;clear a1 a2 g1 f1;go_wp2;go_ret;exact⟨rfl,_,HR.o,HF.o.trans HQ.o⟩
end
open Go.ChangeMaps Go.MapKept
def Us(l:List (Nat×Nat))(k:Nat):Option Nat:=(l.find? (λx=>x.1==k)).map (·.2)
def Zjn{l:List (Nat×Nat)}{k:Nat}(h:Us l k=none):∀x∈l,x.1≠k:=by
 unfold Us at h;rw[Option.map_eq_none_iff,List.find?_eq_none]at h;intro x hx e;exact h x hx (by simp[e])
def Z92{l:List (Nat×Nat)}{k v:Nat}(h:Us l k=some v):(k,v)∈l:=by
 unfold Us at h;rw[Option.map_eq_some_iff]at h;obtain⟨x,h1,m⟩:=h;have p:=List.mem_of_find?_eq_some h1;have g:=List.find?_some h1;simp only[beq_iff_eq]at g;obtain⟨a,b⟩:=x;simp only at m g;subst m g;exact p
def RCtx.N_eq(C:RCtx)(k:Nat):C.N k=match Us C.pl k with|some v=>(v:Int)|none=>-3:=by
 unfold RCtx.N Us;cases C.pl.find? (λx=>x.1==k)<;>rfl
def VE(l:List (Nat×Nat))(k:Nat):Value:=match Us l k with|some v=>.tuple #[vI v,.bool true]|none=>.tuple #[vI 0,.bool false]
def pj.lookup2{w:kV}{b k:Nat}{l:List (Nat×Nat)}(h:pj w b l)(hk:tK w k)(hx:∀x∈l,tK w x.1)(hd:(l.map (·.1)).Nodup) :
 (Instr.lookup 47 (.map (some b)) (zr k) true).run Tryz.prog w=.ok (VE l k) w:=by
 unfold VE;obtain⟨m,p,hb,he,hst⟩:=h;cases hn:Us l k with
 |some v=>
   obtain⟨j,hj⟩:=Zr5 (hx _ (Z92 hn)) he hx hd (Z92 hn);exact Zy6
 |none=>
   have hj:=Ziz hk he λx g=>⟨hx x g,Zjn hn x g⟩;exact Zy6
def pY(b:Addr):Value:=.iface 241 (.pointer (some b))
structure RCtx.Ok(C:RCtx):Prop where
 stop:C.w0.cell? ⟨0,0,none⟩=some (pY C.eb)
 stopB:0<C.w0.heap.size
 map:pj C.w0 C.nb C.pl
 cells:∀x∈C.pl,tK C.w0 x.1
 nd:(C.pl.map (·.1)).Nodup
def pj.bel{w w':kV}{b:Nat}{l:List (Nat×Nat)}(h:pj w b l)(g:kW w w'):pj w' b l:=by
 obtain⟨m,p,hb,he,hst⟩:=h;exact⟨m,p,(g.block b (Y1.1 hb).1).trans hb,he,hst⟩
def Z14(w:kV){ai:Array Oper}{g:List Oper}{o:Oper}{a:Act}{Q:Exit->Act->kV->Prop}
 (u:o.guard=none)(m x:Operand)(y:o.op=Op.lookup 47 m x true)(b k:Nat)(l:List (Nat×Nat))(r:Value)
 (hm:a.eval m=.map (some b))(hx:a.eval x=zr k)(h:pj w b l)(hk:tK w k)(hl:∀x∈l,tK w x.1)(hd:(l.map (·.1)).Nodup)
 (hr:VE l k=r)
 (F:wpList Tryz.prog ai Q g (a.put o.dst r) w) :
 wpList Tryz.prog ai Q (o::g) a w:=by
 refine wpList_plain u λI G=>?_;have p:=h.lookup2 hk hl hd;rw[hr]at p;unfold Oper.wp;simp[execOp,y,hm,hx,p,Result.andThen];exact G _ _ F
section
variable {C:RCtx}{M M':MRep}{w w' wA w1:kV}{s s':MSt}
theorem Zk6{B:Nat}{a:ATree}(h:TreeAt w B a):tK w a.b:=⟨_,_,h.blkOf⟩
def Z5o(g:C.Ok)(h:MAt C M w s){B:Nat}{a:ATree}(ha:TreeAt w B a) :
 kC 45 #[vP C.mb,a.ptr] w λe w'=>e=.returned (vI (C.N a.b))/\w'=w:=by
 have hc:=h.cell 7 (.map (some C.nb)) PI;have F:=h.fz 7;obtain⟨p,u,HL,y⟩:=en (g.map.bel h.old) (Zk6 ha) (λx hx=>(g.cells x hx).bel h.old) g.nd;rw[C.N_eq];unfold ATree.ptr;cases hn:Us C.pl a.b with
 |none=>
   have m:=lh hn;clear hn h ha g;go_enter func45,ntmps45
   go_wp2_with (at_lookup;go_must (refine Z14 _ rfl _ _ rfl C.nb a.b C.pl (.tuple #[vI 0,.bool false]) rfl rfl p.o u.o HL.o y.o (by unfold VE;rw[m.o]) ?_))
   go_ret;exact⟨rfl,rfl⟩
 |some v=>
   have m:=lh hn;clear hn h ha g;go_enter func45,ntmps45
   go_wp2_with (at_lookup;go_must (refine Z14 _ rfl _ _ rfl C.nb a.b C.pl (.tuple #[vI v,.bool true]) rfl rfl p.o u.o HL.o y.o (by unfold VE;rw[m.o]) ?_))
   go_ret;exact⟨rfl,rfl⟩
end
theorem Tx:(Tryz.prog.info? 77).map (λi=>(i.zero,i.size,i.bytes))=some (some (.agg #[vI 0,vI 0]),2,16):=by kernel_rfl
def Zje{H:LHeap}(hw:H.WF)(n:Int)(name:kB):H.find n name<H.scopes.length:=by
 unfold LHeap.find;have g:∀(f:Nat) (n:Int),H.findF name f n<H.scopes.length:=by
  intro f;induction f with
  |zero=>intro n;show(-1:Int)<_;omega
  |succ f p=>
    intro n;cases hs:H.scope? n with
    |none=>rw[Zfq hs];omega
    |some c=>
      rw[Zef hs];split
      .obtain⟨m,rfl,hm⟩:=LHeap.scope?_some hs;have:=(List.getElem?_eq_some_iff.1 hm).1;omega
      .exact p _
 exact g _ _
section
variable {C:RCtx}{M M':MRep}{w w' wA w1:kV}{s s':MSt}
def Zfs(F:C.Ok)(h:MAt C M w s)(O:s.H.WF)(af:s.owners.length=s.H.scopes.length){B:Nat}{a:ATree}(ha:TreeAt w B a)(sc:Int)(name:kB)(hn:s.seen.length<1000000000) :
 kC 117 #[vP C.mb,a.ptr,vI sc,.string name] w λe w'=>e=.returned (vI (s.H.find sc name))/\
  ∃M',MAt C M' w' (s.look (a.nt C.N) sc name)/\MFr M M' w w':=by
 have I:=Zds h.heap O sc name;have ay:=Zje O sc name;have py:s.look (a.nt C.N) sc name=if 0<=C.N a.b/\0<=s.H.find sc name then{s with seen:=s.seen++[(C.N a.b,s.owners.getD (s.H.find sc name).toNat 0)]}else s:=by unfold MSt.look;rw[Zcc]
 have u:=C.N_eq a.b;obtain⟨N,hN⟩:=zX (C.N a.b)
 rw[<-hN]at u py;rw[py];clear py hN;obtain⟨R,hR⟩:=zX (s.H.find sc name)
 rw[<-hR]at I ay ⊢;have I:=lh I;have aq:∀w1,kW w w1->vC w1 C.mb 7 (.map (some C.nb))/\Hid (pj w1 C.nb C.pl)/\Hid (tK w1 a.b)/\Hid (∀x∈C.pl,tK w1 x.1):=λw1 hB=>
  ⟨(h.below hB).cell 7 _ PI,(F.map.bel h.old).bel hB,ha.cellsOf.bel hB,λx hx=>((F.cells x hx).bel h.old).bel hB⟩
 obtain⟨HX,HD,HM⟩:=ds aq F.nd h;unfold ATree.ptr;cases hnu:Us C.pl a.b with
 |none=>
   have HR:=lh hnu;have HT:=lh (show VE C.pl a.b=.tuple #[vI 0,.bool false] by unfold VE;rw[hnu]);rw[hnu]at u;rw[Y3 (by have:N=-3:=u;omega)];clear hnu h ha F aq O af hR u;go_enter func117,ntmps117
   go_wp2_with fail
   refine I.o.mono ?_;rintro e w1⟨rfl,hB⟩;obtain⟨c7,U,X,HL⟩:=HX.o w1 hB;have y:=lh hB;clear hB;go_wp2_with (at_lookup;go_must (refine Z14 _ rfl _ _ rfl C.nb a.b C.pl _ rfl rfl U.o X.o HL.o HD.o HT.o ?_))
   go_ret;exact⟨rfl,_,HM.o.below y.o,.of_below y.o⟩
 |some v=>
   have HT:=lh (show VE C.pl a.b=.tuple #[vI v,.bool true] by unfold VE;rw[hnu]);by_cases h0:0<=R
   .have Ju:N=v:=by rw[hnu]at u;exact u
    rw[Y5 ⟨by omega,h0⟩];obtain⟨k,rfl⟩:∃k:Nat,R=k:=⟨R.toNat,by omega⟩
    have hk:k<s.owners.length:=Px
    obtain⟨i0,hi,aC,bo,bQ⟩:=info_parts Tx;obtain⟨m,Cx⟩:∃m,m=s.owners.getD (k:Int).toNat 0:=⟨_,rfl⟩
    rw[<-Cx];have Ao:s.owners[k]?=some m:=by rw[Cx,Int.toNat_natCast,List.getD_eq_getElem?_getD,Y6 hk,Option.getD_some]
    have Y:=h.rows 2 Py;have h8:=h.rcell 2 Py;obtain⟨vo,me⟩:=zX (M.row 2)
    rw[<-me]at Y h8;obtain⟨n0,hn0⟩:=zX s.owners.length
    simp only[nc,nF,kr,nE,rowO,<-hn0]at Y h8;rcases Z4 Y with⟨_,hz⟩|⟨p,c0,rfl,jA,lC,tG⟩;·omega
    have dk:w.cell? ⟨p,k,none⟩=some (vI m):=Zs Y (g:=p) rfl (by rw[Yg,Ao];rfl);have bX:k<n0:=Px
    have hS:=h.rows 1 Py;have h6:=h.rcell 1 Py;have Jv:=h.fz 6;obtain⟨J,Z⟩:=zX (M.row 1)
    obtain⟨xs,cD⟩:=zX (nE s M.cl 1)
    obtain⟨m0,Cy⟩:=zX s.seen.length
    rw[<-Z]at hS h6;simp only[nc,nF,rowO]at hS h6;rw[<-cD,show kr s M.cl 1=m0 from Cy.symm]at hS;rw[<-Cy]at hn;have jg:=h.mbLt;have dV:J.ownBlock≠some C.mb:=λe=>h.rowNe (i:=1) Py (Z▸e);have iV:J.ownBlock≠some p:=λe=>absurd (h.rdist 1 2 p Py Py (Z▸e) (by rw[<-me];rfl)) Py;obtain⟨HS,tM,Ap,oQ,ik,vF,OT,Aq⟩:=kw hS dV iV cD Cy Z Cx Ju
    clear hnu h ha F aq O af hR u Y hS Z cD Cy dV iV Cx Ao me hn0 Ju;go_enter func117,ntmps117
    go_wp2_with fail
    refine I.o.mono ?_;rintro e w1⟨rfl,hB⟩;obtain⟨c7,U,X,HL⟩:=HX.o w1 hB;have d6:vC w1 C.mb 6 J:=(hB.cell jg).trans h6;have d8:vC w1 C.mb 8 (.slice (some ⟨p,0,none⟩) n0 c0):=(hB.cell jg).trans h8;have Fj:w1.cell? ⟨p,k,none⟩=some (vI m):=(hB.cell tG).trans dk;have z6:w1.frozen? ⟨C.mb,6,none⟩=false:=(hB.frozen jg).trans Jv;have eT:C.mb<w1.heap.size:=Y7 jg hB.size;have mC:p<w1.heap.size:=Y7 tG hB.size
    have dp:=lh (Z3 HS.o λj hj=>hB.block j (Y9 HS.o j hj).2);have y:=lh hB;clear hB h6 h8 dk Jv;go_wp2_with (at_lookup;go_must (refine Z14 _ rfl _ _ rfl C.nb a.b C.pl _ rfl rfl U.o X.o HL.o HD.o HT.o ?_))
    refine Z7 [0,2,4,6,8,10,12,14,16,18,20,22,24,26,28,31,33] [17,18,19,20] (λW=>vC W C.mb 6 J/\vC W C.mb 8 (.slice (some ⟨p,0,none⟩) n0 c0)/\W.cell? ⟨p,k,none⟩=some (vI m)) ⟨d6,d8,Fj⟩ λ_=>?_;refine dU ?_
    iterate 15
     refine fa ?_
    refine Ze (λK hK=>?_);go_simp
    refine hK _ _ ⟨(Zc eT).trans d6,(Zc eT).trans d8,(Zc mC).trans Fj⟩ ?_;clear hK K;refine Ze (λK hK=>?_);refine step_append_lies _ PM (.tmp 37) (.tmp 47) 28 PM 0 77 i0 _ 2 16 underlying28 hi aC bo bQ rfl Py J m0 xs PM ((dp.o.alloc _).drew) ⟨w1.heap.size,0,none⟩ 1 1 [vI v,vI m] PM rfl (Ya (cs:=#[vI v,vI m]) (t:=77) (fr:=(0,0)) (Yq w1 _)) RG Py PA Px Px (w1.heap.size+1) PE ?_
    intro gg cap w2 aJ aw bZ ij;have cL:∀b o,b<w1.heap.size->J.ownBlock≠some b->w2.cell? ⟨b,o,none⟩=w1.cell? ⟨b,o,none⟩:=λb o ah aA=>(aw.cell_far ⟨b,o,none⟩ PB (λe=>aA e.symm)).trans (Zc ah);have kA:w2.frozen? ⟨C.mb,6,none⟩=false:=(aw.frozen_far ⟨C.mb,6,none⟩ PB (λe=>tM.o e.symm)).trans ((TG eT).trans z6);have e6:=(cL _ 6 eT tM.o).trans d6;refine hK _ _ ⟨e6,(cL _ 8 eT tM.o).trans d8,(cL _ k mC Ap.o).trans Fj⟩ ?_;clear hK K;simp only[Act.put,zA,zB,zC]
    obtain⟨HG,HW,iU,kG⟩:=en aw aJ bZ ij;clear aw aJ bZ ij cL;refine Z0 ?_;go_wp2;go_ret;refine⟨rfl,?_⟩;have dY:=HM.o.below y.o;have hg:(M.row 1).ownBlock=some gg\/w1.heap.size<=gg:=by
     rw[<-vF.o];exact VP
    have ae:w2.ownsRow 0 (nc 1) (nF 1) (.slice (some ⟨gg,0,none⟩) (m0+1) cap) (kr {s with seen:=s.seen++[(N,m)]} M.cl 1) (nE {s with seen:=s.seen++[(N,m)]} M.cl 1):=by
     have hw:=HW.o;rw[oQ.o,ik.o]at hw;rw[ik.o,Aq.o];simpa[nc,nF,kr,nE]using hw
    obtain⟨M2,aM,ap⟩:=dY.push (s':={s with seen:=s.seen++[(N,m)]}) (cl':=M.cl) Py (((Y2 w1.heap.size w1).alloc (Y0 _) (.cells #[vI v,vI m] 77)).drew) (vF.o▸HG.o) hg kG.o ae
     (fun j hj aG => by match j, hj with
      |0,_=>exact⟨rfl,rfl⟩
      |1,_=>exact absurd rfl aG
      |2,_=>exact⟨rfl,rfl⟩
      |3,_=>exact⟨rfl,rfl⟩) rfl rfl HM.o.clos dY.trees
    exact⟨M2,aM,(MFr.of_below y.o).trans ap⟩
   .rw[Y3 (by intro e;exact h0 e.2)];have h1:decide (0<=R)=false:=decide_eq_false h0;clear hnu h ha F aq O af hR u;go_enter func117,ntmps117
    go_wp2_with fail
    refine I.o.mono ?_;rintro e w1⟨rfl,hB⟩;obtain⟨c7,U,X,HL⟩:=HX.o w1 hB;have y:=lh hB;clear hB;go_wp2_with (at_lookup;go_must (refine Z14 _ rfl _ _ rfl C.nb a.b C.pl _ rfl rfl U.o X.o HL.o HD.o HT.o ?_))
    go_ret;exact⟨rfl,_,HM.o.below y.o,.of_below y.o⟩
end
def Zpr(m:Addr){α:Type}(enc:α->Value)(g:α->Bool)(Inv:kV->Prop)(p:Option Addr)(cap:Nat)(l:List α)(w:kV)(hn:l.length<=9223372036854775807)(dA:l.length<=cap)
 (hc:∀i x,l[i]?=some x->∃b off,p=some ⟨b,off,none⟩/\∀w1,Inv w1->w1.cell? ⟨b,off+i,none⟩=some (enc x))
 (hg:∀x∈l,∀w1,Inv w1->kC 69 #[enc x,.pointer (some m)] w1 λe w'=>e=.returned (.bool (g x))/\Inv w')(hI:Inv w) :
 kC 106 #[.slice p l.length cap,.func (.func 69) #[] #[.pointer (some m)]] w λe w'=>(∃z:Int,e=.returned (vI z)/\decide (z≥0)=l.any g)/\Inv w':=by
 exact AaZ
def Zxx(m:Addr){α:Type}(enc:α->Value)(g:α->Bool)(Inv:kV->Prop)(p:Option Addr)(cap:Nat)(l:List α)(w:kV)(hn:l.length<=9223372036854775807)(u:l.length<=cap)
 (hc:∀i x,l[i]?=some x->∃b off,p=some ⟨b,off,none⟩/\∀w1,Inv w1->w1.cell? ⟨b,off+i,none⟩=some (enc x))
 (y:∀x∈l,∀w1,Inv w1->kC 69 #[enc x,.pointer (some m)] w1 λe w'=>e=.returned (.bool (g x))/\Inv w')(hI:Inv w) :
 kC 68 #[.slice p l.length cap,.func (.func 69) #[] #[.pointer (some m)]] w λe w'=>e=.returned (.bool (l.any g))/\Inv w':=by
 have F:=lh (Zpr m enc g Inv p cap l w hn u hc y hI);clear hn u hc y hI;go_enter func68,ntmps68
 go_wp2_with fail
 refine F.o.mono ?_;rintro e w1⟨⟨z,rfl,G⟩,I⟩;have J:=lh G;clear G F;go_wp2;go_ret;refine⟨?_,I⟩;rw[<-J.o];rfl
def Zpg(m:Addr){α:Type}(enc:α->Value)(g:α->Bool)(Inv:kV->Prop)(p:Option Addr)(cap:Nat)(l:List α)(w:kV)(hn:l.length<=9223372036854775807)(dA:l.length<=cap)
 (hc:∀i x,l[i]?=some x->∃b off,p=some ⟨b,off,none⟩/\∀w1,Inv w1->w1.cell? ⟨b,off+i,none⟩=some (enc x))
 (hg:∀x∈l,∀w1,Inv w1->kC 71 #[enc x,.pointer (some m)] w1 λe w'=>e=.returned (.bool (g x))/\Inv w')(hI:Inv w) :
 kC 107 #[.slice p l.length cap,.func (.func 71) #[] #[.pointer (some m)]] w λe w'=>(∃z:Int,e=.returned (vI z)/\decide (z≥0)=l.any g)/\Inv w':=by
 exact AbT
def Zy1(m:Addr){α:Type}(enc:α->Value)(g:α->Bool)(Inv:kV->Prop)(p:Option Addr)(cap:Nat)(l:List α)(w:kV)(hn:l.length<=9223372036854775807)(u:l.length<=cap)
 (hc:∀i x,l[i]?=some x->∃b off,p=some ⟨b,off,none⟩/\∀w1,Inv w1->w1.cell? ⟨b,off+i,none⟩=some (enc x))
 (y:∀x∈l,∀w1,Inv w1->kC 71 #[enc x,.pointer (some m)] w1 λe w'=>e=.returned (.bool (g x))/\Inv w')(hI:Inv w) :
 kC 70 #[.slice p l.length cap,.func (.func 71) #[] #[.pointer (some m)]] w λe w'=>e=.returned (.bool (l.any g))/\Inv w':=by
 have F:=lh (Zpg m enc g Inv p cap l w hn u hc y hI);clear hn u hc y hI;go_enter func70,ntmps70
 go_wp2_with fail
 refine F.o.mono ?_;rintro e w1⟨⟨z,rfl,G⟩,I⟩;have J:=lh G;clear G F;go_wp2;go_ret;refine⟨?_,I⟩;rw[<-J.o];rfl
def Zra(m:Addr){α:Type}(enc:α->Value)(g:α->Bool)(Inv:kV->Prop)(p:Option Addr)(cap:Nat)(l:List α)(w:kV)(hn:l.length<=9223372036854775807)(dA:l.length<=cap)
 (hc:∀i x,l[i]?=some x->∃b off,p=some ⟨b,off,none⟩/\∀w1,Inv w1->w1.cell? ⟨b,off+i,none⟩=some (enc x))
 (hg:∀x∈l,∀w1,Inv w1->kC 110 #[enc x,.pointer (some m)] w1 λe w'=>e=.returned (.bool (g x))/\Inv w')(hI:Inv w) :
 kC 107 #[.slice p l.length cap,.func (.func 110) #[] #[.pointer (some m)]] w λe w'=>(∃z:Int,e=.returned (vI z)/\decide (z≥0)=l.any g)/\Inv w':=by
 exact AbT
def Abd(m:Addr){α:Type}(enc:α->Value)(g:α->Bool)(Inv:kV->Prop)(p:Option Addr)(cap:Nat)(l:List α)(w:kV)(hn:l.length<=9223372036854775807)(u:l.length<=cap)
 (hc:∀i x,l[i]?=some x->∃b off,p=some ⟨b,off,none⟩/\∀w1,Inv w1->w1.cell? ⟨b,off+i,none⟩=some (enc x))
 (y:∀x∈l,∀w1,Inv w1->kC 110 #[enc x,.pointer (some m)] w1 λe w'=>e=.returned (.bool (g x))/\Inv w')(hI:Inv w) :
 kC 70 #[.slice p l.length cap,.func (.func 110) #[] #[.pointer (some m)]] w λe w'=>e=.returned (.bool (l.any g))/\Inv w':=by
 have F:=lh (Zra m enc g Inv p cap l w hn u hc y hI);clear hn u hc y hI;go_enter func70,ntmps70
 go_wp2_with fail
 refine F.o.mono ?_;rintro e w1⟨⟨z,rfl,G⟩,I⟩;have J:=lh G;clear G F;go_wp2;go_ret;refine⟨?_,I⟩;rw[<-J.o];rfl
def Zqm{α:Type}(enc:α->Value)(g:α->Bool)(Inv:kV->Prop)(p:Option Addr)(cap:Nat)(l:List α)(w:kV)(hn:l.length<=9223372036854775807)(dA:l.length<=cap)
 (hc:∀i x,l[i]?=some x->∃b off,p=some ⟨b,off,none⟩/\∀w1,Inv w1->w1.cell? ⟨b,off+i,none⟩=some (enc x))
 (hg:∀x∈l,∀w1,Inv w1->kC 112 #[enc x] w1 λe w'=>e=.returned (.bool (g x))/\Inv w')(hI:Inv w) :
 kC 106 #[.slice p l.length cap,.func (.func 112) #[] #[]] w λe w'=>(∃z:Int,e=.returned (vI z)/\decide (z≥0)=l.any g)/\Inv w':=by
 exact AaZ
def Abp{α:Type}(enc:α->Value)(g:α->Bool)(Inv:kV->Prop)(p:Option Addr)(cap:Nat)(l:List α)(w:kV)(hn:l.length<=9223372036854775807)(m:l.length<=cap)
 (hc:∀i x,l[i]?=some x->∃b off,p=some ⟨b,off,none⟩/\∀w1,Inv w1->w1.cell? ⟨b,off+i,none⟩=some (enc x))
 (u:∀x∈l,∀w1,Inv w1->kC 112 #[enc x] w1 λe w'=>e=.returned (.bool (g x))/\Inv w')(hI:Inv w) :
 kC 68 #[.slice p l.length cap,.func (.func 112) #[] #[]] w λe w'=>e=.returned (.bool (l.any g))/\Inv w':=by
 have y:=lh (Zqm  enc g Inv p cap l w hn m hc u hI);clear hn m hc u hI;go_enter func68,ntmps68
 go_wp2_with fail
 refine y.o.mono ?_;rintro e w1⟨⟨z,rfl,F⟩,G⟩;have I:=lh F;clear F y;go_wp2;go_ret;refine⟨?_,G⟩;rw[<-I.o];rfl
def Zsb{s:kB}{l:kB}{t:List UInt8}(hl:l.toList=t)(h:s≠l):(s.toList==t)=false:=by
 have:(s.toList==l.toList)=false:=by rw[Ti];simp[Zg,h]
 rwa[hl]at this
theorem Znn:YL.toList=[101,118,97,108]:=by kernel_rfl
theorem Zbs:ZO.toList=[97,114,103,117,109,101,110,116,115]:=by kernel_rfl
def Z78(w:kV)(st ins:Bool)(s:kB) :
 kC 108 #[.agg #[.bool st,.bool ins],.string s] w λe w'=>e=.returned (.bool (CP st s))/\kW w w':=by
 have HB:=lh ((Y2 w.heap.size w).alloc (Y0 _) (.cells #[.bool st,.bool ins] 89));unfold CP;cases st;·exact Zq0
 .by_cases h1:s=YL
  .subst h1;rw[show Zg YL YL=true by simp[Zg]];unfold YL;exact Zq0
  .have m:=Zsb Znn h1;rw[show Zg s YL=false by simp[Zg,h1]];clear h1;by_cases g:s=ZO
   .subst g;rw[show Zg ZO ZO=true by simp[Zg]];unfold ZO;clear m;exact Zq0
   .have p:=Zsb Zbs g;rw[show Zg s ZO=false by simp[Zg,g]];clear g;exact Zq0
def Zo8(w:kV)(B:Nat)(a:ATree)(m:TreeAt w B a) :
 kC 113 #[a.ptr] w λe w'=>e=.returned (.bool (Tt a))/\w'=w:=by
 have c0:=m.c0;unfold Tt ATree.ptr;obtain⟨g,p⟩:=zX a.kind
 rw[<-p]at c0 ⊢;clear p m;rcases(by omega:g=3\/g=4\/g=5\/(g≠3/\g≠4/\g≠5))with h3|h3|h3|⟨h3,h4,h5⟩
 .subst h3;exact Zpd
 .subst h3;exact Zpd
 .subst h3;exact Zpd
 .have u:(g==3)=false:=by simpa using h3
  have y:(g==4)=false:=Rb
  have F:(g==5)=false:=RT
  rw[u,y,F];have I:(g !=3)=true:=RV
  have J:(g !=4)=true:=Rb
  have O:(g !=5)=true:=RT
  clear h3 h4 h5 u y F;exact Zpd
def Zlw(w:kV)(B:Nat)(a:ATree)(m:TreeAt w B a) :
 kC 112 #[a.ptr] w λe w'=>e=.returned (.bool (!Tt a))/\w'=w:=by
 have g:=lh (Zo8 w B a m);unfold ATree.ptr at g ⊢;obtain⟨u,p⟩:=zX (Tt a)
 rw[<-p]at g ⊢;clear m p;go_enter func112,ntmps112
 go_wp2_with fail
 refine g.o.mono ?_;rintro e w'⟨rfl,rfl⟩;go_wp2;go_ret;exact⟨rfl,rfl⟩
def Zlj(w:kV)(B c:Nat)(a:ATree)(s:kB)(g:TreeAt w B a)(hc:w.cell? ⟨c,0,none⟩=some a.ptr) :
 kC 110 #[.string s,vP c] w λe w'=>e=.returned (.bool (Zg s a.text))/\w'=w:=by
 have c1:=g.c1;unfold ATree.ptr at hc;rw[<-Ti];obtain⟨tx,m⟩:=zX a.text
 rw[<-m]at c1 ⊢;clear g m;go_enter func110,ntmps110
 go_wp2;go_ret;exact⟨rfl,rfl⟩
def Zku(w:kV)(B c:Nat)(x k:ATree)(hx:TreeAt w B x)(hk:TreeAt w B k)(hc:w.cell? ⟨c,0,none⟩=some k.ptr) :
 kC 69 #[x.ptr,vP c] w λe w'=>e=.returned (.bool (Zg x.text k.text))/\kW w w':=by
 have g:=hx.c1;have m:=hk.c1;unfold ATree.ptr at hc ⊢;rw[<-Ti];obtain⟨tx,p⟩:=zX x.text
 obtain⟨y,u⟩:=zX k.text
 rw[<-p]at g ⊢;rw[<-u]at m ⊢;clear hx hk p u;go_enter func69,ntmps69
 go_wp2_with fail
 refine Z7 [0,2,4,6,8,10,12,14] [8,9] (λW=>vC W x.b 1 (.string tx)/\vC W c 0 (vP k.b)/\vC W k.b 1 (.string y)) ⟨g,hc,m⟩ λ_=>?_;refine dU ?_
 iterate 8
  refine fa ?_
 refine Z0 ?_;go_wp2;go_ret;exact⟨rfl,(Y2 _ _).drew⟩
def Zjv(w:kV)(B c:Nat)(v:Value)(l:List kB)(s:kB)(ht:Zz w B v l)(hc:vC w c 0 v) :
 kC 71 #[.string s,vP c] w λe w'=>e=.returned (.bool (Lib.containsS l s))/\w'=w:=by
 have g:=lh (YC ht s);clear ht;go_enter func71,ntmps71
 go_wp2_with fail
 refine g.o.mono ?_;rintro e w'⟨rfl,rfl⟩;go_wp2;go_ret;exact⟨rfl,rfl⟩
