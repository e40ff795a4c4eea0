import Derived.Test.YtkjdnecemhilpaaGreatDoorJ12
import Derived.Test.YtkjdnecemhilpaaGreatDoorJ16
set_option maxRecDepth 100000
set_option maxHeartbeats 20000000
set_option linter.all false
namespace Go.Proofs.YtkjdnecemhilpaaGreatDoor
open Go Go.RowKit Go.Proofs.Tryz Tryz
def Zh6(w:kV)(text:kB)(g:3000<text.size) :
 kC 11 #[.string text] w λe w'=>e=.returned (.tuple #[.slice none 0 0,.iface 35 (vI 4)])/\w=w':=by
 have m:(3000:Int)<text.size:=Qe
 go_enter func11,ntmps11
 go_wp2;go_ret2
 exact⟨rfl,rfl⟩
def Ztf(w':kV)(base:Nat)(x:Value)(c p:Int):Prop:=(p=-1/\x=.iface 35 (vI c))\/∃q:Nat,p=q/\Zu0 w' base x c q
def Z5h(w:kV)(r:Except (Int×Int) Tree)(e:Ending)(w':kV):Prop:=
 kW w w'/\match r with
 | .ok t=>∃a,e=.returned (.tuple #[vP a.b,.nilIface])/\Got w w.heap.size w' a t
 | .error (c,p)=>∃x,e=.returned (.tuple #[.pointer none,x])/\Ztf w' w.heap.size x c p
def SN(w:kV):kV:=(w.alloc (.cells #[.pointer none] 22)).alloc (.cells #[.nilIface] 32)
def Z9t(w:kV):(SN w).heap[w.heap.size]?=some (.cells #[.pointer none] 22 (0,0))/\(SN w).heap[w.heap.size+1]?=some (.cells #[.nilIface] 32 (0,0))/\(SN w).heap.size=w.heap.size+2/\kW w (SN w):=by
 have g:kW w (w.alloc (.cells #[.pointer none] 22)):=(Y2 _ _).alloc (Y0 _) _;have m:Below (w.alloc (.cells #[.pointer none] 22)).heap.size (w.alloc (.cells #[.pointer none] 22)) (SN w):=(Y2 _ _).alloc (Y0 _) _;have o:(w.alloc (.cells #[.pointer none] 22)).heap.size=w.heap.size+1:=Qm
 refine⟨?_,?_,by simp[SN],g.alloc Qm _⟩;·rw[m.block w.heap.size Qe];exact Yq w _
 .have:=Yq (w.alloc (.cells #[.pointer none] 22)) (.cells #[.nilIface] 32);rw[o]at this;exact this
def Z71{R:Ending->kV->Prop}{tmps:Array Value}{W:kV}{pb eb:Nat}{x y:Value}(h2:tmps.getD 2 undef=(vP pb))(h3:tmps.getD 3 undef=(vP eb))
 (c1:vC W pb 0 x)(c2:vC W eb 0 y)(g:R (.returned (.tuple #[x,y])) W):Go.Leaves Tryz.prog Tryz.f7 tmps R [] .returning W:=by
 refine⟨.tuple #[x,y],?_,g⟩;have m:tmps[2]?.getD undef=(vP pb):=Sq
 have o:tmps[3]?.getD undef=(vP eb):=Sr
 simp[results,results7,go_sem,m,o,c1,c2]
def Z5h.bad{w w1 W:kV}{c p:Int}{x:Value}(hx:Ztf w1 (w.heap.size+2) x c p)(g:kW w w1)(m:∀k,k<w1.heap.size->k≠w.heap.size->k≠w.heap.size+1->W.heap[k]?=w1.heap[k]?)(hs:w1.heap.size<=W.heap.size)
 (ho:W.os=w1.os)(ht:W.tape=w1.tape)(u:W.output=w1.output):Z5h w (.error (c,p)) (.returned (.tuple #[.pointer none,x])) W:=by
 refine⟨⟨ho.trans g.os,ht.trans g.tape,u.trans g.output,Y4 g.size hs,λk hk=>(m k (Y7 hk g.size) Qe Qe).trans (g.block k hk)⟩,x,rfl,?_⟩;rcases hx with h|⟨q,hq,b,y,F,o⟩;·exact .inl h
 .exact .inr ⟨q,hq,b,y,by omega,(m b (Y1.1 o).1 Qe Qe).trans o⟩
def Zfb(w:kV)(text:kB)(c p:Int)(g:kC 11 #[.string text] (SN w) λe w'=>(∃x,e=.returned (.tuple #[.slice none 0 0,x])/\Ztf w' (SN w).heap.size x c p)/\Below (SN w).heap.size (SN w) w') :
 kC 7 #[.string text] w (Z5h w (.error (c,p))):=by
 obtain⟨I,J,O,U⟩:=Z9t w;obtain⟨K1,K2,K3,o⟩:=gp I J O U;obtain⟨w0,m⟩:=zX (SN w)
 rw[<-m]at g K1 K2 K3 o;unfold SN at m;have Y:=lh m;have g:=lh g;clear m I J O U;go_enter_defers func7,ntmps7
 go_wp2_with fail
 rw[<-Y.o];refine g.o.mono ?_;rintro e w1⟨⟨x,rfl,hx⟩,hB⟩;refine Zwx ?_;intro b1 b2 pb jG eb pF;rw[<-pF]at b2;rw[<-jG]at b1;rw[<-pF,<-jG];refine Zy3 ?_;intro c1 c2 z1 z2;have aH:pb≠eb:=Qe
 have mC:pb<w1.heap.size:=(Y1.1 b1).1;have fw:eb<w1.heap.size:=(Y1.1 b2).1;obtain⟨Z,HB,rC,sD,B1,B2⟩:=gw hx hB jG pF b1 b2;obtain⟨tx,u,Mx⟩:∃tx u,x=.iface tx u:=by
  rcases hx with⟨_,rfl⟩|⟨q,_,b,rfl,_⟩;·exact⟨_,_,rfl⟩
  .exact⟨_,_,rfl⟩
 subst Mx;clear hx hB jG pF b1 b2 g;go_wp2_with fail
 go_region
 go_wp2;refine Z71 (pb:=pb) (eb:=eb) rfl rfl (x:=.pointer none) (y:=.iface tx u) ?_ ?_ ?_;·unfold vC;go_simp
 .unfold vC;go_simp
 .refine Z5h.bad (w1:=w1) (by have :=Z.o;rwa[K3.o]at this) (o.o.trans (HB.o.mono o.o.size)) (λk hk X F=>?_) ?_ rfl rfl rfl
  .rw[<-rC.o]at X;rw[<-sD.o]at F;exact((Y8 _ _ _ _ F).trans (Y8 _ _ _ _ X)).trans (Y8 _ _ _ _ F)
  .show _<=(World.setCell _ _ _).heap.size;rw[Yf,Yf,Yf];exact Y0 _
def EO.mono{w:kV}{rb g:Nat}(h:EO w rb)(hr:rb<=g):EO w g:=by
 intro lv hl;obtain⟨b,off,cap,o,p,m⟩:=h lv hl;exact⟨b,off,cap,by omega,by omega,m⟩
def Rd.new{w1 w2:kV}{base rb:Nat}{ts:List Tok}{v:Value}(m:w1.ownsRow base 97 4 v ts.length (ts.flatMap Tok.cells))(hl:∃l e,ts=l++[e]/\e.kind=6/\∀t∈l,t.kind≠6)
 (hb:w2.heap[rb]?=some (.cells #[v,vI 0] 54 (0,0)))(hr:rb=w1.heap.size)(hk:∀k,k<w1.heap.size->v.ownBlock=some k->w2.heap[k]?=w1.heap[k]?)(hs:w1.heap.size<=w2.heap.size)(u:EO w2 rb):Rd w2 rb ts 0:=by
 have G:0<ts.length:=by obtain⟨l,e,h,_⟩:=hl;rw[h];simp
 rcases Z4 m with⟨_,o⟩|⟨g,cap,rfl,y,o,I⟩;·omega
 have p:g<w1.heap.size:=(m.lt g rfl).2;refine⟨g,0,cap,⟨hb,y,o,by omega,Y7 p hs,λk t j x hi F=>?_,hl,u⟩⟩;have:=SV (f:=Tok.cells) (λ_=>rfl) m (g:=g) rfl hi F;rw[Nat.zero_add];exact(Yb (hk g p rfl)).trans this
def Zlt(c:Int):IntKind.i64.wrap (IntKind.i64.wrap c+1)=IntKind.i64.wrap (c+1):=by
 simp only[IntKind.wrap_i64];omega
def Zeb(g:kV)(B mb:Nat)(a:ATree)(c:Nat)(W:kV):Prop:=
 TreeAt W B a/\W.heap[mb]?=some (.cells #[vI (IntKind.i64.wrap c)] 3 (0,0))/\W.os=g.os/\W.tape=g.tape/\W.output=g.output/\g.heap.size<=W.heap.size/\∀k,k<g.heap.size->k≠mb->W.heap[k]?=g.heap[k]?
def TE(c:Nat)(x:ATree):Bool×Nat:=(true,c+1)
mutual
theorem Zi4:∀(a:ATree) (c:Nat),tU TE a c=c+a.many
 | .mk b v k t n l,c=>by simp only[tU,TE,if_true,ATree.many];rw[Zf4 l];omega
theorem Zf4:∀(l:List ATree) (c:Nat),oB TE l c=c+x4 l
 | [],c=>by simp[oB,x4]
 |a::l,c=>by simp only[oB,x4];rw[Zi4 a,Zf4 l];omega
end
def Ztx(g:kV)(B mb:Nat)(a x:ATree)(F:mb<B\/mb∉a.blocks)(Y:mb<g.heap.size)(c:Nat)(w:kV)(hI:Zeb g B mb a c w) :
 kC 15 #[x.ptr,vP mb] w λe w'=>e=.returned (.bool (TE c x).1)/\Zeb g B mb a (TE c x).2 w':=by
 obtain⟨p,m,G,I,h5,J,O⟩:=hI;have c1:w.cell? ⟨mb,0,none⟩=some (vI (IntKind.i64.wrap c)):=by simp[vC,World.cell?,m]
 have Z:w.frozen? ⟨mb,0,none⟩=false:=by simp[World.frozen?,m]
 have hn:mb∉a.blocks:=by
  rcases F with h|h;·intro hx;have:=(p.has mb hx).1;omega
  .exact h
 obtain⟨y,u⟩:∃y,y=IntKind.i64.wrap (c:Int):=⟨_,rfl⟩
 rw[<-u]at c1;have H:Hid (Zeb g B mb a (c+1) (w.setCell ⟨mb,0,none⟩ (vI (IntKind.i64.wrap (y+1))))):=by
  refine lh ⟨p.keepB λk hk=>Y8 _ _ _ _ (λe=>hn (by have X:k=mb:=e;rw[<-X];exact hk)),?_,G,I,h5,by rw[Yf];exact J,λk hk U=>(Y8 _ _ _ _ U).trans (O k hk U)⟩;rw[show IntKind.i64.wrap (((c+1:Nat):Int))=IntKind.i64.wrap (y+1) by rw[u,Zlt];rfl];exact Zk (o:=0) _ m
 unfold ATree.ptr;clear p m G I h5 J O hn u F;go_enter func15,ntmps15
 go_wp2;go_ret;rw[show wrap64 (y+1)=IntKind.i64.wrap (y+1) by simp only[IntKind.wrap_i64,wrap64]];exact⟨rfl,H.o⟩
def AcI:Except (Int×Nat) (Tree×List Tok)->Except (Int×Int) Tree
 | .error (e,p)=>.error (e,p)
 | .ok (t,_)=>if 1500<t.many then .error (4,-1)else .ok t
def Zja(w:kV)(text:kB)(hm:text.size<=3000)(hW:Words w)(hL:EO w w.heap.size)(ts:List Tok)(ht:Vd text=.ok ts) :
 kC 7 #[.string text] w (Z5h w (Zm text)):=by
 obtain⟨k1,k2,k3,k4⟩:=Z9t w;obtain⟨w0,sC⟩:=zX (SN w)
 rw[<-sC]at k1 k2 k3 k4;have HC:=Zcm w0 text hm (hW.below k4);rw[ht]at HC;have HC:=lh HC;have HL:=lh hL;obtain⟨s1,s2,s3⟩:=Z9w ts 0 (Yh _) (Z66 ht);obtain⟨S1,S2,HM,HT⟩:=gp s1 s2 hm ht;refine D8 ?_;intro iT;obtain⟨r,hr⟩:∃r,Z0 (40*ts.length+31) (.stmts 1 []) 0 ts=some r:=by
  have:=Zjm (40*ts.length+31) (.stmts 1 []) 0 ts (by simp only[Job.rank];omega);cases h:Z0 (40*ts.length+31) (.stmts 1 []) 0 ts with
  |none=>exact absurd h this
  |some r=>exact⟨r,rfl⟩
 have ao:Zm text=AcI r:=by
  unfold Zm;rw[Y3 Qe,ht];simp only[hr];rcases r with⟨e,p⟩|⟨t,us⟩<;>rfl
 obtain⟨HR,cP,K1,K2,K3,K4⟩:=gw hr ao k1 k2 k3 k4;unfold SN at sC;have Fz:=lh sC;clear sC k1 k2 k3 k4 s1 s2 s3 ht hr ao hm hL hW;go_enter_defers func7,ntmps7
 go_wp2_with fail
 rw[<-Fz.o];refine HC.o.mono ?_;rintro e w1⟨⟨v,rfl,hv⟩,hB⟩;obtain⟨vp,vn,vc,gV⟩:∃p n c,v=.slice p n c:=by
  rcases Z4 hv with⟨J,_⟩|⟨g,cap,J,_⟩;·exact⟨_,_,_,J⟩
  .exact⟨_,_,_,J⟩
 subst gV;refine Zwx ?_;intro b1 b2 pb jG eb pF;rw[<-pF]at b2;rw[<-jG]at b1;rw[<-pF,<-jG];have aH:pb≠eb:=Qe
 refine Zy3 ?_;intro c1 c2 z1 z2;have mC:pb<w1.heap.size:=(Y1.1 b1).1;have fw:eb<w1.heap.size:=(Y1.1 b2).1;have O:=zT K4 hB;obtain⟨HV,rC,Z,Ph,Pi⟩:=gq hv jG pF b1 b2;obtain⟨w2,cj⟩:=zX ((w1.setCell ⟨eb,0,none⟩ .nilIface).alloc (.cells #[.slice vp vn vc,vI 0] 54))
 obtain⟨rb,ii⟩:=zX w1.heap.size
 have aL:(w1.setCell ⟨eb,0,none⟩ .nilIface).heap.size=rb:=by rw[ii];exact Yf ..
 have dp:w2.heap.size=rb+1:=by rw[cj];simp[ii]
 have cM:∀k,k<rb->k≠eb->w2.heap[k]?=w1.heap[k]?:=λk hk hn=>by
  rw[cj];exact(Below.heap_alloc _ _ _ (by rw[aL];exact hk)).trans (Y8 _ _ _ _ hn)
 have e2:w2.heap[eb]?=some (.cells #[.nilIface] 32 (0,0)):=by
  rw[cj];exact(Below.heap_alloc _ _ _ (by rw[aL];omega)).trans (Zk (o:=0) .nilIface b2)
 have r2:w2.heap[rb]?=some (.cells #[.slice vp vn vc,vI 0] 54 (0,0)):=by
  rw[cj,<-aL];exact Yq _ _
 have As:EO w2 rb:=by
  refine(HL.o.keep (w':=w2) λk hk=>?_).mono (by have:=O.o.size;omega);exact(cM k (by have:=O.o.size;omega) Qe).trans (O.o.block k hk)
 have JL:∀k,(Value.slice vp vn vc).ownBlock=some k->k≠eb:=λk hk=>by have:=(hv.lt k hk).1;rw[K3.o]at this;omega
 have JM:Rd w2 rb ts 0:=Rd.new hv S1.o r2 ii (λk hk aT=>cM k Qe (JL k aT)) Qe As;have hP:Pre w2 rb w2.heap.size 0 ts:=⟨JM,by omega,by omega,Y0 _,by have:=S2.o;have:=HM.o;omega⟩
 have HS:=Zq2 _ w2 rb w2.heap.size 0 ts r hP HR.o;simp only at HS;obtain⟨HS,At,E2,fA,qm,cH⟩:=gw HS cM e2 cj ii dp;have p2:=(At.o pb Qe aH).trans b1;have JN:=lh p2;have oy:=lh (show w2.os=w1.os/\w2.tape=w1.tape/\w2.output=w1.output by rw[cj];exact⟨rfl,rfl,rfl⟩);clear hB hv jG pF b1 b2 HC cj ii aL dp cM e2 r2 As JL JM hP p2;go_wp2_with fail
 rw[<-fA.o,<-qm.o];refine HS.o.mono ?_;have JO:Hid (∀k,k<w.heap.size->w2.heap[k]?=w.heap[k]?):=lh λk hk=>(At.o k (by have:=O.o.size;have:=qm.o;omega) (by have:=Z.o;omega)).trans (O.o.block k hk);have Y:Hid (w.heap.size+2<=rb):=lh (by have:=Z.o;have:=qm.o;omega);rcases r with⟨c,p⟩|⟨t,us⟩
 .rintro e m⟨⟨b,rfl,J,I⟩,X⟩;have p3:=(X.block pb R8 (by have :=Y.o;have :=rC.o;omega)).trans JN.o;have e3:=(X.block eb R8 (by have :=Y.o;have :=Z.o;omega)).trans E2.o;have H1:=lh J;have H2:=lh I;have U:=lh X;rw[cP.o];clear J I X HS;refine Zsn ?_;refine(Zfy pb eb b [] m _ _ p3 e3 aH).mono ?_;rintro e u' u⟨rfl,rfl,My⟩;obtain⟨q1,q2,q3,q4,q5,q6,q7⟩:=My;show Go.Leaves _ _ _ _ [] .returning _
  refine Z71 (pb:=pb) (eb:=eb) rfl rfl (x:=.pointer none) (y:=.iface 99 (vP b)) (by simp[vC,World.cell?,q1]) (by simp[vC,World.cell?,q2]) ?_;have ba:=U.o.size;have bo:b<m.heap.size:=(Y1.1 H2.o).1;have rl:=H1.o;refine⟨⟨?_,?_,?_,?_,λk hk=>?_⟩,.iface 99 (vP b),rfl,.inr ⟨p,rfl,b,rfl,?_,?_⟩⟩;·exact q3.trans (U.o.os.trans (oy.o.1.trans O.o.os))
  .exact q4.trans (U.o.tape.trans (oy.o.2.1.trans O.o.tape))
  .exact q5.trans (U.o.output.trans (oy.o.2.2.trans O.o.output))
  .have:=cH.o;have:=Y.o;omega
  .have I:=cH.o;have h3:=Y.o;have h4:=rC.o;have h5:=Z.o;exact(q7 k Qe Qe Qe).trans ((U.o.block k Qe Qe).trans (JO.o k hk))
  .have:=cH.o;have:=Y.o;omega
  .have I:=cH.o;have h3:=Y.o;have h4:=rC.o;have h5:=Z.o;exact(q7 b bo Qe Qe).trans H2.o
 .rintro e m⟨a,rfl,hG,bI,X⟩;have I:=cH.o;have h3:=Y.o;have h4:=rC.o;have h5:=Z.o;have h6:=qm.o;have p3:=(X.block pb Qe Qe).trans JN.o;have e3:=(X.block eb Qe Qe).trans E2.o;have ba:=X.size;obtain⟨mb,jn⟩:=zX m.heap.size
  obtain⟨u,fW⟩:=zX ((m.setCell ⟨pb,0,none⟩ (vP a.b)).alloc (.cells #[vI 0] 3))
  have cE:(m.setCell ⟨pb,0,none⟩ (vP a.b)).heap.size=mb:=by rw[jn];exact Yf ..
  have iZ:u.heap.size=mb+1:=by rw[fW];simp[jn]
  have vT:∀k,k<mb->k≠pb->u.heap[k]?=m.heap[k]?:=λk hk hn=>by
   rw[fW];exact(Below.heap_alloc _ _ _ (by rw[cE];exact hk)).trans (Y8 _ _ _ _ hn)
  have p4:u.heap[pb]?=some (.cells #[vP a.b] 22 (0,0)):=by
   rw[fW];exact(Below.heap_alloc _ _ _ (by rw[cE];omega)).trans (Zk (o:=0) _ p3)
  have m4:u.heap[mb]?=some (.cells #[vI 0] 3 (0,0)):=by
   rw[fW,<-cE];exact Yq _ _
  have Au:TreeAt u w2.heap.size a:=hG.at'.keepB λk hk=>vT k (by have:=(hG.new k hk).2;omega) (by have:=(hG.new k hk).1;omega);have hI:Zeb u w2.heap.size mb a 0 u:=⟨Au,m4,rfl,rfl,rfl,Y0 _,λ_ _ _=>rfl⟩
  have lI:mb∉a.blocks:=λhx=>by have:=(hG.new mb hx).2;omega
  have yb:=Zud ⟨mb,0,none⟩ (Zeb u w2.heap.size mb a) TE w2.heap.size a.many a (Y0 _) (λs W h=>h.1) (λx hx s W h=>Ztx u w2.heap.size mb a x (.inr lI) Qe s W h) 0 u hI;unfold ATree.ptr at yb;rw[Zi4,Nat.zero_add,<-U8,hG.tree]at yb;have yb:=lh yb;have c3:m.cell? ⟨pb,0,none⟩=some (.pointer none):=by simp[vC,World.cell?,p3]
  have z3:m.frozen? ⟨pb,0,none⟩=false:=by simp[World.frozen?,p3]
  have Mz:pb<m.heap.size:=Qe
  obtain⟨HG,U,E7,EZ,nB,Av,P4,E3⟩:=ld hG X fW jn iZ vT p4 e3;have nK:t.many<=6100:=by
   have:=Ziu _ _ _ _ _ _ HR.o;simp only[Job.base,mO]at this;have:=S2.o;have:=HM.o;omega
  have FA:=lh (show u.os=m.os/\u.tape=m.tape/\u.output=m.output by rw[fW];exact⟨rfl,rfl,rfl⟩);clear hG bI X fW jn cE iZ vT p4 m4 Au hI lI p3 e3 I h3 h4 h5 h6 ba HS;go_wp2_with fail
  rw[<-E7.o,<-EZ.o];refine yb.o.mono ?_;rintro e F⟨rfl,i1,i2,i3,i4,i5,i6,i7⟩;rw[show IntKind.i64.wrap ((t.many:Nat):Int)=(t.many:Int) by simp only[IntKind.wrap_i64];omega]at i2;have I:=cH.o;have h3:=Y.o;have h4:=rC.o;have h5:=Z.o;have h6:=qm.o;have h7:=nB.o;have h8:=EZ.o;have h9:=U.o.size;have p5:=(i7 pb Qe Qe).trans P4.o;have e5:=(i7 eb Qe Qe).trans ((Av.o eb Qe Qe).trans E3.o)
  have cm:F.cell? ⟨mb,0,none⟩=some (vI (t.many:Int)):=by simp[vC,World.cell?,i2]
  have cp:F.cell? ⟨pb,0,none⟩=some (vP a.b):=by simp[vC,World.cell?,p5]
  have ce:F.cell? ⟨eb,0,none⟩=some .nilIface:=by simp[vC,World.cell?,e5]
  have zp:F.frozen? ⟨pb,0,none⟩=false:=by simp[World.frozen?,p5]
  have ze:F.frozen? ⟨eb,0,none⟩=false:=by simp[World.frozen?,e5]
  have Pj:pb<F.heap.size:=Qe
  have Aw:eb<F.heap.size:=Qe
  have fin:Hid (∀(W:kV) (x y:Value),W=(F.setCell ⟨pb,0,none⟩ x).setCell ⟨eb,0,none⟩ y->kW w W/\Got w w.heap.size W a t):=by
   refine lh λW x y hW=>?_;have Pk:W.heap.size=F.heap.size:=by rw[hW,Yf,Yf]
   have FB:∀k,k≠pb->k≠eb->W.heap[k]?=F.heap[k]?:=λk J I=>by rw[hW];exact(Y8 _ _ _ _ I).trans (Y8 _ _ _ _ J)
   have Ax:∀k,k<mb->k≠pb->k≠eb->W.heap[k]?=m.heap[k]?:=λk hk J I=>(FB k J I).trans ((i7 k Qe Qe).trans (Av.o k Qe J));have o1:W.os=F.os/\W.tape=F.tape/\W.output=F.output:=by rw[hW];exact⟨rfl,rfl,rfl⟩
   refine⟨⟨?_,?_,?_,by omega,λk hk=>?_⟩,⟨HG.o.tree,?_,HG.o.nodup,λz hz=>?_⟩⟩;·exact o1.1.trans (i3.trans (FA.o.1.trans (U.o.os.trans (oy.o.1.trans O.o.os))))
   .exact o1.2.1.trans (i4.trans (FA.o.2.1.trans (U.o.tape.trans (oy.o.2.1.trans O.o.tape))))
   .exact o1.2.2.trans (i5.trans (FA.o.2.2.trans (U.o.output.trans (oy.o.2.2.trans O.o.output))))
   .exact(Ax k Qe Qe Qe).trans ((U.o.block k Qe Qe).trans (JO.o k hk))
   .refine(HG.o.at'.keepB λk hk=>?_).base Qe;have:=HG.o.new k hk;exact Ax k Qe Qe Qe
   .have:=HG.o.new z hz;omega
  have j0:Zm text=if 1500<t.many then .error (4,-1)else .ok t:=cP.o;clear i1 i2 i3 i4 i5 i6 i7 p5 e5 I h3 h4 h5 h6 h7 h8 h9 yb;by_cases eR:1500<t.many
  .rw[Y5 eR]at j0;have hb:decide ((t.many:Int)>1500)=true:=by simp;omega
   have HA:=lh j0;clear j0 eR;go_wp2_with fail
   refine Zsn ?_;refine(Zc0 ⟨pb,0,none⟩ ⟨eb,0,none⟩ _).mono ?_;rintro e u' w6⟨rfl,rfl,rfl⟩;show Go.Leaves _ _ _ _ [] .returning _;refine Z71 (pb:=pb) (eb:=eb) rfl rfl (x:=.pointer none) (y:=.iface 35 (vI 4)) (by unfold vC;go_simp) (by unfold vC;go_simp) ?_;rw[HA.o];have hf:=fin.o _ (.pointer none) (.iface 35 (vI 4)) rfl;exact⟨hf.1,_,rfl,.inl ⟨rfl,rfl⟩⟩
  .rw[Y3 eR]at j0;have hb:decide ((t.many:Int)>1500)=false:=by simp;omega
   have HA:=lh j0;clear j0 eR;go_wp2_with fail
   refine Zsn ?_;refine(Zc0 ⟨pb,0,none⟩ ⟨eb,0,none⟩ _).mono ?_;rintro e u' w6⟨rfl,rfl,rfl⟩;show Go.Leaves _ _ _ _ [] .returning _;refine Z71 (pb:=pb) (eb:=eb) rfl rfl (x:=(vP a.b)) (y:=.nilIface) (by unfold vC;go_simp) (by unfold vC;go_simp) ?_;rw[HA.o];have hf:=fin.o _ (vP a.b) (.nilIface) rfl;exact⟨hf.1,a,rfl,hf.2⟩
def Zac(w:kV)(text:kB)(u:Words w)(F:EO w w.heap.size) :
 kC 7 #[.string text] w (Z5h w (Zm text)):=by
 have I:=(Z9t w).2.2.2;by_cases g:3000<text.size
 .have e:Zm text= .error (4,-1):=by unfold Zm;rw[Y5 g]
  rw[e];exact Zfb w text 4 (-1) ((Zh6 (SN w) text g).mono λe w' ⟨m,o⟩=>by subst m;subst o;exact⟨⟨_,rfl,.inl ⟨rfl,rfl⟩⟩,Y2 _ _⟩)
 .cases ht:Vd text with
  |ok ts=>exact Zja w text Qe u F ts ht
  |error x=>
    obtain⟨c,p⟩:=x;have e:Zm text=.error (c,(p:Int)):=by unfold Zm;rw[Y3 g,ht]
    rw[e];have y:=Zcm (SN w) text Qe (u.below I);rw[ht]at y;exact Zfb w text c p (y.mono λe w' ⟨⟨x,m,o⟩,J⟩=>⟨⟨x,m,.inr ⟨p,rfl,o⟩⟩,J⟩)
structure RCtx where
 w0:kV
 mb:Nat
 nb:Nat
 eb:Addr
 pl:List (Nat×Nat)
def RCtx.N(C:RCtx)(b:Nat):Int:=match C.pl.find? (λx=>x.1==b)with|some x=>x.2|none=>-3
structure CloR where
 a:ATree
 scope:Int
 strict:Bool
def CloR.cells(c:CloR):List Value:=[c.a.ptr,vI c.scope,.bool c.strict]
def CloR.clo(N:Nat->Int)(c:CloR):Clo:=⟨c.a.nt N,c.scope,c.strict⟩
structure MRep where
 ρ:Nat->Option Role
 L:HL
 row:Nat->Value
 cl:List CloR
def oj:Nat->TypeId
 |0=>9
 |1=>209
 |2=>3
 |_=>149
def ov:Nat->Nat
 |0=>1
 |1=>2
 |2=>1
 |_=>3
def rowO:Nat->Nat
 |0=>2
 |1=>6
 |2=>8
 |_=>9
def ky(s:MSt)(cl:List CloR):Nat->Nat
 |0=>s.log.length
 |1=>s.seen.length
 |2=>s.owners.length
 |_=>cl.length
def ow(s:MSt)(cl:List CloR):Nat->List Value
 |0=>s.log.map Value.string
 |1=>s.seen.flatMap λp=>[vI p.1,vI p.2]
 |2=>s.owners.map (Value.int .i64)
 |_=>cl.flatMap CloR.cells
def MRep.has(M:MRep)(b:Nat):Prop:=M.ρ b≠none\/∃i,i<4/\(M.row i).ownBlock=some b
def ms(C:RCtx)(s:MSt):List (Nat×Value):=
 [(3,vI 0),(4,.string ⟨#[]⟩),(5,vI s.steps),(7,.map (some C.nb)),(10,vI s.glob),(11,vI s.outer),(12,vI s.top),(13,vI s.calls),(14,vI s.last.kind),(15,vI s.last.n),(16,.string s.last.s)]
structure MAt(C:RCtx)(M:MRep)(w:kV)(s:MSt):Prop where
 heap:HeapAt M.ρ w C.mb 0 M.L s.H
 cell:∀o x,(o,x)∈ms C s->w.cell? ⟨C.mb,o,none⟩=some x
 rcell:∀i,i<4->w.cell? ⟨C.mb,rowO i,none⟩=some (M.row i)
 fz:∀o,w.frozen? ⟨C.mb,o,none⟩=false
 rows:∀i,i<4->w.ownsRow 0 (oj i) (ov i) (M.row i) (ky s M.cl i) (ow s M.cl i)
 rfree:∀i,i<4->∀g,(M.row i).ownBlock=some g->M.ρ g=none/\g<w.heap.size
 rdist:∀i j g,i<4->j<4->(M.row i).ownBlock=some g->(M.row j).ownBlock=some g->i=j
 clos:s.clos=M.cl.map (CloR.clo C.N)
 trees:∀x∈M.cl,TreeAt w 0 x.a/\∀k∈x.a.blocks,¬M.has k
 old:Below C.w0.heap.size C.w0 w
 far:∀k,k<C.w0.heap.size->¬M.has k
structure MFr(M M':MRep)(w w':kV):Prop where
 os:w'.os=w.os
 tape:w'.tape=w.tape
 output:w'.output=w.output
 size:w.heap.size<=w'.heap.size
 block:∀k,k<w.heap.size->¬M.has k->w'.heap[k]?=w.heap[k]?
 free:∀k,k<w.heap.size->¬M.has k->¬M'.has k
section
variable {C:RCtx}{M M' sE:MRep}{w w' dN:kV}{s s':MSt}
theorem MFr.refl(M:MRep)(w:kV):MFr M M w w:=⟨rfl,rfl,rfl,Y0 _,λ_ _ _=>rfl,λ_ _ h=>h⟩
theorem MFr.trans(a:MFr M M' w w')(b:MFr M' sE w' dN):MFr M sE w dN:=
 ⟨b.os.trans a.os, b.tape.trans a.tape, b.output.trans a.output, Y4 a.size b.size,
  λk hk hf=>(b.block k (Y7 hk a.size) (a.free k hk hf)).trans (a.block k hk hf),
  λk hk hf=>b.free k (Y7 hk a.size) (a.free k hk hf)⟩
theorem MFr.of_below(g:kW w w'):MFr M M w w':=⟨g.os,g.tape,g.output,g.size,λk hk _=>g.block k hk,λ_ _ h=>h⟩
theorem MFr.drew(a:MFr M M' w w'):MFr M M' w w'.drew:=⟨a.os,a.tape,a.output,a.size,a.block,a.free⟩
def MAt.lt(h:MAt C M w s){k:Nat}(hk:M.has k):k<w.heap.size:=by
 rcases hk with hk|⟨i,hi,hk⟩;·exact h.heap.live k hk
 .exact(h.rfree i hi k hk).2
theorem MAt.mbHas(h:MAt C M w s):M.has C.mb:=.inl (by simp[h.heap.rhp])
theorem MAt.mbLt(h:MAt C M w s):C.mb<w.heap.size:=h.heap.hbLt
theorem MAt.fresh(h:MAt C M w s){k:Nat}(hk:w.heap.size<=k):¬M.has k:=λg=>by have:=h.lt g;omega
def MAt.rowNe(h:MAt C M w s){i:Nat}(hi:i<4):(M.row i).ownBlock≠some C.mb:=λe=>by
 have:=(h.rfree i hi _ e).1;rw[h.heap.rhp]at this;cases this
theorem MAt.keep(h:MAt C M w s)(hs:w.heap.size<=w'.heap.size)(hk:∀k,k<w.heap.size->w'.heap[k]?=w.heap[k]?)(p:w'.os=w.os)(u:w'.tape=w.tape)(y:w'.output=w.output):MAt C M w' s where
 heap:=h.heap.keep hs λb hb=>hk b (h.heap.live b hb)
 cell o x hx:=(Yb (hk _ h.mbLt)).trans (h.cell o x hx)
 rcell i hi:=(Yb (hk _ h.mbLt)).trans (h.rcell i hi)
 fz o:=(Yn (hk _ h.mbLt)).trans (h.fz o)
 rows i hi:=Z3 (h.rows i hi) λg m=>hk g (h.rfree i hi g m).2
 rfree i hi g m:=⟨(h.rfree i hi g m).1,by have:=(h.rfree i hi g m).2;omega⟩
 rdist:=h.rdist
 clos:=h.clos
 trees x hx:=⟨(h.trees x hx).1.keepB λk hb=>hk k ((h.trees x hx).1.has k hb).2,(h.trees x hx).2⟩
 old:=⟨p.trans h.old.os,u.trans h.old.tape,y.trans h.old.output,Y4 h.old.size hs,λk hb=>(hk k (Y7 hb h.old.size)).trans (h.old.block k hb)⟩
 far:=h.far
theorem MAt.below(h:MAt C M w s)(g:kW w w'):MAt C M w' s:=h.keep g.size g.block g.os g.tape g.output
theorem MAt.drew(h:MAt C M w s):MAt C M w.drew s:=h.keep (Y0 _) (λ_ _=>rfl) rfl rfl rfl
def MAt.heapStep{ρ':Nat->Option Role}{p:HL}{u:LHeap}(h:MAt C M w s)(g:HeapAt ρ' w' C.mb 0 p u)(f:Fr M.ρ ρ' C.mb 0 w w') :
 MAt C {M with ρ:=ρ',L:=p} w' (s.setH u)/\MFr M {M with ρ:=ρ',L:=p} w w':=by
 have eW:∀k,k<w.heap.size->¬M.has k->¬({M with ρ:=ρ',L:=p}:MRep).has k:=λk hk hf m=>by
  have hr:M.ρ k=none:=by
   cases hr:M.ρ k with
   |none=>rfl
   |some r=>exact absurd (.inl Rr) hf
  rcases m with m|m;·exact m (f.role k hk hr)
  .exact hf (.inr m)
 have ac:∀k,k<w.heap.size->¬M.has k->w'.heap[k]?=w.heap[k]?:=λk hk hf=>f.block k hk (by
  cases hr:M.ρ k with
  |none=>rfl
  |some r=>exact absurd (.inl Rr) hf)
 have y:∀o x,(o,x)∈ms C s->o≠0/\o≠0+1:=λo x hx=>by
  simp only[ms,List.mem_cons,Prod.mk.injEq,List.not_mem_nil,or_false]at hx;omega
 refine⟨⟨g,λo x hx=>?_,λi hi=>?_,λo=>(f.frz o).trans (h.fz o),λi hi=>?_,λi hi k hk=>?_,h.rdist,h.clos,λx hx=>?_,?_,λk hk=>?_⟩,⟨f.os,f.tape,f.output,f.size,ac,eW⟩⟩;·exact(f.cell o (y o x hx).1 (y o x hx).2).trans (h.cell o x hx)
 .have :rowO i≠0/\rowO i≠0+1:=by unfold rowO;split<;>decide
  exact(f.cell _ this.1 this.2).trans (h.rcell i hi)
 .exact Z3 (h.rows i hi) λk hk=>f.block k (h.rfree i hi k hk).2 (h.rfree i hi k hk).1
 .exact⟨f.role k (h.rfree i hi k hk).2 (h.rfree i hi k hk).1,Y7 (h.rfree i hi k hk).2 f.size⟩
 .have ht:=h.trees x hx;exact Zw5
 .exact⟨f.os.trans h.old.os,f.tape.trans h.old.tape,f.output.trans h.old.output,Y4 h.old.size f.size,λk hk=>(ac k (Y7 hk h.old.size) (h.far k hk)).trans (h.old.block k hk)⟩
 .exact eW k (Y7 hk h.old.size) (h.far k hk)
def MAt.scalar{j:Nat}{v:Value}(h:MAt C M w s)(hj:3<=j)(O:s'.H=s.H)(hl:s'.log=s.log)(hn:s'.seen=s.seen)(ho:s'.owners=s.owners)(hc:s'.clos=s.clos)
 (hr:∀i,i<4->rowO i≠j)(U:∃x,w.cell? ⟨C.mb,j,none⟩=some x)(hx:∀o x,(o,x)∈ms C s'->o=j/\x=v\/o≠j/\(o,x)∈ms C s) :
 MAt C M (w.setCell ⟨C.mb,j,none⟩ v) s'/\MFr M M w (w.setCell ⟨C.mb,j,none⟩ v):=by
 have hb:∀k,k≠C.mb->(w.setCell ⟨C.mb,j,none⟩ v).heap[k]?=w.heap[k]?:=λk hk=>Y8 _ _ _ _ hk;have y:(w.setCell ⟨C.mb,j,none⟩ v).heap.size=w.heap.size:=QJ
 have I:∀k,¬M.has k->k≠C.mb:=λk hk e=>hk (e▸h.mbHas);obtain⟨x0,X⟩:=U;have F:∀o,o≠j->(w.setCell ⟨C.mb,j,none⟩ v).cell? ⟨C.mb,o,none⟩=w.cell? ⟨C.mb,o,none⟩:=λo ho=>Yr _ _ _ _ (by intro e;cases e;exact ho rfl);have Y:(w.setCell ⟨C.mb,j,none⟩ v).cell? ⟨C.mb,j,none⟩=some v:=World.cell?_setCell_same _ _ _ X;have J:∀o,(w.setCell ⟨C.mb,j,none⟩ v).frozen? ⟨C.mb,o,none⟩=w.frozen? ⟨C.mb,o,none⟩:=λo=>World.frozen?_setCell _ _ _ _;have m:=h.heap
 have u:∀k r,M.ρ k=some r->r≠.hp->k≠C.mb:=λk r hk hr e=>by rw[e,m.rhp]at hk;cases hk;exact hr rfl
 refine⟨⟨?_,λo x ho=>?_,λi hi=>?_,λo=>(J o).trans (h.fz o),λi hi=>?_,λi hi g p=>by rw[y];exact h.rfree i hi g p,h.rdist,hc.trans h.clos,λx hx=>?_,?_,h.far⟩,⟨rfl,rfl,rfl,Nat.le_of_eq y.symm,λk _ hk=>hb k (I k hk),λ_ _ hk=>hk⟩⟩
 .rw[O]
  exact⟨(F 0 Qe).trans m.cellO,(F (0+1) Qe).trans m.cellS,(J 0).trans m.frO,(J (0+1)).trans m.frS,
   Z3 m.rowO λg p=>hb g (u g _ (m.rvo g p) Qr),Z3 m.rowS λg p=>hb g (u g _ (m.rvs g p) Qr),
   λi o ho=>⟨(hb _ (u _ _ (m.rob i (getElem?_lt ho)) Qr)).trans (m.obj i o ho).1,Z3 (m.obj i o ho).2 λg p=>hb g (u g _ (m.rpv i g (getElem?_lt ho) p) Qr)⟩,
   λi o ho=>⟨(hb _ (u _ _ (m.rsb i (getElem?_lt ho)) Qr)).trans (m.scp i o ho).1,Z3 (m.scp i o ho).2 λg p=>hb g (u g _ (m.rnv i g (getElem?_lt ho) p) Qr)⟩,
   m.rhp,m.rvo,m.rvs,m.rob,m.rpv,m.rsb,m.rnv,λb hb=>by rw[y];exact m.live b hb⟩
 .rcases hx o x ho with⟨rfl,rfl⟩|⟨Z,h2⟩;·exact Y
  .exact(F o Z).trans (h.cell o x h2)
 .exact(F _ (hr i hi)).trans (h.rcell i hi)
 .have e1:ky s' M.cl i=ky s M.cl i:=by unfold ky;split<;>simp[hl,hn,ho]
  have e2:ow s' M.cl i=ow s M.cl i:=by unfold ow;split<;>simp[hl,hn,ho]
  rw[e1,e2];exact Z3 (h.rows i hi) λg p=>hb g λe=>h.rowNe hi (e▸p)
 .exact⟨(h.trees x hx).1.keepB λk hk=>hb k (I k ((h.trees x hx).2 k hk)),(h.trees x hx).2⟩
 .exact⟨h.old.os,h.old.tape,h.old.output,Y4 h.old.size (Nat.le_of_eq y.symm),λk hk=>(hb k (I k (h.far k hk))).trans (h.old.block k hk)⟩
end
section
variable {C:RCtx}{M M':MRep}{w w' wA w1:kV}{s s':MSt}
def MAt.push{i g n cap:Nat}{cl':List CloR}(h:MAt C M w s)(hi:i<4)(hA:kW w wA)(hG:wA.grownBy w1 (M.row i).ownBlock)(m:(M.row i).ownBlock=some g\/w.heap.size<=g)(cX:g<w1.heap.size)
 (ae:w1.ownsRow 0 (oj i) (ov i) (.slice (some ⟨g,0,none⟩) n cap) (ky s' cl' i) (ow s' cl' i))
 (oA:∀j,j<4->j≠i->ky s' cl' j=ky s M.cl j/\ow s' cl' j=ow s M.cl j)(hH:s'.H=s.H)(iX:ms C s'=ms C s)
 (gd:s'.clos=cl'.map (CloR.clo C.N))(mg:∀x∈cl',TreeAt w 0 x.a/\∀k∈x.a.blocks,¬M.has k) :
 ∃M',MAt C M' (w1.setCell ⟨C.mb,rowO i,none⟩ (.slice (some ⟨g,0,none⟩) n cap)) s'/\MFr M M' w (w1.setCell ⟨C.mb,rowO i,none⟩ (.slice (some ⟨g,0,none⟩) n cap)):=by
 obtain⟨F,JP⟩:∃F:Value,F=.slice (some ⟨g,0,none⟩) n cap:=⟨_,rfl⟩
 rw[<-JP]at ae ⊢;have Y:∀k,F.ownBlock=some k->k=g:=λk hk=>by rw[JP]at hk;simp only[Value.ownBlock,Option.some.injEq]at hk;exact hk.symm
 obtain⟨k1,Z,k3,k4,k5,k6,k7,k8,k9,jF⟩:=Z4d F hA hG h.mbLt (h.rowNe hi) (h.rcell i hi);have p:=h.heap;have MA:g≠C.mb:=λe=>by
  rcases m with m|m;·exact h.rowNe hi (e▸m)
  .have:=h.mbLt;omega
 have mP:M.ρ g=none:=by
  rcases m with m|m;·exact(h.rfree i hi g m).1
  .exact p.fresh m
 have own:∀k,M.ρ k≠none->some k≠(M.row i).ownBlock:=λk hk e=>hk (h.rfree i hi k e.symm).1;have Az:∀k,M.ρ k≠none->k≠C.mb->(w1.setCell ⟨C.mb,rowO i,none⟩ F).heap[k]?=w.heap[k]?:=λk hk I=>k4 k (p.live k hk) I (own k hk);have U:∀k r,M.ρ k=some r->r≠.hp->(w1.setCell ⟨C.mb,rowO i,none⟩ F).heap[k]?=w.heap[k]?:=λk r hk hr=>Az k (by simp[hk]) (λe=>by rw[e,p.rhp]at hk;cases hk;exact hr rfl);have sF:∀j,j<4->j≠i->rowO j≠rowO i:=λj u y=>by
  revert y;have:=hi;match j,i,u,hi with
  |0,0,_,_=>exact λh=>absurd rfl h
  |0,1,_,_=>decide
  |0,2,_,_=>decide
  |0,3,_,_=>decide
  |1,0,_,_=>decide
  |1,1,_,_=>exact λh=>absurd rfl h
  |1,2,_,_=>decide
  |1,3,_,_=>decide
  |2,0,_,_=>decide
  |2,1,_,_=>decide
  |2,2,_,_=>exact λh=>absurd rfl h
  |2,3,_,_=>decide
  |3,0,_,_=>decide
  |3,1,_,_=>decide
  |3,2,_,_=>decide
  |3,3,_,_=>exact λh=>absurd rfl h
 have qn:rowO i≠0/\rowO i≠1/\rowO i∈[2,6,8,9]:=by
  match i,hi with
  |0,_=>decide
  |1,_=>decide
  |2,_=>decide
  |3,_=>decide
 have FC:∀o x,(o,x)∈ms C s->o≠rowO i:=λo x hx=>by
  have h3:=qn.2.2;simp only[ms,List.mem_cons,Prod.mk.injEq,List.not_mem_nil,or_false]at hx h3;omega
 have eW:∀k,k<w.heap.size->¬M.has k->¬({M with row:=λj=>if j=i then F else M.row j,cl:=cl'}:MRep).has k:=by
  intro k hk hf I;rcases I with I|⟨j,u,I⟩;·exact hf (.inl I)
  .by_cases y:j=i
   .subst y;simp only[if_true]at I;have :=Y k I;subst this;rcases m with m|m;·exact hf (.inr ⟨j,hi,m⟩)
    .omega
   .simp only[y,if_false]at I;exact hf (.inr ⟨j,u,I⟩)
 have ac:∀k,k<w.heap.size->¬M.has k->(w1.setCell ⟨C.mb,rowO i,none⟩ F).heap[k]?=w.heap[k]?:=λk hk hf=>k4 k hk (λe=>hf (e▸h.mbHas)) (λe=>hf (.inr ⟨i,hi,e.symm⟩));have qo:(w1.setCell ⟨C.mb,rowO i,none⟩ F).heap.size=w1.heap.size:=QJ
 refine⟨{M with row:=λj=>if j=i then F else M.row j,cl:=cl'},⟨?_,λo x hx=>?_,λj u=>?_,λo=>(k3 o).trans (h.fz o),λj u=>?_,λj u k hk=>?_,λj X k u CQ J O=>?_,gd,λx hx=>?_,?_,λk hk=>?_⟩,⟨k8,k9,jF,k7,ac,eW⟩⟩
 .rw[hH]
  exact⟨(Z 0 (Ne.symm qn.1)).trans p.cellO,(Z (0+1) (Ne.symm qn.2.1)).trans p.cellS,(k3 0).trans p.frO,(k3 (0+1)).trans p.frS,
   Z3 p.rowO λg m=>U g _ (p.rvo g m) Qr,Z3 p.rowS λg m=>U g _ (p.rvs g m) Qr,
   λi o ho=>⟨(U _ _ (p.rob i (getElem?_lt ho)) Qr).trans (p.obj i o ho).1,Z3 (p.obj i o ho).2 λg m=>U g _ (p.rpv i g (getElem?_lt ho) m) Qr⟩,
   λi o ho=>⟨(U _ _ (p.rsb i (getElem?_lt ho)) Qr).trans (p.scp i o ho).1,Z3 (p.scp i o ho).2 λg m=>U g _ (p.rnv i g (getElem?_lt ho) m) Qr⟩,
   p.rhp,p.rvo,p.rvs,p.rob,p.rpv,p.rsb,p.rnv,λb hb=>Y7 (p.live b hb) k7⟩
 .rw[iX]at hx;exact(Z o (FC o x hx)).trans (h.cell o x hx)
 .by_cases y:j=i
  .subst y;simp only[if_true];exact k1
  .simp only[y,if_false];exact(Z _ (sF j u y)).trans (h.rcell j u)
 .by_cases y:j=i
  .subst y;simp only[if_true];exact Z3 ae λk hk=>k5 k (λe=>MA ((Y k hk).symm.trans e))
  .simp only[y,if_false];rw[(oA j u y).1,(oA j u y).2];exact Z3 (h.rows j u) λk hk=>k4 k (h.rfree j u k hk).2 (λe=>h.rowNe u (e▸hk)) (λe=>y (h.rdist j i k u hi hk e.symm))
 .by_cases y:j=i
  .subst y;simp only[if_true]at hk;have:=Y k hk;subst this;exact⟨mP,by rw[qo];exact cX⟩
  .simp only[y,if_false]at hk;exact⟨(h.rfree j u k hk).1,Y7 (h.rfree j u k hk).2 k7⟩
 .by_cases y:j=i
  .by_cases sG:X=i;·omega
   .subst y;simp only[if_true]at J;simp only[sG,if_false]at O;have :=Y k J;subst this;rcases m with m|m;·exact h.rdist j X k u CQ m O
    .have:=(h.rfree X CQ k O).2;omega
  .by_cases sG:X=i
   .subst sG;simp only[if_true]at O;simp only[y,if_false]at J;have :=Y k O;subst this;rcases m with m|m;·exact h.rdist j X k u CQ J m
    .have:=(h.rfree j u k J).2;omega
   .simp only[y,if_false]at J;simp only[sG,if_false]at O;exact h.rdist j X k u CQ J O
 .have ht:=mg x hx;exact Zw5
 .exact⟨k8.trans h.old.os,k9.trans h.old.tape,jF.trans h.old.output,Y4 h.old.size k7,λk hk=>(ac k (Y7 hk h.old.size) (h.far k hk)).trans (h.old.block k hk)⟩
 .exact eW k (Y7 hk h.old.size) (h.far k hk)
end
theorem UH:(Tryz.prog.info? 3).map (λi=>(i.zero,i.size,i.bytes))=some (some (vI 0),1,8):=by kernel_rfl
section
variable {C:RCtx}{M M':MRep}{w w' wA w1:kV}{s s':MSt}
def MAt.aft(h:MAt C M w s){i:Nat}(hi:i<4){wA w1:kV}(g:kW w wA)(m:wA.grownBy w1 (M.row i).ownBlock) :
 w1.heap[C.mb]?=w.heap[C.mb]?:=
 (m.block C.mb (Y7 h.mbLt g.size) (λe=>h.rowNe hi e.symm)).trans (g.block C.mb h.mbLt)
def Zqt(h:MAt C M w s)(outer object owner:Int)(hn:s.H.scopes.length<1000000000)(ho:s.owners.length<1000000000) :
 kC 21 #[vP C.mb,vI outer,vI object,vI owner] w λe w'=>e=.returned (vI s.next)/\
  ∃M',MAt C M' w' (s.opens outer object owner)/\MFr M M' w w':=by
 obtain⟨i0,hi,aC,bj,bJ⟩:=info_parts UH;have hc:=h.rcell 2 Qg;have hz:=h.fz 8;have m:=h.rows 2 Qg;obtain⟨v,p⟩:=zX (M.row 2)
 obtain⟨X,I⟩:=zX (ow s M.cl 2)
 obtain⟨n,y⟩:=zX s.owners.length
 rw[<-p]at hc m;rw[<-I,show ky s M.cl 2=n from y.symm]at m;simp only[oj,ov,rowO]at hc m;rw[<-y]at ho;have Y:∀o (w1:kV),(w.alloc o).grownBy w1 v.ownBlock->vC w1 C.mb 8 v/\w1.frozen? ⟨C.mb,8,none⟩=false:=λo w1 F=>by
  have e:=h.aft (i:=2) Qg ((Y2 w.heap.size w).alloc (Y0 _) o) (p▸F);exact⟨(Yb e).trans hc,(Yn e).trans hz⟩
 obtain⟨HA,J,Z,HX,HN,HO,HS⟩:=kF Y h p I y m hn;clear h p I y m hn Y;go_enter func21,ntmps21
 go_wp2_with (at_builtin;go_must (refine wpList_append_lies _ rfl (.tmp 13) (.tmp 15) 68 rfl 0 3 i0 (vI 0) 1 8 underlying68 hi aC bj bJ rfl Qg v n X rfl (HO.o.alloc _) ⟨w.heap.size,0,none⟩ 1 1 [vI owner] rfl rfl (cell_one_new _ _ _) Qp Qe Qj Qe Qe (w.heap.size+1) Qm ?_);intro g cap w1 cY O gM cX;obtain⟨jE,tI⟩:=HA.o _ _ O;have HG:=lh O;have HW:=lh cY;have HT:=lh gM;have uQ:=lh cX;clear O cY gM cX)
 have F:(M.row 2).ownBlock=some g\/w.heap.size<=g:=by
  rw[<-Z.o];rcases HT.o with h|h;·exact .inl h
  .exact .inr Qe
 have ae:w1.ownsRow 0 (oj 2) (ov 2) (.slice (some ⟨g,0,none⟩) (n+1) cap) (ky {s with owners:=s.owners++[owner]} M.cl 2) (ow {s with owners:=s.owners++[owner]} M.cl 2):=by
  show w1.ownsRow 0 3 1 _ (s.owners++[owner]).length ((s.owners++[owner]).map (Value.int .i64));rw[Yi,Yl,<-HN.o,show s.owners.map (Value.int .i64)=X from HX.o.symm];exact HW.o
 obtain⟨M1,U,dc⟩:=J.o.push (s':={s with owners:=s.owners++[owner]}) (cl':=M.cl) Qg ((Y2 w.heap.size w).alloc (Y0 _) (.cells #[vI owner] 3)) (Z.o▸HG.o) F uQ.o ae
  (fun j hj aH => by match j, hj with
   |0,_=>exact⟨rfl,rfl⟩
   |1,_=>exact⟨rfl,rfl⟩
   |2,_=>exact absurd rfl aH
   |3,_=>exact⟨rfl,rfl⟩) rfl rfl J.o.clos J.o.trees
 have H1:=lh U;have HF:=lh dc;have HL:=lh (Zds U.heap outer object (by have:=HS.o;show s.H.scopes.length<_;omega));clear U dc ae F;refine HL.o.mono ?_;rintro e w2⟨rfl,ρ',L',g1,f1⟩;obtain⟨a1,a2⟩:=H1.o.heapStep g1 f1;have HR:=lh a1;have HQ:=lh a2;clear a1 a2 g1 f1;go_wp2;go_ret;exact⟨rfl,_,HR.o,HF.o.trans HQ.o⟩
end
open Go.ChangeMaps Go.MapKept
def UG(l:List (Nat×Nat))(k:Nat):Option Nat:=(l.find? (λx=>x.1==k)).map (·.2)
def Zin{l:List (Nat×Nat)}{k:Nat}(h:UG l k=none):∀x∈l,x.1≠k:=by
 unfold UG at h;rw[Option.map_eq_none_iff,List.find?_eq_none]at h;intro x hx e;exact h x hx (by simp[e])
def Z90{l:List (Nat×Nat)}{k v:Nat}(h:UG l k=some v):(k,v)∈l:=by
 unfold UG at h;rw[Option.map_eq_some_iff]at h;obtain⟨x,m,o⟩:=h;have p:=List.mem_of_find?_eq_some m;have g:=List.find?_some m;simp only[beq_iff_eq]at g;obtain⟨a,b⟩:=x;simp only at o g;subst o g;exact p
def RCtx.N_eq(C:RCtx)(k:Nat):C.N k=match UG C.pl k with|some v=>(v:Int)|none=>-3:=by
 unfold RCtx.N UG;cases C.pl.find? (λx=>x.1==k)<;>rfl
def VJ(l:List (Nat×Nat))(k:Nat):Value:=match UG l k with|some v=>.tuple #[vI v,.bool true]|none=>.tuple #[vI 0,.bool false]
def pr.lookup2{w:kV}{b k:Nat}{l:List (Nat×Nat)}(h:pr w b l)(hk:tm w k)(hx:∀x∈l,tm w x.1)(hd:(l.map (·.1)).Nodup) :
 (Instr.lookup 62 (.map (some b)) (yk k) true).run Tryz.prog w=.ok (VJ l k) w:=by
 unfold VJ;obtain⟨m,o,hb,he,hst⟩:=h;cases hn:UG l k with
 |some v=>
   obtain⟨j,hj⟩:=Zqe (hx _ (Z90 hn)) he hx hd (Z90 hn);exact Xf
 |none=>
   have hj:=Zhw hk he λx g=>⟨hx x g,Zin hn x g⟩;exact Xf
def ql(b:Addr):Value:=.iface 241 (.pointer (some b))
structure RCtx.Ok(C:RCtx):Prop where
 stop:C.w0.cell? ⟨0,0,none⟩=some (ql C.eb)
 stopB:0<C.w0.heap.size
 map:pr C.w0 C.nb C.pl
 cells:∀x∈C.pl,tm C.w0 x.1
 nd:(C.pl.map (·.1)).Nodup
def pr.bel{w w':kV}{b:Nat}{l:List (Nat×Nat)}(h:pr w b l)(g:kW w w'):pr w' b l:=by
 obtain⟨m,o,hb,he,hst⟩:=h;exact⟨m,o,(g.block b (Y1.1 hb).1).trans hb,he,hst⟩
def Z13(w:kV){ah:Array Oper}{g:List Oper}{o:Oper}{a:Act}{Q:Exit->Act->kV->Prop}
 (u:o.guard=none)(m x:Operand)(y:o.op=Op.lookup 62 m x true)(b k:Nat)(l:List (Nat×Nat))(r:Value)
 (F:a.eval m=.map (some b))(hx:a.eval x=yk k)(h:pr w b l)(hk:tm w k)(hl:∀x∈l,tm w x.1)(hd:(l.map (·.1)).Nodup)
 (hr:VJ l k=r)
 (G:wpList Tryz.prog ah Q g (a.put o.dst r) w) :
 wpList Tryz.prog ah Q (o::g) a w:=by
 refine wpList_plain u λJ I=>?_;have p:=h.lookup2 hk hl hd;rw[hr]at p;unfold Oper.wp;simp[execOp,y,F,hx,p,Result.andThen];exact I _ _ G
section
variable {C:RCtx}{M M':MRep}{w w' wA w1:kV}{s s':MSt}
theorem Zka{B:Nat}{a:ATree}(h:TreeAt w B a):tm w a.b:=⟨_,_,h.blkOf⟩
def Z5z(g:C.Ok)(h:MAt C M w s){B:Nat}{a:ATree}(m:TreeAt w B a) :
 kC 61 #[vP C.mb,a.ptr] w λe w'=>e=.returned (vI (C.N a.b))/\w'=w:=by
 have hc:=h.cell 7 (.map (some C.nb)) Qq;have F:=h.fz 7;obtain⟨p,u,HL,y⟩:=gp (g.map.bel h.old) (Zka m) (λx hx=>(g.cells x hx).bel h.old) g.nd;rw[C.N_eq];unfold ATree.ptr;cases hn:UG C.pl a.b with
 |none=>
   have o:=lh hn;clear hn h m g;go_enter func61,ntmps61
   go_wp2_with (at_lookup;go_must (refine Z13 _ rfl _ _ rfl C.nb a.b C.pl (.tuple #[vI 0,.bool false]) rfl rfl p.o u.o HL.o y.o (by unfold VJ;rw[o.o]) ?_))
   go_ret;exact⟨rfl,rfl⟩
 |some v=>
   have o:=lh hn;clear hn h m g;go_enter func61,ntmps61
   go_wp2_with (at_lookup;go_must (refine Z13 _ rfl _ _ rfl C.nb a.b C.pl (.tuple #[vI v,.bool true]) rfl rfl p.o u.o HL.o y.o (by unfold VJ;rw[o.o]) ?_))
   go_ret;exact⟨rfl,rfl⟩
end
theorem TK:(Tryz.prog.info? 209).map (λi=>(i.zero,i.size,i.bytes))=some (some (.agg #[vI 0,vI 0]),2,16):=by kernel_rfl
def Zj1{H:LHeap}(hw:H.WF)(n:Int)(name:kB):H.find n name<H.scopes.length:=by
 unfold LHeap.find;have g:∀(f:Nat) (n:Int),H.findF name f n<H.scopes.length:=by
  intro f;induction f with
  |zero=>intro n;show(-1:Int)<_;omega
  |succ f o=>
    intro n;cases hs:H.scope? n with
    |none=>rw[Zfn hs];omega
    |some c=>
      rw[Zev hs];split
      .obtain⟨m,rfl,p⟩:=LHeap.scope?_some hs;have:=(List.getElem?_eq_some_iff.1 p).1;omega
      .exact o _
 exact g _ _
section
variable {C:RCtx}{M M':MRep}{w w' wA w1:kV}{s s':MSt}
def Zfh(F:C.Ok)(h:MAt C M w s)(O:s.H.WF)(af:s.owners.length=s.H.scopes.length){B:Nat}{a:ATree}(ha:TreeAt w B a)(sc:Int)(name:kB)(hn:s.seen.length<1000000000) :
 kC 120 #[vP C.mb,a.ptr,vI sc,.string name] w λe w'=>e=.returned (vI (s.H.find sc name))/\
  ∃M',MAt C M' w' (s.look (a.nt C.N) sc name)/\MFr M M' w w':=by
 have I:=Zdq h.heap O sc name;have aA:=Zj1 O sc name;have pq:s.look (a.nt C.N) sc name=if 0<=C.N a.b/\0<=s.H.find sc name then{s with seen:=s.seen++[(C.N a.b,s.owners.getD (s.H.find sc name).toNat 0)]}else s:=by unfold MSt.look;rw[Zck]
 have u:=C.N_eq a.b;obtain⟨N,hN⟩:=zX (C.N a.b)
 rw[<-hN]at u pq;rw[pq];clear pq hN;obtain⟨R,hR⟩:=zX (s.H.find sc name)
 rw[<-hR]at I aA ⊢;have I:=lh I;have aq:∀w1,kW w w1->vC w1 C.mb 7 (.map (some C.nb))/\Hid (pr w1 C.nb C.pl)/\Hid (tm w1 a.b)/\Hid (∀x∈C.pl,tm w1 x.1):=λw1 hB=>
  ⟨(h.below hB).cell 7 _ Qq,(F.map.bel h.old).bel hB,ha.cellsOf.bel hB,λx hx=>((F.cells x hx).bel h.old).bel hB⟩
 obtain⟨HX,HD,HM⟩:=ds aq F.nd h;unfold ATree.ptr;cases hnu:UG C.pl a.b with
 |none=>
   have HR:=lh hnu;have HT:=lh (show VJ C.pl a.b=.tuple #[vI 0,.bool false] by unfold VJ;rw[hnu]);rw[hnu]at u;rw[Y3 (by have:N=-3:=u;omega)];clear hnu h ha F aq O af hR u;go_enter func120,ntmps120
   go_wp2_with fail
   refine I.o.mono ?_;rintro e w1⟨rfl,hB⟩;obtain⟨c7,U,X,HL⟩:=HX.o w1 hB;have y:=lh hB;clear hB;go_wp2_with (at_lookup;go_must (refine Z13 _ rfl _ _ rfl C.nb a.b C.pl _ rfl rfl U.o X.o HL.o HD.o HT.o ?_))
   go_ret;exact⟨rfl,_,HM.o.below y.o,.of_below y.o⟩
 |some v=>
   have HT:=lh (show VJ C.pl a.b=.tuple #[vI v,.bool true] by unfold VJ;rw[hnu]);by_cases h0:0<=R
   .have JQ:N=v:=by rw[hnu]at u;exact u
    rw[Y5 ⟨by omega,h0⟩];obtain⟨k,rfl⟩:∃k:Nat,R=k:=⟨R.toNat,by omega⟩
    have hk:k<s.owners.length:=Qe
    obtain⟨i0,hi,aC,bj,bJ⟩:=info_parts TK;obtain⟨m,CR⟩:∃m,m=s.owners.getD (k:Int).toNat 0:=⟨_,rfl⟩
    rw[<-CR];have AA:s.owners[k]?=some m:=by rw[CR,Int.toNat_natCast,List.getD_eq_getElem?_getD,Y6 hk,Option.getD_some]
    have Y:=h.rows 2 Qg;have h8:=h.rcell 2 Qg;obtain⟨vo,mf⟩:=zX (M.row 2)
    rw[<-mf]at Y h8;obtain⟨n0,hn0⟩:=zX s.owners.length
    simp only[oj,ov,ky,ow,rowO,<-hn0]at Y h8;rcases Z4 Y with⟨_,hz⟩|⟨p,c0,rfl,jE,lC,tP⟩;·omega
    have dk:w.cell? ⟨p,k,none⟩=some (vI m):=Zq Y (g:=p) rfl (by rw[Yg,AA];rfl);have bY:k<n0:=Qe
    have hS:=h.rows 1 Qg;have h6:=h.rcell 1 Qg;have JR:=h.fz 6;obtain⟨J,Z⟩:=zX (M.row 1)
    obtain⟨xs,cC⟩:=zX (ow s M.cl 1)
    obtain⟨m0,CS⟩:=zX s.seen.length
    rw[<-Z]at hS h6;simp only[oj,ov,rowO]at hS h6;rw[<-cC,show ky s M.cl 1=m0 from CS.symm]at hS;rw[<-CS]at hn;have jn:=h.mbLt;have dV:J.ownBlock≠some C.mb:=λe=>h.rowNe (i:=1) Qg (Z▸e);have jC:J.ownBlock≠some p:=λe=>absurd (h.rdist 1 2 p Qg Qg (Z▸e) (by rw[<-mf];rfl)) Qg;obtain⟨HS,tW,AB,oQ,io,vU,Pl,AC⟩:=ld hS dV jC cC CS Z CR JQ
    clear hnu h ha F aq O af hR u Y hS Z cC CS dV jC CR AA mf hn0 JQ;go_enter func120,ntmps120
    go_wp2_with fail
    refine I.o.mono ?_;rintro e w1⟨rfl,hB⟩;obtain⟨c7,U,X,HL⟩:=HX.o w1 hB;have d6:vC w1 C.mb 6 J:=(hB.cell jn).trans h6;have d8:vC w1 C.mb 8 (.slice (some ⟨p,0,none⟩) n0 c0):=(hB.cell jn).trans h8;have FD:w1.cell? ⟨p,k,none⟩=some (vI m):=(hB.cell tP).trans dk;have z6:w1.frozen? ⟨C.mb,6,none⟩=false:=(hB.frozen jn).trans JR;have fd:C.mb<w1.heap.size:=Y7 jn hB.size;have mJ:p<w1.heap.size:=Y7 tP hB.size
    have ed:=lh (Z3 HS.o λj hj=>hB.block j (Y9 HS.o j hj).2);have y:=lh hB;clear hB h6 h8 dk JR;go_wp2_with (at_lookup;go_must (refine Z13 _ rfl _ _ rfl C.nb a.b C.pl _ rfl rfl U.o X.o HL.o HD.o HT.o ?_))
    refine Z7 [0,2,4,6,8,10,12,14,16,18,20,22,24,26,28,31,33] [17,18,19,20] (λW=>vC W C.mb 6 J/\vC W C.mb 8 (.slice (some ⟨p,0,none⟩) n0 c0)/\W.cell? ⟨p,k,none⟩=some (vI m)) ⟨d6,d8,FD⟩ λ_=>?_;refine dS ?_
    iterate 15
     refine dq ?_
    refine Ze (λK hK=>?_);go_simp
    refine hK _ _ ⟨(Zb fd).trans d6,(Zb fd).trans d8,(Zb mJ).trans FD⟩ ?_;clear hK K;refine Ze (λK hK=>?_);refine step_append_lies _ Qt (.tmp 37) (.tmp 47) 38 Qt 0 209 i0 _ 2 16 underlying38 hi aC bj bJ rfl Qg J m0 xs Qt ((ed.o.alloc _).drew) ⟨w1.heap.size,0,none⟩ 1 1 [vI v,vI m] Qt rfl (Ya (cs:=#[vI v,vI m]) (t:=209) (fr:=(0,0)) (Yq w1 _)) Sj Qg Qj Qe Qe (w1.heap.size+1) Qm ?_
    intro gg cap w2 aK av cf im;have cM:∀b o,b<w1.heap.size->J.ownBlock≠some b->w2.cell? ⟨b,o,none⟩=w1.cell? ⟨b,o,none⟩:=λb o ai aw=>(av.cell_far ⟨b,o,none⟩ Qi (λe=>aw e.symm)).trans (Zb ai);have kG:w2.frozen? ⟨C.mb,6,none⟩=false:=(av.frozen_far ⟨C.mb,6,none⟩ Qi (λe=>tW.o e.symm)).trans ((TT fd).trans z6);have e6:=(cM _ 6 fd tW.o).trans d6;refine hK _ _ ⟨e6,(cM _ 8 fd tW.o).trans d8,(cM _ k mJ AB.o).trans FD⟩ ?_;clear hK K;simp only[Act.put,zA,zB,zC]
    obtain⟨HG,HW,i8,kK⟩:=gp av aK cf im;clear av aK cf im cM;refine Z1 ?_;go_wp2;go_ret;refine⟨rfl,?_⟩;have dZ:=HM.o.below y.o;have hg:(M.row 1).ownBlock=some gg\/w1.heap.size<=gg:=by
     rw[<-vU.o];exact WC
    have ae:w2.ownsRow 0 (oj 1) (ov 1) (.slice (some ⟨gg,0,none⟩) (m0+1) cap) (ky {s with seen:=s.seen++[(N,m)]} M.cl 1) (ow {s with seen:=s.seen++[(N,m)]} M.cl 1):=by
     have hw:=HW.o;rw[oQ.o,io.o]at hw;rw[io.o,AC.o];simpa[oj,ov,ky,ow]using hw
    obtain⟨M2,aO,ap⟩:=dZ.push (s':={s with seen:=s.seen++[(N,m)]}) (cl':=M.cl) Qg (((Y2 w1.heap.size w1).alloc (Y0 _) (.cells #[vI v,vI m] 209)).drew) (vU.o▸HG.o) hg kK.o ae
     (fun j hj aH => by match j, hj with
      |0,_=>exact⟨rfl,rfl⟩
      |1,_=>exact absurd rfl aH
      |2,_=>exact⟨rfl,rfl⟩
      |3,_=>exact⟨rfl,rfl⟩) rfl rfl HM.o.clos dZ.trees
    exact⟨M2,aO,(MFr.of_below y.o).trans ap⟩
   .rw[Y3 (by intro e;exact h0 e.2)];have h1:decide (0<=R)=false:=decide_eq_false h0;clear hnu h ha F aq O af hR u;go_enter func120,ntmps120
    go_wp2_with fail
    refine I.o.mono ?_;rintro e w1⟨rfl,hB⟩;obtain⟨c7,U,X,HL⟩:=HX.o w1 hB;have y:=lh hB;clear hB;go_wp2_with (at_lookup;go_must (refine Z13 _ rfl _ _ rfl C.nb a.b C.pl _ rfl rfl U.o X.o HL.o HD.o HT.o ?_))
    go_ret;exact⟨rfl,_,HM.o.below y.o,.of_below y.o⟩
end
def Zof(m:Addr){α:Type}(enc:α->Value)(g:α->Bool)(Inv:kV->Prop)(p:Option Addr)(cap:Nat)(l:List α)(w:kV)(hn:l.length<=9223372036854775807)(dt:l.length<=cap)
 (hc:∀i x,l[i]?=some x->∃b off,p=some ⟨b,off,none⟩/\∀w1,Inv w1->w1.cell? ⟨b,off+i,none⟩=some (enc x))
 (hg:∀x∈l,∀w1,Inv w1->kC 86 #[enc x,.pointer (some m)] w1 λe w'=>e=.returned (.bool (g x))/\Inv w')(hI:Inv w) :
 kC 109 #[.slice p l.length cap,.func (.func 86) #[] #[.pointer (some m)]] w λe w'=>(∃z:Int,e=.returned (vI z)/\decide (z≥0)=l.any g)/\Inv w':=by
 exact AaG
def Zvi(m:Addr){α:Type}(enc:α->Value)(g:α->Bool)(Inv:kV->Prop)(p:Option Addr)(cap:Nat)(l:List α)(w:kV)(hn:l.length<=9223372036854775807)(o:l.length<=cap)
 (hc:∀i x,l[i]?=some x->∃b off,p=some ⟨b,off,none⟩/\∀w1,Inv w1->w1.cell? ⟨b,off+i,none⟩=some (enc x))
 (u:∀x∈l,∀w1,Inv w1->kC 86 #[enc x,.pointer (some m)] w1 λe w'=>e=.returned (.bool (g x))/\Inv w')(hI:Inv w) :
 kC 85 #[.slice p l.length cap,.func (.func 86) #[] #[.pointer (some m)]] w λe w'=>e=.returned (.bool (l.any g))/\Inv w':=by
 have y:=lh (Zof m enc g Inv p cap l w hn o hc u hI);clear hn o hc u hI;go_enter func85,ntmps85
 go_wp2_with fail
 refine y.o.mono ?_;rintro e w1⟨⟨z,rfl,F⟩,G⟩;have I:=lh F;clear F y;go_wp2;go_ret;refine⟨?_,G⟩;rw[<-I.o];rfl
def Zpv(m:Addr){α:Type}(enc:α->Value)(g:α->Bool)(Inv:kV->Prop)(p:Option Addr)(cap:Nat)(l:List α)(w:kV)(hn:l.length<=9223372036854775807)(dt:l.length<=cap)
 (hc:∀i x,l[i]?=some x->∃b off,p=some ⟨b,off,none⟩/\∀w1,Inv w1->w1.cell? ⟨b,off+i,none⟩=some (enc x))
 (hg:∀x∈l,∀w1,Inv w1->kC 88 #[enc x,.pointer (some m)] w1 λe w'=>e=.returned (.bool (g x))/\Inv w')(hI:Inv w) :
 kC 110 #[.slice p l.length cap,.func (.func 88) #[] #[.pointer (some m)]] w λe w'=>(∃z:Int,e=.returned (vI z)/\decide (z≥0)=l.any g)/\Inv w':=by
 exact AbY
def Zy8(m:Addr){α:Type}(enc:α->Value)(g:α->Bool)(Inv:kV->Prop)(p:Option Addr)(cap:Nat)(l:List α)(w:kV)(hn:l.length<=9223372036854775807)(o:l.length<=cap)
 (hc:∀i x,l[i]?=some x->∃b off,p=some ⟨b,off,none⟩/\∀w1,Inv w1->w1.cell? ⟨b,off+i,none⟩=some (enc x))
 (u:∀x∈l,∀w1,Inv w1->kC 88 #[enc x,.pointer (some m)] w1 λe w'=>e=.returned (.bool (g x))/\Inv w')(hI:Inv w) :
 kC 87 #[.slice p l.length cap,.func (.func 88) #[] #[.pointer (some m)]] w λe w'=>e=.returned (.bool (l.any g))/\Inv w':=by
 have y:=lh (Zpv m enc g Inv p cap l w hn o hc u hI);clear hn o hc u hI;go_enter func87,ntmps87
 go_wp2_with fail
 refine y.o.mono ?_;rintro e w1⟨⟨z,rfl,F⟩,G⟩;have I:=lh F;clear F y;go_wp2;go_ret;refine⟨?_,G⟩;rw[<-I.o];rfl
def Zp9(m:Addr){α:Type}(enc:α->Value)(g:α->Bool)(Inv:kV->Prop)(p:Option Addr)(cap:Nat)(l:List α)(w:kV)(hn:l.length<=9223372036854775807)(dt:l.length<=cap)
 (hc:∀i x,l[i]?=some x->∃b off,p=some ⟨b,off,none⟩/\∀w1,Inv w1->w1.cell? ⟨b,off+i,none⟩=some (enc x))
 (hg:∀x∈l,∀w1,Inv w1->kC 113 #[enc x,.pointer (some m)] w1 λe w'=>e=.returned (.bool (g x))/\Inv w')(hI:Inv w) :
 kC 110 #[.slice p l.length cap,.func (.func 113) #[] #[.pointer (some m)]] w λe w'=>(∃z:Int,e=.returned (vI z)/\decide (z≥0)=l.any g)/\Inv w':=by
 exact AbY
def Zx7(m:Addr){α:Type}(enc:α->Value)(g:α->Bool)(Inv:kV->Prop)(p:Option Addr)(cap:Nat)(l:List α)(w:kV)(hn:l.length<=9223372036854775807)(o:l.length<=cap)
 (hc:∀i x,l[i]?=some x->∃b off,p=some ⟨b,off,none⟩/\∀w1,Inv w1->w1.cell? ⟨b,off+i,none⟩=some (enc x))
 (u:∀x∈l,∀w1,Inv w1->kC 113 #[enc x,.pointer (some m)] w1 λe w'=>e=.returned (.bool (g x))/\Inv w')(hI:Inv w) :
 kC 87 #[.slice p l.length cap,.func (.func 113) #[] #[.pointer (some m)]] w λe w'=>e=.returned (.bool (l.any g))/\Inv w':=by
 have y:=lh (Zp9 m enc g Inv p cap l w hn o hc u hI);clear hn o hc u hI;go_enter func87,ntmps87
 go_wp2_with fail
 refine y.o.mono ?_;rintro e w1⟨⟨z,rfl,F⟩,G⟩;have I:=lh F;clear F y;go_wp2;go_ret;refine⟨?_,G⟩;rw[<-I.o];rfl
def Zo8{α:Type}(enc:α->Value)(g:α->Bool)(Inv:kV->Prop)(p:Option Addr)(cap:Nat)(l:List α)(w:kV)(hn:l.length<=9223372036854775807)(dt:l.length<=cap)
 (hc:∀i x,l[i]?=some x->∃b off,p=some ⟨b,off,none⟩/\∀w1,Inv w1->w1.cell? ⟨b,off+i,none⟩=some (enc x))
 (hg:∀x∈l,∀w1,Inv w1->kC 115 #[enc x] w1 λe w'=>e=.returned (.bool (g x))/\Inv w')(hI:Inv w) :
 kC 109 #[.slice p l.length cap,.func (.func 115) #[] #[]] w λe w'=>(∃z:Int,e=.returned (vI z)/\decide (z≥0)=l.any g)/\Inv w':=by
 exact AaG
def Zw1{α:Type}(enc:α->Value)(g:α->Bool)(Inv:kV->Prop)(p:Option Addr)(cap:Nat)(l:List α)(w:kV)(hn:l.length<=9223372036854775807)(m:l.length<=cap)
 (hc:∀i x,l[i]?=some x->∃b off,p=some ⟨b,off,none⟩/\∀w1,Inv w1->w1.cell? ⟨b,off+i,none⟩=some (enc x))
 (o:∀x∈l,∀w1,Inv w1->kC 115 #[enc x] w1 λe w'=>e=.returned (.bool (g x))/\Inv w')(hI:Inv w) :
 kC 85 #[.slice p l.length cap,.func (.func 115) #[] #[]] w λe w'=>e=.returned (.bool (l.any g))/\Inv w':=by
 have u:=lh (Zo8  enc g Inv p cap l w hn m hc o hI);clear hn m hc o hI;go_enter func85,ntmps85
 go_wp2_with fail
 refine u.o.mono ?_;rintro e w1⟨⟨z,rfl,y⟩,F⟩;have G:=lh y;clear y u;go_wp2;go_ret;refine⟨?_,F⟩;rw[<-G.o];rfl
def Zr0{s:kB}{l:kB}{t:List UInt8}(hl:l.toList=t)(h:s≠l):(s.toList==t)=false:=by
 have:(s.toList==l.toList)=false:=by rw[TZ];simp[Zh,h]
 rwa[hl]at this
theorem Zln:YQ.toList=[101,118,97,108]:=by kernel_rfl
theorem Zbt:YH.toList=[97,114,103,117,109,101,110,116,115]:=by kernel_rfl
def Z6w(w:kV)(st ins:Bool)(s:kB) :
 kC 111 #[.agg #[.bool st,.bool ins],.string s] w λe w'=>e=.returned (.bool (LC st s))/\kW w w':=by
 have HB:=lh ((Y2 w.heap.size w).alloc (Y0 _) (.cells #[.bool st,.bool ins] 122));unfold LC;cases st;·exact Zoi
 .by_cases g:s=YQ
  .subst g;rw[show Zh YQ YQ=true by simp[Zh]];unfold YQ;exact Zoi
  .have o:=Zr0 Zln g;rw[show Zh s YQ=false by simp[Zh,g]];clear g;by_cases m:s=YH
   .subst m;rw[show Zh YH YH=true by simp[Zh]];unfold YH;clear o;exact Zoi
   .have p:=Zr0 Zbt m;rw[show Zh s YH=false by simp[Zh,m]];clear m;exact Zoi
def Zlu(w:kV)(B:Nat)(a:ATree)(m:TreeAt w B a) :
 kC 116 #[a.ptr] w λe w'=>e=.returned (.bool (T5 a))/\w'=w:=by
 have c0:=m.c0;unfold T5 ATree.ptr;obtain⟨g,o⟩:=zX a.kind
 rw[<-o]at c0 ⊢;clear o m;rcases(by omega:g=3\/g=4\/g=5\/(g≠3/\g≠4/\g≠5))with h3|h3|h3|⟨h3,h4,h5⟩
 .subst h3;exact Zqs
 .subst h3;exact Zqs
 .subst h3;exact Zqs
 .have p:(g==3)=false:=by simpa using h3
  have u:(g==4)=false:=RH
  have y:(g==5)=false:=Sp
  rw[p,u,y];have F:(g !=3)=true:=Sr
  have I:(g !=4)=true:=RH
  have J:(g !=5)=true:=Sp
  clear h3 h4 h5 p u y;exact Zqs
def Znl(w:kV)(B:Nat)(a:ATree)(m:TreeAt w B a) :
 kC 115 #[a.ptr] w λe w'=>e=.returned (.bool (!T5 a))/\w'=w:=by
 have g:=lh (Zlu w B a m);unfold ATree.ptr at g ⊢;obtain⟨p,o⟩:=zX (T5 a)
 rw[<-o]at g ⊢;clear m o;go_enter func115,ntmps115
 go_wp2_with fail
 refine g.o.mono ?_;rintro e w'⟨rfl,rfl⟩;go_wp2;go_ret;exact⟨rfl,rfl⟩
def Zn5(w:kV)(B c:Nat)(a:ATree)(s:kB)(g:TreeAt w B a)(hc:w.cell? ⟨c,0,none⟩=some a.ptr) :
 kC 113 #[.string s,vP c] w λe w'=>e=.returned (.bool (Zh s a.text))/\w'=w:=by
 have c1:=g.c1;unfold ATree.ptr at hc;rw[<-TZ];obtain⟨tx,m⟩:=zX a.text
 rw[<-m]at c1 ⊢;clear g m;go_enter func113,ntmps113
 go_wp2;go_ret;exact⟨rfl,rfl⟩
def Zjx(w:kV)(B c:Nat)(x k:ATree)(hx:TreeAt w B x)(hk:TreeAt w B k)(hc:w.cell? ⟨c,0,none⟩=some k.ptr) :
 kC 86 #[x.ptr,vP c] w λe w'=>e=.returned (.bool (Zh x.text k.text))/\kW w w':=by
 have g:=hx.c1;have m:=hk.c1;unfold ATree.ptr at hc ⊢;rw[<-TZ];obtain⟨tx,p⟩:=zX x.text
 obtain⟨y,u⟩:=zX k.text
 rw[<-p]at g ⊢;rw[<-u]at m ⊢;clear hx hk p u;go_enter func86,ntmps86
 go_wp2_with fail
 refine Z7 [0,2,4,6,8,10,12,14] [8,9] (λW=>vC W x.b 1 (.string tx)/\vC W c 0 (vP k.b)/\vC W k.b 1 (.string y)) ⟨g,hc,m⟩ λ_=>?_;refine dS ?_
 iterate 8
  refine dq ?_
 refine Z1 ?_;go_wp2;go_ret;exact⟨rfl,(Y2 _ _).drew⟩
def Zit(w:kV)(B c:Nat)(v:Value)(l:List kB)(s:kB)(ht:Zx w B v l)(hc:vC w c 0 v) :
 kC 88 #[.string s,vP c] w λe w'=>e=.returned (.bool (Lib.containsS l s))/\w'=w:=by
 have g:=lh (XU ht s);clear ht;go_enter func88,ntmps88
 go_wp2_with fail
 refine g.o.mono ?_;rintro e w'⟨rfl,rfl⟩;go_wp2;go_ret;exact⟨rfl,rfl⟩
