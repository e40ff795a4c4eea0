import Derived.Test.YtkebnpemgkjpkaaGreatDoorJ20
set_option maxRecDepth 100000
set_option maxHeartbeats 20000000
set_option linter.all false
namespace Go.Proofs.YtkebnpemgkjpkaaGreatDoor
open Go Go.RowKit Go.Proofs.Tryz Tryz
section
variable {C:RCtx}{M M':MRep}{w w':kV}{s s':MSt}{B:Nat}{a:ATree}{V:VF}{D:DF}{b:Int}{sc:Int}{fr:Frm}{d:Nat}
def Lo.apart{wE:kV}{g b':Nat}{c:Array Value}{T:TypeId}(h:Lo C M wE w g c T)(m:g≠b')(i:Nat)(x:Value):Lo C M wE (w.setCell ⟨b',i,none⟩ x) g c T:=
 ⟨(Y8 _ _ _ _ m).trans h.blk,h.free,h.late,h.old⟩
def TreeAt.c2(h:TreeAt w B a):w.cell? ⟨a.b,2,none⟩=some (vI a.n):=by
 have:=h.blkOf;simp[vC,World.cell?,this]
def Zuw(h:MAt C M w s):MAt C M (w.setCell ⟨C.mb,5,none⟩ (vI (s.steps+1))) {s with steps:=s.steps+1}/\MFr M M w (w.setCell ⟨C.mb,5,none⟩ (vI (s.steps+1))):=
 h.scalar Py rfl rfl rfl rfl rfl (λi hi=>by match i,hi with
  |0,_=>decide
  |1,_=>decide
  |2,_=>decide
  |3,_=>decide) ⟨_,h.cell 5 (vI s.steps) PI⟩ (λo x hx=>by
  simp only[lR,List.mem_cons,Prod.mk.injEq,List.not_mem_nil,or_false]at hx ⊢;rcases hx with h|h|h|h|h|h|h|h|h|h|h<;>(obtain⟨rfl,rfl⟩:=h;simp))
def cK.fine'{W g:kV}{M1:MRep}{s1:MSt}{rb:Nat}{x0 m z0:Value}{k n:Int}{t:kB}(hL:Lo C M w g rb #[x0,m,z0] 56)(hz:MFr M M w g)(hM:MAt C M1 W s1)(hF:MFr M M1 g W) :
 cK C M w (s1,.ok ⟨k,n,t⟩) (.returned (.tuple #[.agg #[vI k,vI n,.string t],.nilIface])) (((W.setCell ⟨rb,0,none⟩ (vI k)).setCell ⟨rb,1,none⟩ (vI n)).setCell ⟨rb,2,none⟩ (.string t)):=by
 exact Zwl
def cK.err'{W g:kV}{M1:MRep}{s1:MSt}{rb:Nat}{x0 m z0 ev:Value}{x:Er}{k n:Int}{t:kB}(hL:Lo C M w g rb #[x0,m,z0] 56)(hz:MFr M M w g)(hM:MAt C M1 W s1)(hF:MFr M M1 g W)(he:ax C M1 W x ev) :
 cK C M w (s1,.error x) (.returned (.tuple #[.agg #[vI k,vI n,.string t],ev])) (((W.setCell ⟨rb,0,none⟩ (vI k)).setCell ⟨rb,1,none⟩ (vI n)).setCell ⟨rb,2,none⟩ (.string t)):=by
 refine Zuu ?_;intro g1 g2 g3;exact⟨M1,g1,g2,⟨k,n,t⟩,ev,rfl,g3 _ _ he⟩
def je.fine'{W g:kV}{M1:MRep}{s1:MSt}{rb:Nat}{x0 m z0:Value}{k n:Int}{t:kB}{b:Bool}(hL:Lo C M w g rb #[x0,m,z0] 56)(hz:MFr M M w g)(hM:MAt C M1 W s1)(hF:MFr M M1 g W) :
 je C M w (s1,.ok (b,⟨k,n,t⟩)) (.returned (.tuple #[.bool b,.agg #[vI k,vI n,.string t],.nilIface])) (((W.setCell ⟨rb,0,none⟩ (vI k)).setCell ⟨rb,1,none⟩ (vI n)).setCell ⟨rb,2,none⟩ (.string t)):=by
 exact Zwl
def je.err'{W g:kV}{M1:MRep}{s1:MSt}{rb:Nat}{x0 m z0 ev:Value}{x:Er}{k n:Int}{t:kB}{b:Bool}(hL:Lo C M w g rb #[x0,m,z0] 56)(hz:MFr M M w g)(hM:MAt C M1 W s1)(hF:MFr M M1 g W)(he:ax C M1 W x ev) :
 je C M w (s1,.error x) (.returned (.tuple #[.bool b,.agg #[vI k,vI n,.string t],ev])) (((W.setCell ⟨rb,0,none⟩ (vI k)).setCell ⟨rb,1,none⟩ (vI n)).setCell ⟨rb,2,none⟩ (.string t)):=by
 refine Zuu ?_;exact AbI
def Zw1(hC:C.Ok)(h:MAt C M w s)(hI:Inv s d)(ha:TreeAt w B a)(hf:a.free M)(hs:s.steps=20000) :
 kC 78 #[vP C.mb,a.ptr,vI sc,.agg #[.bool fr.strict,vI fr.vars]] w λe w'=>cK C M w (tm (v7 V D (a.nt C.N) sc fr) s) e w':=by
 refine LX ?_;intro s1 aF bN hst jx aY dh di dj z0 aC;rw[<-aC]at aY dh di dj;refine qF ?_;intro cw f5 y5 aD aW;rw[<-aF]at aD;refine qI ?_;intro z hz;rw[<-hz]at aD aW;refine Of ?_;intro eG aI bu lf lr ln g5 c0;rw[aC]at f5 y5;rw[hz,aC]at g5 c0;have g:tm (v7 V D (a.nt C.N) sc fr) s=(s1,.error .stop):=by
  unfold tm;rw[Y5 Px,aF];rfl
 rw[g];have u:=lh aC;refine Zx4 ?_;intro HZ cV dv HLR HFz bM BQ HM m0 m1 m2 q0 q1 q2 z0 z1 z2;clear hz aC aY cw aD aW eG aI bu dh di dj lf lr ln ha hf h hI aF g hs c0;unfold ATree.ptr;go_enter func78,ntmps78
 go_wp2_with fail
 rw[<-HZ.o];clear f5 y5 g5;unfold pY at cV;refine ow [(true,0),(true,1),(false,2)] [3] (λW=>vC W (w.heap.size+1+1) 0 (vI 0)/\vC W (w.heap.size+1+1) 1 (vI 0)/\vC W (w.heap.size+1+1) 2 (.string ⟨#[]⟩)/\W.cell? ⟨0,0,none⟩=some (.iface 241 (.pointer (some C.eb)))) ⟨m0,m1,m2,cV⟩ (λy=>?_);refine f8 ?_;intro K hK;refine XB ?_;intro bj;have m:=cK.err' (k:=0) (n:=0) (t:=⟨#[]⟩) HLR.o HFz.o HM.o.drew (.drew (.refl _ _)) (show ax C M z.drew .stop (pY C.eb)from rfl)
 refine hK _ _ ⟨bj.cell rfl,bj.cell rfl,bj.cell rfl,?_⟩ ?_;·exact AaE
 clear hK K bj;have p:=lh m;clear m;refine Z0 ?_;go_wp2;refine Yp (v:=.tuple #[.agg #[vI 0,vI 0,.string ⟨#[]⟩],.iface 241 (.pointer (some C.eb))]) ?_ rfl ?_;·exact rp
 .exact p.o
def Zux(h:MAt C M w s)(hI:Inv s d)(ha:TreeAt w B a)(hf:a.free M)(hs:s.steps<20000)(hk:a.kind=17\/a.kind=18\/a.kind=19\/a.kind=20\/a.kind=21\/a.kind=22) :
 kC 78 #[vP C.mb,a.ptr,vI sc,.agg #[.bool fr.strict,vI fr.vars]] w λe w'=>cK C M w (tm (v7 V D (a.nt C.N) sc fr) s) e w':=by
 refine LX ?_;intro s1 aF bN hst jx aY dh di dj z0 aC;rw[<-aC]at aY dh di dj;refine qF ?_;intro cw f5 y5 aD aW;rw[<-aF]at aD;refine qI ?_;intro z hz;rw[<-hz]at aD aW;refine Of ?_;intro eG aI bu lf lr ln g5 c0;rw[aC]at f5 y5;rw[hz,aC]at g5 c0;refine Su ?_;intro hR R aQ;rw[<-aQ];rw[<-aQ]at hR;clear aQ;refine SA ?_;intro dv HZ HLR bM dB HFz HM ft dW HO HE;have c1:=aI.c1;have c2:=aI.c2;rw[hz,aC]at c1 c2;obtain⟨m,p,u,-,-,-⟩:=ln.six;rw[hz,aC]at m p u;have y:=Zp2 z a.n;have F:=Zbe z a.text
 simp only[LVal.agg]at y F;obtain⟨U,X,Y,Z⟩:=en y F (V8 z true) (V8 z false);unfold v7 at hR;simp only[Zb,Add,rH]at hR;clear hz aC aY cw aD aW eG aI bu dh di dj lf lr ln ha hf h hI aF y F;unfold ATree.ptr;rcases hk with hk|hk|hk|hk|hk|hk
 .rw[hk]at hR c0;simp at hR;have g:R=(s1,.ok ⟨3,a.n,⟨#[]⟩⟩):=hR;clear hR;subst g;go_enter func78,ntmps78
  go_wp2_with fail
  rw[<-HZ.o];clear f5 y5 g5 c0 c1 c2 m p u;refine U.o.mono ?_;refine Zm9 ?_;intro w1 q0 q1 q2 z0 z1 z2 av;go_wp2;refine Yp (v:=.tuple #[.agg #[vI 3,vI a.n,.string ⟨#[]⟩],.nilIface]) ?_ rfl ?_;·exact rp
  .exact Zpm
 .rw[hk]at hR c0;simp at hR;have g:R=(s1,.ok ⟨4,0,a.text⟩):=hR;clear hR;subst g;go_enter func78,ntmps78
  go_wp2_with fail
  rw[<-HZ.o];clear f5 y5 g5 c0 c1 c2 m p u;refine X.o.mono ?_;refine Zm9 ?_;intro w1 q0 q1 q2 z0 z1 z2 av;go_wp2;refine Yp (v:=.tuple #[.agg #[vI 4,vI 0,.string a.text],.nilIface]) ?_ rfl ?_;·exact rp
  .exact Zpm
 .rw[hk]at hR c0;simp at hR;have g:R=(s1,.ok ⟨2,1,⟨#[]⟩⟩):=hR;clear hR;subst g;go_enter func78,ntmps78
  go_wp2_with fail
  rw[<-HZ.o];clear f5 y5 g5 c0 c1 c2 m p u;refine Y.o.mono ?_;refine Zm9 ?_;intro w1 q0 q1 q2 z0 z1 z2 av;go_wp2;refine Yp (v:=.tuple #[.agg #[vI 2,vI 1,.string ⟨#[]⟩],.nilIface]) ?_ rfl ?_;·exact rp
  .exact Zpm
 .rw[hk]at hR c0;simp at hR;have g:R=(s1,.ok ⟨2,0,⟨#[]⟩⟩):=hR;clear hR;subst g;go_enter func78,ntmps78
  go_wp2_with fail
  rw[<-HZ.o];clear f5 y5 g5 c0 c1 c2 m p u;refine Z.o.mono ?_;refine Zm9 ?_;intro w1 q0 q1 q2 z0 z1 z2 av;go_wp2;refine Yp (v:=.tuple #[.agg #[vI 2,vI 0,.string ⟨#[]⟩],.nilIface]) ?_ rfl ?_;·exact rp
  .exact Zpm
 .rw[hk]at hR c0;simp at hR;have g:R=(s1,.ok ⟨1,0,⟨#[]⟩⟩):=hR;clear hR;subst g;obtain⟨q0,q1,q2,I,J,O⟩:=HLR.o.six;rw[HZ.o]at q0 q1 q2 I J O;go_enter func78,ntmps78
  go_wp2_with fail
  refine Yp (v:=.tuple #[.agg #[vI 1,vI 0,.string ⟨#[]⟩],.nilIface]) ?_ rfl ?_;·exact rp
  .rw[<-HZ.o];exact .fine' HLR.o HFz.o HM.o (.refl _ _)
 .rw[hk]at hR c0;simp at hR;have g:R=(s1,.ok ⟨0,0,⟨#[]⟩⟩):=hR;clear hR;subst g;obtain⟨q0,q1,q2,I,J,O⟩:=HLR.o.six;rw[HZ.o]at q0 q1 q2 I J O;go_enter func78,ntmps78
  go_wp2_with fail
  refine Yp (v:=.tuple #[.agg #[vI 0,vI 0,.string ⟨#[]⟩],.nilIface]) ?_ rfl ?_;·exact rp
  .rw[<-HZ.o];exact .fine' HLR.o HFz.o HM.o (.refl _ _)
end
noncomputable def fD(p:List Nat):Code:=Ip p (Tryz.f7.body.getD .skip)
theorem Zta:Tryz.f7.body=some (fD []):=by kernel_rfl
def O'(C:RCtx)(w:kV)(a:ATree)(l:List (Nat×Value)):List (Nat×Value):=
 (0,vP a.b)::(2,vP w.heap.size)::(5,vP C.mb)::l
section
variable {C:RCtx}{M M1:MRep}{w z W:kV}{s:MSt}{B:Nat}{a:ATree}{d fb:Nat}{st:Bool}{A:Act}{K:Act->kV->Prop}{Q:Exit->Act->kV->Prop}
def Acj(w:kV)(nb:Nat)(eb:Addr)(pl:List (Nat×Nat)):∃M,MAt ⟨w,w.heap.size,nb,eb,pl⟩ M (w.alloc (.cells #[.slice none 0 0,.slice none 0 0,.slice none 0 0,vI 0,.string ⟨#[]⟩,vI 0,.slice none 0 0,.map (some nb),.slice none 0 0,.slice none 0 0,vI 0,vI 0,vI 0,vI 0,vI 0,vI 0,.string ⟨#[]⟩] 58)) MSt.new:=by
 refine⟨⟨λb=>if b=w.heap.size then some .hp else none,⟨.slice none 0 0,.slice none 0 0,λ_=>0,λ_=>.nilIface,λ_=>0,λ_=>.nilIface⟩,λ_=>.slice none 0 0,[]⟩,?_⟩
 have m:∀i x,(#[Value.slice none 0 0,.slice none 0 0,.slice none 0 0,vI 0,.string ⟨#[]⟩,vI 0,.slice none 0 0,.map (some nb),.slice none 0 0,.slice none 0 0,vI 0,vI 0,vI 0,vI 0,vI 0,vI 0,.string ⟨#[]⟩]:Array Value)[i]?=some x->(w.alloc (.cells #[.slice none 0 0,.slice none 0 0,.slice none 0 0,vI 0,.string ⟨#[]⟩,vI 0,.slice none 0 0,.map (some nb),.slice none 0 0,.slice none 0 0,vI 0,vI 0,vI 0,vI 0,vI 0,vI 0,.string ⟨#[]⟩] 58)).cell? ⟨w.heap.size,i,none⟩=some x:=λi x hx=>by
  rw[Ys];exact hx
 constructor
 .constructor;·exact m 0 _ rfl
  .exact m 1 _ rfl
  .exact World.frozen?_alloc_new _ _ _ _
  .exact World.frozen?_alloc_new _ _ _ _
  .exact⟨rfl,.inl ⟨rfl,rfl⟩⟩
  .exact⟨rfl,.inl ⟨rfl,rfl⟩⟩
  .intro i o h;cases h
  .intro i o h;cases h
  .simp
  .intro g h;cases h
  .intro g h;cases h
  .intro i h;exact absurd h (Nat.not_lt_zero i)
  .intro i g h;exact absurd h (Nat.not_lt_zero i)
  .intro i h;exact absurd h (Nat.not_lt_zero i)
  .intro i g h;exact absurd h (Nat.not_lt_zero i)
  .intro b hb;by_cases e:b=w.heap.size;·simp[e]
   .exact absurd (Y3 e) hb
 .intro o x hx;simp only[lR,MSt.new,LVal.zero,List.mem_cons,Prod.mk.injEq,List.not_mem_nil,or_false]at hx;rcases hx with h|h|h|h|h|h|h|h|h|h|h<;>(obtain⟨rfl,rfl⟩:=h;exact m _ _ rfl)
 .intro i hi;match i,hi with
  |0,_=>exact m 2 _ rfl
  |1,_=>exact m 6 _ rfl
  |2,_=>exact m 8 _ rfl
  |3,_=>exact m 9 _ rfl
 .intro o;exact World.frozen?_alloc_new _ _ _ _
 .intro i hi;match i,hi with
  |0,_=>exact⟨rfl,.inl ⟨rfl,rfl⟩⟩
  |1,_=>exact⟨rfl,.inl ⟨rfl,rfl⟩⟩
  |2,_=>exact⟨rfl,.inl ⟨rfl,rfl⟩⟩
  |3,_=>exact⟨rfl,.inl ⟨rfl,rfl⟩⟩
 .intro i hi g u;cases u
 .intro i j g hi y u;cases u
 .rfl
 .intro x hx;cases hx
 .exact Z1 w _
 .intro k hk p;rcases p with p|⟨i,hi,p⟩;·exact p (Y3 (Nat.ne_of_lt hk))
  .cases p
def Zay{j:Nat}{v:Value}{s':MSt}(h:MAt C M W s)(y:j=10\/j=11\/j=12)(h1:s'.H=s.H)(g:s'.log=s.log)(m:s'.seen=s.seen)(p:s'.owners=s.owners)(h5:s'.clos=s.clos)
 (u:∃x,W.cell? ⟨C.mb,j,none⟩=some x)(hx:∀o x,(o,x)∈lR C s'->o=j/\x=v\/o≠j/\(o,x)∈lR C s):MAt C M (W.setCell ⟨C.mb,j,none⟩ v) s'/\MFr M M W (W.setCell ⟨C.mb,j,none⟩ v):=
 h.scalar Px h1 g m p h5 (λi hi=>by
  match i,hi with
  |0,_=>show 2≠j;omega
  |1,_=>show 6≠j;omega
  |2,_=>show 8≠j;omega
  |3,_=>show 9≠j;omega) u hx
def Zqc(h:MAt C M W s)(v:Int):MAt C M (W.setCell ⟨C.mb,10,none⟩ (vI v)) {s with glob:=v}/\MFr M M W (W.setCell ⟨C.mb,10,none⟩ (vI v)):=
 Zay h (.inl rfl) rfl rfl rfl rfl rfl ⟨_,h.cell 10 (vI s.glob) PI⟩ (λo x hx=>by
  simp only[lR,List.mem_cons,Prod.mk.injEq,List.not_mem_nil,or_false]at hx ⊢;rcases hx with h|h|h|h|h|h|h|h|h|h|h<;>(obtain⟨rfl,rfl⟩:=h;simp))
def Zor(h:MAt C M W s)(v:Int):MAt C M (W.setCell ⟨C.mb,11,none⟩ (vI v)) {s with outer:=v}/\MFr M M W (W.setCell ⟨C.mb,11,none⟩ (vI v)):=
 Zay h (.inr (.inl rfl)) rfl rfl rfl rfl rfl ⟨_,h.cell 11 (vI s.outer) PI⟩ (λo x hx=>by
  simp only[lR,List.mem_cons,Prod.mk.injEq,List.not_mem_nil,or_false]at hx ⊢;rcases hx with h|h|h|h|h|h|h|h|h|h|h<;>(obtain⟨rfl,rfl⟩:=h;simp))
def Zsl(h:MAt C M W s)(v:Int):MAt C M (W.setCell ⟨C.mb,12,none⟩ (vI v)) {s with top:=v}/\MFr M M W (W.setCell ⟨C.mb,12,none⟩ (vI v)):=
 Zay h (.inr (.inr rfl)) rfl rfl rfl rfl rfl ⟨_,h.cell 12 (vI s.top) PI⟩ (λo x hx=>by
  simp only[lR,List.mem_cons,Prod.mk.injEq,List.not_mem_nil,or_false]at hx ⊢;rcases hx with h|h|h|h|h|h|h|h|h|h|h<;>(obtain⟨rfl,rfl⟩:=h;simp))
def MAt.gl(h:MAt C M W s):vC W C.mb 10 (vI s.glob)/\vC W C.mb 11 (vI s.outer)/\vC W C.mb 12 (vI s.top):=
 ⟨h.cell 10 _ PI,h.cell 11 _ PI,h.cell 12 _ PI⟩
end
section
variable {C:RCtx}{M M':MRep}{w w':kV}{s s':MSt}{B:Nat}{a:ATree}{V:VF}{D:DF}{b:Int}{sc:Int}{fr:Frm}{d:Nat}
def Zju{D:DF}{k:NT}{l:List NT}:oB D sc fr (k::l) s=match D k sc fr s with
 |(s1,.ok (true,v))=>(s1,.ok (true,v))
 |(s1,.ok (false,_))=>oB D sc fr l s1
 |(s1,.error e)=>(s1,.error e):=by
 simp only[oB,Zx];rcases D k sc fr s with⟨s1,e|⟨_|_,v⟩⟩<;>rfl
def Z5c(cT:G8 C D b)(hD:DH D b)(h:MAt C M w s)(hI:Inv s d)(hA:FAt s sc fr)(hb:b<=s.steps)(hs:s.steps<=20000)(ha:TreeAt w B a)(hf:a.free M)(hn:a.kids.length<=1500)
 (bD:∀x∈a.kids,(x.nt C.N).wf .s/\(x.nt C.N).tree.many<=1500) :
 kC 24 #[vP C.mb,a.v,vI sc,.agg #[.bool fr.strict,vI fr.vars]] w λe w'=>je C M w (oB D sc fr (a.kids.map (ATree.nt C.N)) s) e w':=by
 obtain⟨R,g⟩:=zX (oB D sc fr (a.kids.map (ATree.nt C.N)) s)
 rw[<-g];refine Om ?_;intro aP lf lr z hz;rw[<-hz]at aP lf lr;refine Sp ?_;intro aD aI;obtain⟨q,hq⟩:=zX a.kids.length
 obtain⟨P,F⟩:=zX a.kids
 rw[<-F]at bD g;obtain⟨pp,cp,cg,bU,ej,cU⟩:=ll.slice aI.rowOf;rw[<-hq]at cg bU hn;rw[<-F]at cU;rw[cg];obtain⟨mQ,ii,HLR⟩:=ds g hI lr;refine FR ?_;intro dB HBZ HM HO HE;obtain⟨ft,dW,HA,pP,qv,tU,HP,HQ,iP,HD,du,HZ⟩:=oh aI hf hA bD cg cU F (show q=P.length by rw[hq,F]) cT hD (Yu hb hs) hz;have ni:q<=9223372036854775807:=Px
 clear hz aD lf lr aP aI ha hf h hI hA g cg cU F hq bD cT hD hb hs;go_enter func24,ntmps24
 go_wp2_with fail
 rw[<-HZ.o];go_loopw [18] (λi wr=>∃(k:Nat) (Mk:MRep) (p:MSt),k<=q/\i=(vI k)/\Hid (MAt C Mk wr p)/\Hid (MFr M Mk z wr)/\Hid (Inv p d)/\Hid (Ext s p/\p.steps<=20000)/\Hid (R=oB D sc fr ((P.drop k).map (ATree.nt C.N)) p)) (λi _=>q-(intOf i).toNat)
 case atStart=>exact⟨0,M,s,Yh _,rfl,HM,lh (.refl _ _),ii,lh ⟨Ext.refl s,du.o.2⟩,lh (by rw[List.drop_zero];exact mQ.o)⟩
 case round=>
  obtain⟨k,Mk,p,hk,rfl,U,m,ep,dG,y⟩:=hrel;by_cases bX:k<q
  .obtain⟨x,hx⟩:∃x,P[k]? =some x:=⟨_,Y6 QH⟩
   obtain⟨g0,hp⟩:=tU.o k x hx;subst hp;have aT:x∈P:=Yd hx;have bJ:x∈a.kids:=by rw[<-HP.o];exact aT
   obtain⟨wx,mx⟩:=pP.o x aT;have dP:=m.o.tree ft.o dW.o;have ae:=dP.1.rowOf;rw[qv.o]at ae;have cx:wr.cell? ⟨g0,k,none⟩=some (vP x.b):=ll.cell ae (b:=g0) rfl (by rw[<-HP.o];exact hx);obtain⟨f0,f1⟩:=(dB.o.fr m.o).two;obtain⟨r1,bz⟩:=zX (D (x.nt C.N) sc fr p)
   have I:=dG.o;have gz:b<=p.steps:=Int.le_trans du.o.1 I.1.steps;have bE:=lh (iP.o.from U.o ep.o (HA.o.ext I.1) gz I.2 wx mx (dP.1.kid bJ) (dP.2.kid bJ) wr (Y2 _ _));have an:=(HD.o (x.nt C.N) sc fr p _ wx mx ep.o (HA.o.ext I.1) gz I.2).1;have g:=y.o;rw[show P.drop k=x::P.drop (k+1) by
    obtain⟨hl,he⟩:=List.getElem?_eq_some_iff.1 hx;rw[Yt hl,he],List.map_cons,Zju]at g
   rw[<-bz]at bE an g;have J:=lh g;have bI:=lh an;clear g an bz dP ae aT bJ I gz;go_wp2_with fail
   refine bE.o.mono ?_;rintro e O⟨M1,bk,k1,n1,t1,bL,rfl,ah⟩;have F1:=m.o.trans ah.2.1;have tV:=Lo.new (wE:=z) ah.1 F1.size (Y4 HO.o HE.o) #[vI k1,vI n1,.string t1] 56;obtain⟨W2,gF⟩:=zX (O.alloc (vO k1 n1 t1))
   have ar:=Z1 O (vO k1 n1 t1);unfold vO at gF ar;rw[<-gF]at tV ar;obtain⟨b0,b1,b2,-,-,-⟩:=tV.six;obtain⟨jS,av,bw,aN,fq⟩:=gp tV ah F1 ar gF;have li:O.heap.size≠w.heap.size+1:=by have:=HLR.o.lt;have h2:=bw.o.size;omega
   have ba:=lh (bw.o.trans (.of_below aN.o));obtain⟨q0,q1,q2,z0,z1,z2⟩:=(HLR.o.fr ba.o).six;clear ah F1 tV ar gF f0 f1 cx;simp only[ag];obtain⟨s1,jm⟩:=r1;cases jm with
   |error Y=>
     have he:ax C M1 O Y bL:=av.o.2.2;have u:R=(s1,.error Y):=J.o;clear J;subst u;have ed:=lh (he.bel aN.o);obtain⟨T1,P1,rfl,F⟩:=he.ne;clear he;cases bk
     all_goals
      go_wp2_with fail
      rw[<-fq.o];obtain⟨p1,Z⟩:=zX O.heap.size
      rw[<-Z]at b0 b1 b2 li ⊢;clear Z;refine WQ ?_;refine sU ?_
     .skip
      go_wp2;refine Yp (v:=.tuple #[.bool false,.agg #[vI k1,vI n1,.string t1],.iface T1 (.pointer P1)]) ?_ rfl ?_;·exact Zpc
      .exact Zwr
     .skip
      go_wp2;refine Yp (v:=.tuple #[.bool true,.agg #[vI k1,vI n1,.string t1],.iface T1 (.pointer P1)]) ?_ rfl ?_;·exact Zpc
      .exact Zwr
   |ok v1=>
     obtain⟨rfl,rfl⟩:v1=(bk,⟨k1,n1,t1⟩)/\bL=.nilIface:=av.o.2.2;cases bk
     .have u:R=oB D sc fr ((P.drop (k+1)).map (ATree.nt C.N)) s1:=J.o;have bA:=lh u;clear J u;obtain⟨i1,Y,-,em,i2⟩:=bI.o;have eC:=lh i1;have lg:=lh (Yu (dG.o.1.trans Y) i2);clear i1 Y em i2;go_wp2_with fail
      rw[<-fq.o];go_roundw
      case rel=>exact⟨k+1,M1,s1,by omega,by go_num,lh (av.o.1.below aN.o),ba,eC,lg,bA⟩
      case measure=>simp[intOf];omega
     .have u:R=(s1,.ok (true,⟨k1,n1,t1⟩)):=J.o;clear J;subst u;go_wp2_with fail
      rw[<-fq.o];obtain⟨p1,Z⟩:=zX O.heap.size
      rw[<-Z]at b0 b1 b2 li ⊢;clear Z;refine WQ ?_;refine sU ?_;go_wp2;refine Yp (v:=.tuple #[.bool true,.agg #[vI k1,vI n1,.string t1],.nilIface]) ?_ rfl ?_;·exact Zpc
      .exact .fine HLR.o HBZ.o (av.o.1.below aN.o).drew (ba.o.trans (.drew (.refl _ _)))
  .have aR:k=q:=by omega
   subst aR;have g:=y.o;rw[List.drop_eq_nil_of_le QT]at g;have u:R=(p,.ok (false,⟨0,0,⟨#[]⟩⟩)):=g;subst u;obtain⟨q0,q1,q2,z0,z1,z2⟩:=(HLR.o.fr m.o).six;clear g y;go_wp2;refine Yp (v:=.tuple #[.bool false,.agg #[vI 0,vI 0,.string ⟨#[]⟩],.nilIface]) ?_ rfl ?_;·exact Zpc
   .exact .fine HLR.o HBZ.o U.o m.o
theorem Z76{p:MSt->kB->MSt}{g:MSt->kB->LVal->MSt}{x:NT}{l:List NT}:s.funcs p g (x::l) sc fr=(g ((p s x.text).funS x sc fr) x.text (.ref (p s x.text).nextO)).funcs p g l sc fr:=rfl
def Z32(F:C.Ok)(h:MAt C M w s)(hI:Inv s (d+4))(ha:TreeAt w B a)(hf:a.free M)(g:KU (a.nt C.N))(sc:Int)(fr:Frm)(m:0<=sc)(h1:sc<s.H.scopes.length) :
 kC 23 #[vP C.mb,a.ptr,vI sc,.agg #[.bool fr.strict,vI fr.vars]] w λe w'=>e=.returned (.agg #[vI 5,vI s.nextO,.string ⟨#[]⟩])/\Does C M w (s.funS (a.nt C.N) sc fr) w':=by
 obtain⟨p,b,hk,-⟩:=Z8g g;rw[Zu,AC]at hk;obtain⟨pn,body,u⟩:∃pn body,a.kids=[pn,body]:=by
  match hl:a.kids,hk with
  | [],hk=>simp at hk
  | [x],hk=>simp at hk
  | [x,y],hk=>exact⟨x,y,rfl⟩
  |x::y::z::l,hk=>simp at hk
 cases hnm:(a.nt C.N).named;·exact Zbu h hI ha hf u hnm sc fr m h1 g
 .exact Zbg F h hI ha hf u hnm sc fr m h1 g
def Zl9(hC:C.Ok)(cT:G8 C D b)(hD:DH D b)(h:MAt C M w s)(hI:Inv s (d+12000))(hA:FAt s sc fr)(hb:b<=s.steps)(hs:s.steps<=20000)(ha:TreeAt w B a)(hf:a.free M)(hst:(a.nt C.N).stm)(hm:(a.nt C.N).tree.many<=1500)(Pa:a.many<=1500) :
 kC 81 #[vP C.mb,a.ptr,vI sc,.agg #[.bool fr.strict,vI fr.vars]] w λe w'=>je C M w (UG D (a.nt C.N) sc fr s) e w':=by
 obtain⟨R,hR⟩:=zX (UG D (a.nt C.N) sc fr s)
 rw[<-hR];unfold UG at hR;rw[Z9p,Zu,AC]at hR;have ao:=X8 hst hm;have Cn:a.kids.length<=1500:=Qf
 refine Om ?_;intro aP lf lr z hz;rw[<-hz]at aP lf lr;refine Sp ?_;intro aD aI;refine SK ?_;intro q hq pp cp cg bU ej cU;rw[<-hq]at cg bU;obtain⟨HC,qv,HLR⟩:=ds hC cg lr;refine FR ?_;intro dB HBZ HM HO HE;obtain⟨F,O,HA,HI,HN,pP,iP,HD,du,HZ⟩:=lB aI hf hA hI Cn (show∀x∈a.kids,(x.nt C.N).wf .s/\(x.nt C.N).tree.many<=1500 from λx hx=>ao (x.nt C.N) Qv) cT hD (Yu hb hs) hz
 have rT:=lh (Zan false z B a aI Px);obtain⟨nl,tH⟩:=zX (La false a)
 rw[<-tH]at rT hR;have mQ:=lh hR;have vT:=lh (Yu hst hm);clear hz aD lf lr aP aI ha hf h hI hA hR cg cU hq ao Cn cT hD hb hs hC hst hm tH;unfold ATree.ptr at rT ⊢;go_enter func81,ntmps81
 go_wp2_with fail
 rw[<-HZ.o];refine rT.o.mono ?_;rintro e w1⟨v1,rfl,nn,aO⟩;obtain⟨p1,Pb,rfl,MD,ME,FL⟩:=nn.form2;obtain⟨av,bw,bT⟩:=ds aO (MFr.of_below (M:=M) aO) (HM.o.below aO);clear nn aO FL;cases hn0:nl.isEmpty
 .have h0:decide (0<nl.length)=true:=by
   cases nl with
   |nil=>simp at hn0
   |cons x l=>simp
  have I:=mQ.o;rw[hn0]at I;simp only[Bool.false_eq_true,if_false]at I;have fY:=lh I;have eE:=HI.o.opens (d:=d+11999) (outer:=sc) (object:=-1) (owner:=C.N a.b) (by have:=HA.o.lo;omega) HA.o.hi Px Px;obtain⟨nx,ez⟩:=zX s.next
  obtain⟨so,aU⟩:=zX (s.opens sc (-1) (C.N a.b))
  have nr:=FAt.opens HA.o eE.2;rw[<-aU,<-ez]at nr;rw[<-aU]at eE;have fF:so.steps=s.steps/\so.calls=s.calls:=by rw[aU];exact⟨rfl,rfl⟩
  have oG:=lh (Z5o HC.o bT.o (F.o.bel av.o));simp only[ATree.ptr]at oG;have eD:=Wm bT.o HI.o sc (-1) (C.N a.b);rw[<-aU,<-ez]at eD;have jE:=lh eD;obtain⟨U,bV⟩:=zX (so.lets (a.nt C.N).lets nx)
  have fe:=VO (s:=so) (l:=(a.nt C.N).lets) (sc:=nx) (d:=d+10000) (eE.1.less (by have:=Z70 (n:=a.nt C.N);have:=SP (n:=a.nt C.N);have:=vT.o.2;omega));rw[<-bV]at fe;have tJ:U.steps=so.steps/\U.calls=so.calls:=by rw[bV];exact⟨Z59.2,Z59.1⟩
  obtain⟨Q,hQ⟩:=zX (a.kids.filter xk)
  have am:R=oB D nx fr (a.kids.map (ATree.nt C.N)) (U.funcs (λs _=>s) (λt a v=>t.declare nx a 0 v) (Q.map (ATree.nt C.N)) nx fr):=by
   rw[fY.o,ez];unfold MSt.blockS;rw[Zcc,<-aU,<-ez,<-bV,ZS,<-hQ]
  have JR:Q.length<=1500:=by rw[hQ];exact Y4 (List.length_filter_le _ _) HN.o
  have nY:=lh (show∀x∈Q,KU (x.nt C.N)from λx hx=>V1 vT.o.1 vT.o.2 (x.nt C.N) (by rw[ZS,<-hQ];exact List.mem_map.2 ⟨x,hx,rfl⟩));obtain⟨MF,ng,xT,FM,JS,bA,j8,HQ,JT⟩:=ld (show∀x∈Q,x∈a.kids from λx hx=>(List.mem_filter.1 (hQ▸hx)).1) eE fe nr (Yu fF tJ) am bV hQ JR;clear mQ fY I eE nr fF eD fe tJ am ez aU bV hQ JR;go_wp2_with fail
  refine oG.o.mono ?_;rintro e w2⟨rfl,rfl⟩;go_wp2_with fail
  refine jE.o.mono ?_;rintro e w3⟨rfl,M3,dC,bg⟩;have bK:=lh (bw.o.trans bg);have dE:=lh dC;clear dC bg;have ay:=Z84 dE.o (d:=d+10000) (ng.o.1.less QJ) (bK.o.tree F.o O.o).1 (bK.o.tree F.o O.o).2 QJ nx;rw[<-j8.o]at ay;have si:=lh ay;simp only[ATree.ptr]at si;clear ay;go_wp2_with fail
  refine si.o.mono ?_;rintro e w4⟨rfl,M4,fC,be⟩;have ko:=lh (bK.o.trans be);have iZ:=lh fC;clear fC be;have ot:=YN w4 B a (ko.o.tree F.o O.o).1 QJ;rw[<-HQ.o]at ot;have mv:=lh ot;simp only[ATree.ptr]at mv;clear ot;go_wp2_with fail
  refine mv.o.mono ?_;rintro e w5⟨v5,rfl,hZ,eM⟩;obtain⟨p5,rc,rfl,jh,mP,gC⟩:=hZ.slice;have gB:∀g,(Value.slice p5 Q.length rc).ownBlock=some g->¬M4.has g:=λg hg=>iZ.o.fresh (Y9 hZ g hg).1;obtain⟨m,eT⟩:=zX Q.length
  rw[<-eT]at jh hZ gB ⊢;obtain⟨rn,ro,N5,kK,io,HQ1⟩:=gq (iZ.o.below eM) (ko.o.trans (.of_below eM)) hZ gB gC eT;have kY:m<=9223372036854775807:=by have:=JT.o;omega
  clear hZ eM gC gB eT;go_wp2_with fail
  go_loopw [30] (λi wr=>∃(k:Nat) (X:MRep) (u:MSt),k<=m/\i=(vI k)/\Hid (MAt C X wr u)/\Hid (MFr M4 X w5 wr)/\Hid (Inv u (d+6*(m-k)))/\Hid (Ext U u/\u.steps=U.steps)/\Hid (R=oB D nx fr (a.kids.map (ATree.nt C.N)) (u.funcs (λs _=>s) (λt a v=>t.declare nx a 0 v) ((Q.drop k).map (ATree.nt C.N)) nx fr))) (λi _=>m-(intOf i).toNat)
  case atStart=>exact⟨0,M4,U,Yh _,rfl,rn,lh (.refl _ _),lh (xT.o.1.less (by have:=JT.o;have:=HQ1.o;omega)),lh ⟨Ext.refl _,rfl⟩,lh (by rw[List.drop_zero];exact bA.o)⟩
  case round=>
   obtain⟨k,X,u,hk,rfl,HMk,J,ep,dG,Y⟩:=hrel;by_cases bX:k<m
   .obtain⟨x,hx⟩:∃x,Q[k]? =some x:=⟨_,Y6 PP⟩
    obtain⟨g0,hp⟩:=io.o k x hx;subst hp;have aT:x∈Q:=Yd hx;have bJ:=MF.o x aT;have cx:=(J.o.nodes N5.o kK.o).cell rfl hx;have p:=lh (ro.o.trans J.o);have dP:=p.o.tree F.o O.o;have mh:=dP.1.kid bJ;have fR:=dP.2.kid bJ;have nM:=ep.o.less (d':=d+6*(m-(k+1))+6) Px;have ic:0<=nx/\nx<u.H.scopes.length:=⟨FM.o.lo,by have h1:=FM.o.hi;have h2:=xT.o.2.ls;have h3:=dG.o.1.ls;omega⟩
    have gG:=Z32 HC.o HMk.o.drew (d:=d+6*(m-(k+1))+2) (nM.less Px) mh.drew fR (nY.o x aT) nx fr ic.1 ic.2;obtain⟨no,dO⟩:=zX u.nextO
    obtain⟨sf,jj⟩:=zX (u.funS (x.nt C.N) nx fr)
    rw[<-dO,<-jj]at gG;have iz:=lh gG;simp only[ATree.ptr]at iz;obtain⟨j1,j2,j3⟩:=Z74 (d:=d+6*(m-(k+1))+1) (n:=x.nt C.N) (sc:=nx) (fr:=fr) (nM.less Px) (nY.o x aT) ic.1 ic.2;have vU:=(Z6h (s:=u) (sc:=nx) (fr:=fr) (n:=x.nt C.N)).2;rw[<-jj]at j1 j2 j3 vU;obtain⟨l1,l2⟩:=Uw (d:=d+6*(m-(k+1))) (sc:=nx) (name:=x.text) (kind:=0) (v:=.ref no) j1 (Te (by rw[dO];show(0:Int)<=u.H.objects.length;omega) (by rw[j3,dO];show(u.H.objects.length:Int)<_;omega)) Py Py
    have hR:=Y.o;rw[show Q.drop k=x::Q.drop (k+1) by
     obtain⟨hl,he⟩:=List.getElem?_eq_some_iff.1 hx;rw[Yt hl,he],List.map_cons,Z76,rH,<-jj,<-dO]at hR
    have lu:=lh (show∀W M',MFr X M' wr W->vC W x.b 1 (.string x.text)/\vC W w.heap.size 0 (.bool fr.strict)/\vC W w.heap.size 1 (vI fr.vars)from
     λW M' f=>⟨(f.tree mh fR).1.c1,(dB.o.fr (p.o.trans f)).cell rfl,(dB.o.fr (p.o.trans f)).cell rfl⟩)
    obtain⟨dQ,MG,jS,lg⟩:=en hR j1 l1 (show Ext U (sf.declare nx x.text 0 (.ref no))/\(sf.declare nx x.text 0 (.ref no)).steps=U.steps from⟨(dG.o.1.trans j2).trans l2,vU.trans dG.o.2⟩);clear aT bJ dP mh fR nM ic gG dO jj j1 j2 j3 vU l1 l2 hR;go_wp2_with fail
    refine ow [(true,0),(true,1),(true,2),(true,3),(true,4),(true,5),(true,6),(true,7),(true,8),(true,9),(true,10),(true,11),(false,12)] [13] (λW=>vC W x.b 1 (.string x.text)/\vC W w.heap.size 0 (.bool fr.strict)/\vC W w.heap.size 1 (vI fr.vars)) (lu.o _ _ (.drew (.refl _ _))) (λbq=>?_);refine f8 ?_;intro K hK;refine iz.o.mono ?_;rintro e w7⟨rfl,M7,km,dJ⟩;have F7:=(MFr.drew (.refl X wr)).trans dJ;refine hK _ _ (lu.o _ _ F7) ?_;clear hK K cx
    have eV:=Vp km MG.o nx x.text 0 (.ref no);simp only[LVal.agg,LVal.ref]at eV;have lZ:=lh eV;have tz:=lh (J.o.trans F7);clear km dJ F7 eV;refine Z0 ?_;go_wp2_with fail
    refine lZ.o.mono ?_;rintro e w8⟨rfl,M8,tW,sM⟩;have FN:=lh tW;have FO:=lh (tz.o.trans sM);clear tW sM;go_wp2_with fail
    go_roundw
    case rel=>exact⟨k+1,M8,_,by omega,by go_num,FN,FO,jS,lg,dQ⟩
    case measure=>simp[intOf];omega
   .have aR:k=m:=by omega
    subst aR;have hR:=Y.o;rw[List.drop_eq_nil_of_le Qx]at hR;obtain⟨HR,p,MH⟩:=ds (show R=oB D nx fr (a.kids.map (ATree.nt C.N)) u from hR) (ro.o.trans J.o) ((FM.o.ext xT.o.2).ext dG.o.1);have qT:=lh (show b<=u.steps/\u.steps<=20000 by have h1:=dG.o.2;have h2:=JS.o.1.1;have h3:=JS.o.2.1;have h4:=du.o;omega);clear hR Y
    have uG:=lh (show∀y M',MFr X M' wr y->vC y w.heap.size 0 (.bool fr.strict)/\vC y w.heap.size 1 (vI fr.vars)/\vC y a.b 3 (.slice pp q cp)from
     λy M' f=>⟨(dB.o.fr (p.o.trans f)).cell rfl,(dB.o.fr (p.o.trans f)).cell rfl,by have:=((p.o.trans f).tree F.o O.o).1.c3;rwa[qv.o]at this⟩)
    have Z:=p.o.tree F.o O.o;have hst:=Z5c iP.o HD.o HMk.o.drew ep.o MH.o qT.o.1 qT.o.2 Z.1.drew Z.2 HN.o pP.o;rw[qv.o]at hst;have mr:=lh (Calls.dres hst);clear Z hst;go_wp2_with fail
    refine Xd ?_;intro bq;refine f8 ?_;intro K hK;refine mr.o.mono ?_;rintro e W9⟨M9,b9,k9,n9,t9,BU,rfl,fI⟩;have F9:=(MFr.drew (.refl X wr)).trans fI.2.1;refine hK _ _ (uG.o _ _ F9) ?_;clear hK K;have eH:=lh fI;have rh:=lh (p.o.trans F9);clear fI F9;refine B' ?_;obtain⟨q0,q1,q2,z0,z1,z2⟩:=(HLR.o.fr rh.o).six;have hR:=HR.o;obtain⟨r9,Dy⟩:=zX (oB D nx fr (a.kids.map (ATree.nt C.N)) u)
    exact Abl
 .have I:=mQ.o;rw[hn0]at I;simp only[if_true]at I;have HR:=lh I;have FP:nl=[]:=List.isEmpty_iff.1 hn0;subst FP;clear mQ I hn0
  have uG:=lh (show∀y M',MFr M M' w1 y->vC y w.heap.size 0 (.bool fr.strict)/\vC y w.heap.size 1 (vI fr.vars)/\vC y a.b 3 (.slice pp q cp)from
   λy M' f=>⟨(dB.o.fr (bw.o.trans f)).cell rfl,(dB.o.fr (bw.o.trans f)).cell rfl,by have:=((bw.o.trans f).tree F.o O.o).1.c3;rwa[qv.o]at this⟩)
  have Z:=bw.o.tree F.o O.o;have hst:=Z5c iP.o HD.o bT.o.drew HI.o HA.o du.o.1 du.o.2 Z.1.drew Z.2 HN.o pP.o;rw[qv.o]at hst;have mr:=lh (Calls.dres hst);clear Z hst;go_wp2_with fail
  refine Xd ?_;intro bq;refine f8 ?_;intro K hK;refine mr.o.mono ?_;rintro e W9⟨M9,b9,k9,n9,t9,BU,rfl,fI⟩;have F9:=(MFr.drew (.refl M w1)).trans fI.2.1;refine hK _ _ (uG.o _ _ F9) ?_;clear hK K;have eH:=lh fI;have rh:=lh (bw.o.trans F9);clear fI F9;refine B' ?_;obtain⟨q0,q1,q2,z0,z1,z2⟩:=(HLR.o.fr rh.o).six;have hR:=HR.o;obtain⟨r9,Dy⟩:=zX (oB D sc fr (a.kids.map (ATree.nt C.N)) s)
  exact Abl
end
section
variable {C:RCtx}{M M1:MRep}{w z W:kV}{s:MSt}{B:Nat}{a:ATree}{d fb:Nat}{st:Bool}{A:Act}{K:Act->kV->Prop}{Q:Exit->Act->kV->Prop}
def SZ(s:MSt)(t:kB):MSt:=if s.H.has 0 t then s else s.put 0 t LVal.zero true
def Zes{t:kB}(h:Inv s (d+1)):Inv (SZ s t) d/\Ext s (SZ s t):=by
 unfold SZ;split;·exact⟨h.less Px,Ext.refl _⟩
 .exact Ez h (sn _)
def Zjf{t:kB}:(SZ s t).glob=s.glob/\(SZ s t).outer=s.outer/\(SZ s t).top=s.top:=by
 unfold SZ;split<;>exact⟨rfl,rfl,rfl⟩
def Zv1(hM:MAt C M1 W s)(hg:s.glob=0)(ho:s.outer=0)(ha:TreeAt W B a)(hm:a.many<=1500)(hI:Inv s (d+(zt a).length))(fr:FrA 201 (O' C w a [(6,vP fb)]) [] A)
 (F:∀A' X M',FrA 201 (O' C w a [(6,vP fb)]) [] A'->MAt C M' X ((a.nt C.N).vars.foldl SZ s)->MFr M1 M' W X->K A' X)(hQ:∀c a d v w,Q (.panic c) (Act.put a d v) w->Q (.panic c) a w) :
 (fD [1,1,1,1,1,1,1,1,1,1,0]).wp Tryz.prog (Exit.then K Q) A W:=by
 rw[VY]at F;have HL:=lh (Z89 W B a ha Px);obtain⟨P,hP⟩:=zX (zt a)
 obtain⟨S,Y⟩:=zX (P.foldl SZ s)
 rw[<-hP]at HL F hI;rw[<-Y]at F;obtain⟨HKK,sj,HM,HG,fA⟩:=gp F Y hM (Yu hg ho) hQ;unfold O' at fr;obtain⟨xt,rfl,e0,e2,e5,e6,-⟩:=Zcn fr;rw[e0,e2,e5,e6];clear e0 e2 e5 e6 fr;clear hM F hP Y ha hm hg ho hQ;unfold ATree.ptr at HL;conv=>arg 2;whnf
 go_wp2_with fail
 refine HL.o.mono ?_;rintro e w2⟨v2,rfl,cG,aA,nC⟩;obtain⟨p2,jR,rfl,dF,fQ,dc⟩:=cG.form2;refine Zxl ?_;intro gQ;refine Og ?_;intro q cS ni;have eJ:=lh cG;have kK:=lh gQ;rw[<-cS]at dF hI ⊢;obtain⟨gR,HQ1,aN,ii⟩:=en dc cS aA hI;clear cG aA dc gQ cS HL nC hI;go_wp2_with fail
 go_loopw [90] (λi wr=>∃(k:Nat) (Mk:MRep) (sk:MSt),k<=q/\i=(vI k)/\Hid (MAt C Mk wr sk)/\Hid (MFr M1 Mk w2 wr)/\Hid (Inv sk (d+(q-k)))/\Hid (sk.glob=0/\sk.outer=0)/\Hid (S=(P.drop k).foldl SZ sk)) (λi _=>q-(intOf i).toNat)
 case atStart=>exact⟨0,M1,s,Yh _,rfl,lh (HM.o.below aN.o),lh (.refl _ _),ii,HG,lh Qw⟩
 case round=>
  obtain⟨k,Mk,sk,hk,rfl,HMk,HFk,ep,I,HRk⟩:=hrel;by_cases bX:k<q
  .obtain⟨y,hy⟩:∃y,P[k]? =some y:=⟨_,Y6 PP⟩
   obtain⟨g0,hp⟩:=gR.o k y hy;subst hp;obtain⟨mC,i'⟩:=kK.o g0 rfl;have cx:=(HFk.o.cell mC i').trans (eJ.o.cells rfl hy);obtain⟨u,J,-⟩:=HMk.o.gl;rw[I.o.1]at u;rw[I.o.2]at J;have hR:=HRk.o;rw[show P.drop k=y::P.drop (k+1) by
    refine XQ ?_;intro hl he;rw[Yt hl,he],List.foldl_cons]at hR
   obtain⟨m,Z⟩:=zX (SZ sk y)
   have jq:=Zes (d:=d+(q-(k+1))) (t:=y) (ep.o.less Px);have O:=Zjf (s:=sk) (t:=y);rw[<-Z]at hR jq O;obtain⟨HR,tv,JU⟩:=ds hR jq.1 (show m.glob=0/\m.outer=0 from⟨O.1.trans I.o.1,O.2.1.trans I.o.2⟩);have FS:=Wj HMk.o.drew 0 y;obtain⟨hb,cA⟩:=zX (sk.H.has 0 y)
   rw[<-cA]at FS;have MI:=lh FS;have vF:=lh (show m=if hb then sk else sk.put 0 y LVal.zero true by rw[Z,cA];rfl);clear hy mC i' hR jq O FS cA Z;go_wp2_with fail
   refine Z9 [(true,0),(true,1),(true,2),(true,3),(true,4),(true,5),(true,6),(true,7)] [8,9] (λW=>vC W C.mb 11 (vI 0)) Pz Pz (λc a d v w h=>fA.o c a d v w h) J (λbq=>?_);refine oK ?_;refine Z0 ?_;go_wp2_with fail
   refine MI.o.mono ?_;rintro e W3⟨rfl,p⟩;have dE:=lh (HMk.o.drew.below p);have bK:=lh (HFk.o.trans ((MFr.drew (.refl Mk wr)).trans (.of_below p)));clear p u J cx;cases hb
   .have hpt:=B7 dE.o.drew ep.o 0 y LVal.zero true;have U:m=sk.put 0 y LVal.zero true:=vF.o;rw[<-U]at hpt;simp only[LVal.agg,LVal.zero]at hpt;have kp:=lh hpt;obtain⟨u,J,-⟩:=dE.o.gl;rw[I.o.1]at u;clear U hpt J;go_wp2_with fail
    refine Z9 [(true,0),(true,1),(true,2),(true,3),(true,4),(true,5),(true,6),(true,7),(true,8)] [9] (λW=>vC W C.mb 10 (vI 0)) Pz Pz (λc a d v w h=>fA.o c a d v w h) u (λbq=>?_);refine oK ?_;refine Z0 ?_;go_wp2_with fail
    refine kp.o.mono ?_;rintro e W4⟨rfl,M4,fC,be⟩;have iZ:=lh fC;have ko:=lh (bK.o.trans ((MFr.drew (.refl Mk W3)).trans be));clear fC be u;go_wp2_with fail
    go_roundw
    case rel=>exact⟨k+1,M4,m,by omega,by go_num,iZ,ko,tv,JU,HR⟩
    case measure=>simp[intOf];omega
   .have U:m=sk:=vF.o;subst U;go_wp2_with fail
    go_roundw
    case rel=>exact⟨k+1,Mk,m,by omega,by go_num,dE,bK,tv,JU,HR⟩
    case measure=>simp[intOf];omega
  .have aR:k=q:=by omega
   exact tu2 aN
def Zu6(g:MAt C M1 W s)(ht:s.top=1)(ha:TreeAt W B a)(hf:a.free M1)(hn:a.kids.length<=1500)(hI:Inv s (d+a.kids.length))(fr:FrA 201 (O' C w a [(6,vP fb)]) [] A)
 (m:∀y p M',FrA 201 (O' C w a [(6,vP fb)]) [] y->MAt C M' p (s.lets (a.nt C.N).lets 1)->MFr M1 M' W p->K y p) :
 (fD [1,1,1,1,1,1,1,1,1,1,1,0]).wp Tryz.prog (Exit.then K Q) A W:=by
 have hl:=Z84 g hI ha hf Px 1;obtain⟨S,F⟩:=zX (s.lets (a.nt C.N).lets 1)
 rw[<-F]at hl m;unfold ATree.ptr at hl;have HL:=lh hl;have u:=lh m;obtain⟨-,-,Z⟩:=g.gl;rw[ht]at Z;unfold O' at fr;obtain⟨xt,rfl,I,J,O,U,-⟩:=Zcn fr;rw[I,J,O,U];clear I J O U fr;clear m g hI ha hf hl F ht;conv=>arg 2;whnf
 go_wp2_with fail
 refine HL.o.mono ?_;rintro e w2⟨rfl,M2,X,Y⟩;have bR:=lh X;have ba:=lh Y;clear X Y;go_wp2_with fail
 exact u.o _ _ M2 ⟨rfl,⟨rfl,rfl,rfl,rfl,trivial⟩,rfl⟩ bR.o ba.o
def Zpw(hC:C.Ok)(hM:MAt C M1 W s)(hg:s.glob=0)(ht:s.top=1)(ha:TreeAt W B a)(hf:a.free M1)(iS:(a.nt C.N).stm/\(a.nt C.N).tree.many<=1500)(hn:a.kids.length<=1500){wF:kV}(lf:Lo C M1 wF W fb #[.bool st,vI 0] 63)
 (hI:Inv s (d+6*(a.nt C.N).funcs.length))(h1:1<s.H.scopes.length)(fr:FrA 201 (O' C w a [(6,vP fb)]) [] A)
 (p:∀A' W' M',FrA 201 (O' C w a [(6,vP fb)]) [] A'->MAt C M' W' (s.funcs (λs _=>s) (λs t v=>s.put 0 t v true) (a.nt C.N).funcs 1 ⟨st,0⟩)->MFr M1 M' W W'->K A' W')(hQ:∀c a d v w,Q (.panic c) (Act.put a d v) w->Q (.panic c) a w) :
 (fD [1,1,1,1,1,1,1,1,1,1,1,1,0]).wp Tryz.prog (Exit.then K Q) A W:=by
 have iI:=V1 iS.1 iS.2;rw[ZS]at p hI iI;have HL:=lh (YN W B a ha Px);obtain⟨P,hP⟩:=zX (a.kids.filter xk)
 rw[<-hP]at HL p hI iI;refine Zrd ?_;intro nj;have vJ:P.length<=1500:=Qo
 obtain⟨S,mR⟩:=zX (s.funcs (λs _=>s) (λs t v=>s.put 0 t v true) (P.map (ATree.nt C.N)) 1 ⟨st,0⟩)
 rw[<-mR]at p;rw[Ym]at hI;refine Zsm ?_;intro nY;obtain⟨qy,mg,HKK,fA,HM,dB,sj,j9,HI,HG⟩:=lB hC (Yu ha hf) p hQ hM lf mR h1 hI (Yu hg ht);unfold O' at fr;obtain⟨xt,rfl,e0,e2,e5,e6,-⟩:=Zcn fr;rw[e0,e2,e5,e6];clear e0 e2 e5 e6 fr;clear hC hM ha hf p hP mR hI h1 iS iI hQ lf hg ht;unfold ATree.ptr at HL;conv=>arg 2;whnf
 go_wp2_with fail
 refine HL.o.mono ?_;rintro e w5⟨v5,rfl,hZ,eM⟩;obtain⟨p5,rc,rfl,jh,mP,gC⟩:=hZ.slice;refine WC ?_;intro gB m eT;rw[<-eT]at jh hZ gB ⊢;have gI:=lh eM;have rn:=lh (HM.o.below eM);refine Zw9 ?_;intro N5 kK io HQ1 kY;clear hZ eM gC gB eT HL;go_wp2_with fail
 go_loopw [125] (λi wr=>∃(k:Nat) (Mk:MRep) (sk:MSt),k<=m/\i=(vI k)/\Hid (MAt C Mk wr sk)/\Hid (MFr M1 Mk w5 wr)/\Hid (Inv sk (d+6*(m-k)))/\Hid (Ext s sk)/\Hid (S=sk.funcs (λs _=>s) (λs t v=>s.put 0 t v true) ((P.drop k).map (ATree.nt C.N)) 1 ⟨st,0⟩)) (λi _=>m-(intOf i).toNat)
 case atStart=>exact⟨0,M1,s,Yh _,rfl,rn,lh (.refl _ _),lh (HI.o.less RO),lh (Ext.refl _),lh Qw⟩
 case round=>
  obtain⟨k,Mk,sk,hk,rfl,HMk,HFk,ep,I,HRk⟩:=hrel;by_cases bX:k<m
  .obtain⟨y,hy⟩:∃y,P[k]? =some y:=⟨_,Y6 PP⟩
   obtain⟨g0,hp⟩:=io.o k y hy;subst hp;refine Zwh ?_;intro aT bJ cx HFz;have dP:=HFz.o.tree mg.o.1 mg.o.2;have mh:=dP.1.kid bJ;have fR:=dP.2.kid bJ;have nM:=ep.o.less (d':=d+6*(m-(k+1))+6) Px;have ah:(1:Int)<sk.H.scopes.length:=by have h1:=j9.o;have h3:=I.o.ls;omega
   have yN:sk.glob=0:=I.o.glob.trans HG.o.1;have vW:sk.top=1:=I.o.top.trans HG.o.2;have gG:=Z32 qy.o HMk.o.drew (d:=d+6*(m-(k+1))+2) (nM.less Px) mh.drew fR (nY.o y aT) 1 ⟨st,0⟩ Py ah;obtain⟨J,u⟩:=zX sk.nextO
   obtain⟨O,U⟩:=zX (sk.funS (y.nt C.N) 1 ⟨st,0⟩)
   rw[<-u,<-U]at gG;have iz:=lh gG;simp only[ATree.ptr]at iz;obtain⟨X,F,j3⟩:=Z74 (d:=d+6*(m-(k+1))+1) (n:=y.nt C.N) (sc:=1) (fr:=⟨st,0⟩) (nM.less Px) (nY.o y aT) Py ah;rw[<-U]at X F j3;have jY:(LVal.ref J).ok O.H.objects.length:=Te (by rw[u];show(0:Int)<=sk.H.objects.length;omega) (by rw[j3,u];show(sk.H.objects.length:Int)<_;omega);obtain⟨sb,Y⟩:=zX (O.put 0 y.text (.ref J) true)
   have Z:=Ez (d:=d+6*(m-(k+1))) (o:=0) (name:=y.text) (v:=.ref J) (fx:=true) X jY;rw[<-Y]at Z;have hR:=HRk.o;rw[show P.drop k=y::P.drop (k+1) by
    refine XQ ?_;intro hl he;rw[Yt hl,he],List.map_cons,Z76,rH,<-U,<-u,<-Y]at hR
   obtain⟨bA,HJ,ti,tj,cE⟩:=gp hR X Z.1 ((I.o.trans F).trans Z.2) Y;have tX:O.glob=0:=F.glob.trans yN;have JV:O.top=1:=F.top.trans vW
   have lu:=lh (show∀W M' s',MAt C M' W s'->s'.glob=0->s'.top=1->MFr Mk M' wr W->vC W C.mb 10 (vI 0)/\vC W C.mb 12 (vI 1)/\vC W y.b 1 (.string y.text)/\vC W fb 0 (.bool st)/\vC W fb 1 (vI 0)from
    λW M' s' hm g1 g2 f=>⟨by have:=hm.gl.1;rwa[g1]at this,by have:=hm.gl.2.2;rwa[g2]at this,(f.tree mh fR).1.c1,(dB.o.fr (HFz.o.trans f)).cell rfl,(dB.o.fr (HFz.o.trans f)).cell rfl⟩)
   have CK:=lh (Yu (Yu yN vW) (Yu tX JV));clear dP mh fR nM ah yN vW gG u U X F j3 jY Y Z hR hy aT bJ tX JV;go_wp2_with fail
   refine Z9 [(true,0),(true,1),(true,2),(true,3),(true,4),(true,5),(true,6),(true,7),(true,8),(true,9),(true,10),(true,11),(true,12),(true,13),(true,14),(true,15),(true,16),(true,17),(false,18)] [19] (λW=>vC W C.mb 10 (vI 0)/\vC W C.mb 12 (vI 1)/\vC W y.b 1 (.string y.text)/\vC W fb 0 (.bool st)/\vC W fb 1 (vI 0)) Pz Pz (λc a d v w h=>fA.o c a d v w h) (lu.o _ _ _ HMk.o.drew CK.o.1.1 CK.o.1.2 (.drew (.refl _ _))) (λbq=>?_)
   refine f8 ?_;intro K hK;refine iz.o.mono ?_;rintro e W7⟨rfl,M7,km,dJ⟩;have F7:=(MFr.drew (.refl Mk wr)).trans dJ;refine hK _ _ (lu.o _ _ _ km CK.o.2.1 CK.o.2.2 F7) ?_;clear hK K cx;have hpt:=B7 km HJ.o 0 y.text (.ref J) true;rw[<-cE.o]at hpt;simp only[LVal.agg,LVal.ref]at hpt;have kp:=lh hpt;have tz:=lh (HFk.o.trans F7);clear km dJ F7 hpt;refine Z0 ?_;go_wp2_with fail
   refine kp.o.mono ?_;rintro e W8⟨rfl,M8,tW,sM⟩;have FN:=lh tW;have FO:=lh (tz.o.trans sM);clear tW sM;go_wp2_with fail
   go_roundw
   case rel=>exact⟨k+1,M8,sb,by omega,by go_num,FN,FO,ti,tj,bA⟩
   case measure=>simp[intOf];omega
  .have aR:k=m:=by omega
   exact tu2 gI
theorem Zm0:fD [1,1,1,1]=Code.seq (fD [1,1,1,1,0]) (Code.seq (fD [1,1,1,1,1,0]) (Code.seq (fD [1,1,1,1,1,1,0]) (Code.seq (fD [1,1,1,1,1,1,1,0]) (Code.seq (fD [1,1,1,1,1,1,1,1,0]) (Code.seq (fD [1,1,1,1,1,1,1,1,1,0]) (fD [1,1,1,1,1,1,1,1,1,1])))))):=by kernel_rfl
def Z68:(MSt.new.object 0).nextO=1/\(((MSt.new.object 0).object 1).put 0 Tc (.ref 1) false).nextO=2/\Tr.next=0:=by
 refine⟨rfl,?_,?_⟩;·rfl
 .rfl
def Zry(hM:MAt C M z MSt.new)(ha:TreeAt z B a)(hf:a.free M)(fr:FrA 201 (O' C w a []) [] A)
 (hN:∀A' W' M' fb,FrA 201 (O' C w a [(6,vP fb)]) [] A'->MAt C M' W' xz->MFr M M' z W'->Lo C M' z W' fb #[.bool (Zi a),vI 0] 63->(fD [1,1,1,1,1,1,1,1,1,1]).wp Tryz.prog Q A' W')(hQ:∀c a d v w,Q (.panic c) (Act.put a d v) w->Q (.panic c) a w) :
 (fD [1,1,1,1]).wp Tryz.prog Q A z:=by
 have HN:=lh hN;refine Zws ?_;intro fA;have HT:=lh (Yu ha hf);have HO:=lh hM.old.size;obtain⟨O,m⟩:=zX (MSt.new.object 0)
 obtain⟨u2,p⟩:=zX (O.object 1)
 obtain⟨u3,y⟩:=zX (u2.put 0 Tc (.ref 1) false)
 obtain⟨u4,I⟩:=zX (u3.object 2)
 obtain⟨u5,U⟩:=zX (u4.put 0 sW (.ref 2) false)
 obtain⟨J,Z⟩:=zX (u5.opens (-1) 0 (-1))
 obtain⟨u7,AD⟩:=zX (J.opens 0 (-1) 0)
 have n1:MSt.new.nextO=0:=rfl;have n2:O.nextO=1:=by rw[m];exact Z68.1
 have n3:u3.nextO=2:=by rw[y,p,m];exact Z68.2.1
 have n4:u5.next=0:=by rw[U,I,y,p,m];exact Z68.2.2
 have n5:J.next=1:=by rw[Z];unfold MSt.next MSt.opens;have:=n4;unfold MSt.next at this;simp only[zL,zM,zN];omega
 have g1:O.glob=0/\u2.glob=0/\u3.glob=0/\u4.glob=0/\u5.glob=0/\J.glob=0/\u7.glob=0:=by rw[AD,Z,U,I,y,p,m];exact⟨rfl,rfl,rfl,rfl,rfl,rfl,rfl⟩
 have o1:J.outer=0/\u7.outer=0:=by rw[AD,Z,U,I,y,p,m];exact⟨rfl,rfl⟩
 have e2:({u7 with top:=1}:MSt)=xz:=by rw[AD,Z,U,I,y,p,m];rfl
 have i0:Inv MSt.new 20000:=Zlh;have i1:Inv O 19999:=by rw[m];exact(i0.object (d:=19999) Py Py).1
 have i2:Inv u2 19998:=by rw[p];exact(i1.object (d:=19998) Py Px).1
 have F:u2.H.objects.length=2:=by rw[p,m];rfl
 have i3:Inv u3 19997:=by rw[y];exact(Ez (d:=19997) i2 (Te Py (by rw[F];decide))).1
 have i4:Inv u4 19996:=by rw[I];exact(i3.object (d:=19996) Py Px).1
 have vY:=Zad hM i0 0;rw[n1,<-m]at vY;obtain⟨AE,eC,oN,nT,FU⟩:=gp vY i1 i2 i3 i4;have i5:Inv u5 19995:=by
  have l4:u4.H.objects.length=3:=by rw[I,y,p,m];rfl
  rw[U];exact(Ez (d:=19995) i4 (Te Py (by rw[l4];decide))).1
 have MJ:=lh i5;have l5:0<u5.H.objects.length:=by rw[U,I,y,p,m];decide
 have i6:Inv J 19994:=by rw[Z];exact(i5.opens (d:=19994) Px Px Py Px).1
 obtain⟨MK,Ap,ML,MM,MN,HG,FV,nL,MO,MP,MQ,MR⟩:=oh i6 n2 n3 n4 n5 g1 o1 e2 p y I U;have MS:=lh Z;have MU:=lh AD;unfold O' at fr;obtain⟨xt,rfl,e0,e2,e5,-⟩:=Zcn fr;rw[e0,e2,e5];clear e0 e2 e5 fr;clear hM ha hf hQ hN n1 n2 n3 n4 n5 g1 o1 e2 i0 i1 i2 i3 i4 i5 i6 F l5 vY m p y I U Z AD;rw[Zm0];refine dq ?_;intro K HK;go_wp2_with fail
 refine AE.o.mono ?_;rintro e W1⟨rfl,M1,dY,cZ⟩;have kL:=dY.gl.1;have MV:=dY.fz 10;obtain⟨g,Y⟩:=Zqc dY 0;have g:MAt C M1 (W1.setCell ⟨C.mb,10,none⟩ (vI 0)) O:=by
  have e:({O with glob:=0}:MSt)=O:=by have:=HG.o.1;cases O;simp only at this;subst this;rfl
  rw[e]at g;exact g
 have bT:=lh g;have bw:=lh (cZ.trans Y);clear dY cZ g Y AE;go_wp2_with fail
 refine HK.o _ _ ?_;clear HK K kL MV;generalize W1.setCell ⟨C.mb,10,none⟩ (vI 0)=W1 at bT bw ⊢;have hob:=Zad bT.o.drew eC.o 1;rw[Ap.o,<-MO.o]at hob;have kS:=lh hob;have kL:=bT.o.gl.1;rw[HG.o.1]at kL;clear hob;refine dq ?_;intro K HK;go_wp2_with fail
 refine Zx1 ?_;intro bq;refine f8 ?_;intro K hK;refine kS.o.mono ?_;rintro e W2⟨rfl,M2,aM,ap⟩;have F:=aM.gl.1;rw[HG.o.2.1]at F;refine hK _ _ F ?_;clear hK K;have hpt:=B7 aM oN.o 0 Tc (.ref 1) false;rw[<-MP.o]at hpt;simp only[LVal.agg,LVal.ref,Tc]at hpt;have kp:=lh hpt;have ba:=lh (bw.o.trans ((MFr.drew (.refl _ _)).trans ap));clear aM ap hpt kL F kS;refine oK ?_;refine Z0 ?_;go_wp2_with fail
 refine kp.o.mono ?_;rintro e W3⟨rfl,M3,dC,bg⟩;have dE:=lh dC;have bK:=lh (ba.o.trans bg);obtain⟨fg,qz⟩:=zX (da (u2.H.put 0 ⟨#[112,114,105,110,116]⟩ ⟨5,1,⟨#[]⟩⟩ false).2)
 rw[<-qz];clear dC bg qz kp;go_wp2_with fail
 refine HK.o _ _ ?_;clear HK K;have hob:=Zad dE.o.drew nT.o 2;rw[ML.o,<-MQ.o]at hob;have kS:=lh hob;have kL:=dE.o.gl.1;rw[HG.o.2.2.1]at kL;clear hob;refine dq ?_;intro K HK;go_wp2_with fail
 refine Zx1 ?_;intro bq;refine f8 ?_;intro K hK;refine kS.o.mono ?_;rintro e W4⟨rfl,M4,fC,be⟩;have F:=fC.gl.1;rw[HG.o.2.2.2.1]at F;refine hK _ _ F ?_;clear hK K;have hpt:=B7 fC FU.o 0 sW (.ref 2) false;rw[<-MR.o]at hpt;simp only[LVal.agg,LVal.ref,sW]at hpt;have kp:=lh hpt;have ko:=lh (bK.o.trans ((MFr.drew (.refl _ _)).trans be));clear fC be hpt kL F kS;refine oK ?_;refine Z0 ?_;go_wp2_with fail
 refine kp.o.mono ?_;rintro e W5⟨rfl,M5,l9,eN⟩;have rn:=lh l9;have ro:=lh (ko.o.trans eN);obtain⟨o6,AF⟩:=zX (da (u4.H.put 0 ⟨#[101,118,97,108]⟩ ⟨5,2,⟨#[]⟩⟩ false).2)
 rw[<-AF];clear l9 eN AF kp;go_wp2_with fail
 refine HK.o _ _ ?_;clear HK K;have eD:=Wm rn.o MJ.o (-1) 0 (-1);rw[MM.o,<-MS.o]at eD;have jE:=lh eD;have kL:=rn.o.gl.1;rw[HG.o.2.2.2.2.1]at kL;clear eD;refine dq ?_;intro K HK;go_wp2_with fail
 refine jE.o.mono ?_;rintro e W6⟨rfl,M6,rE,fB⟩;have u:=rE.gl.2.1;have MW:=rE.fz 11;obtain⟨g,Y⟩:=Zor rE 0;have g:MAt C M6 (W6.setCell ⟨C.mb,11,none⟩ (vI 0)) J:=by
  have e:({J with outer:=0}:MSt)=J:=by have:=FV.o.1;cases J;simp only at this;subst this;rfl
  rw[e]at g;exact g
 have AG:=lh g;have mi:=lh (ro.o.trans (fB.trans Y));clear rE fB g Y jE kL;go_wp2_with fail
 refine HK.o _ _ ?_;clear HK K u MW;generalize W6.setCell ⟨C.mb,11,none⟩ (vI 0)=W6 at AG mi ⊢;have eD:=Wm AG.o MK.o 0 (-1) 0;rw[MN.o,<-MU.o]at eD;have jE:=lh eD;have u:=AG.o.gl.2.1;rw[FV.o.1]at u;clear eD;refine dq ?_;intro K HK;go_wp2_with fail
 refine jE.o.mono ?_;rintro e W7⟨rfl,M7,km,dJ⟩;have FT:=km.gl.2.2;have MX:=km.fz 12;obtain⟨g,Y⟩:=Zsl km 1;rw[nL.o]at g;obtain⟨yx,tz,Pc⟩:=ds g (mi.o.trans (dJ.trans Y)) FV.o.2;clear km dJ g Y jE u;go_wp2_with fail
 refine HK.o _ _ ?_;clear HK K FT MX;generalize W7.setCell ⟨C.mb,12,none⟩ (vI 1)=W7 at yx tz ⊢;have u:=yx.o.gl.2.1;rw[show xz.outer=0 from rfl]at u;have JW:=tz.o.tree HT.o.1 HT.o.2;have hst:=λW (hW:kW W7 W)=>Z4c W B a (JW.1.bel hW);simp only[ATree.ptr]at hst;have mr:=lh hst;have jg:C.mb<W7.heap.size:=yx.o.mbLt;have HL:=lh (Lo.new (wE:=z) yx.o tz.o.size HO.o #[.bool (Zi a),vI 0] 63);have o8:=lh (Z1 W7 (.cells #[.bool (Zi a),vI 0] 63));obtain⟨sb,aK⟩:=zX (Zi a)
 rw[<-aK]at mr HL o8 HN;clear hst JW aK;refine dq ?_;intro K HK;go_wp2_with fail
 refine Z2b (.take 0 (.take 2 (.take 3 (.take 4 (.take 5 (.two 1 (.take 6 (.go 7 (.go 8 .nil))) 7 (.go 1 (.take 6 (.go 8 .nil))))))))) 8 (λW=>vC W C.mb 11 (vI 0)) Pz Pz (λc a d v w h=>fA.o _ c a d v w h) u ?_;refine qa ?_;refine Zlf ?_ ?_
 .skip
  refine o4 (λK hK=>?_);refine(mr.o _ (Zd _)).mono ?_;rintro e W8⟨rfl,AH⟩;rw[AH];refine hK _ _ u ?_;clear hK K AH W8;refine Ux ?_;refine o4 (λK hK=>?_);refine hK _ _ ((Zc jg).trans u) ?_;clear hK K;try simp only[Act.put,zA,zB,zC]
  exact AbM
 .skip
  refine o4 (λK hK=>?_);refine hK _ _ ((Zc jg).trans u) ?_;clear hK K;refine UV ?_;intro K hK;refine(mr.o _ ((Z1 W7 _).drew)).mono ?_;rintro e W8⟨rfl,AH⟩;rw[AH];refine hK _ _ ((Zc jg).trans u) ?_;clear hK K AH W8;refine Ux ?_;exact AbM
end
open Go.Extern.Stop Go.Stop Go.Extern
def Zp6(t:Value)(w:kV) :
 kC 25 #[.nilIface,t] w λe w'=>e=.returned (.bool false)/\w'=w:=by
 go_enter func25,ntmps25
 go_wp2;go_ret;exact⟨rfl,rfl⟩
def Ss(t:Addr)(w:kV):(ReflectliteValue.unpack (.iface 73 (.pointer (some t)))).run Tryz.prog w
 = .ok (.agg #[.pointer (some ⟨8,73,none⟩),vP w.heap.size,.int .u64 150]) (w.alloc (.cells #[.pointer (some t)] 73)):=by kernel_rfl
def Vk(a:Addr)(w:kV):(ReflectliteValue.methodAny (ReflectliteValue.valueError "reflectlite.Value.Type" 0) (λt _ _ _=>ReflectliteType.toType t) #[.agg #[.pointer (some ⟨8,73,none⟩),.pointer (some a),.int .u64 150]]).run Tryz.prog w
 = .ok (.iface 167 (.agg #[.pointer (some ⟨8,73,none⟩)])) w:=by kernel_rfl
theorem Oj(h:Value)(w:kV):(Go.method 371 167 (.agg #[h]) "Kind").run Tryz.prog w= .ok (183,h) w:=by kernel_rfl
theorem VR(w:kV):((ReflectliteType.abiMethod λt=>(λa:Nat=>Value.int IntKind.u8 (a:Int))<$>Rtype.kind t) #[.pointer (some ⟨8,73,none⟩)]).run Tryz.prog w=.ok (.int .u8 22) w:=by kernel_rfl
theorem VI(w:kV):((ReflectliteType.abiMethod λt=>(λa:Nat=>Value.int IntKind.u8 (a:Int))<$>Rtype.kind t) #[.pointer (some ⟨8,71,none⟩)]).run Tryz.prog w=.ok (.int .u8 22) w:=by kernel_rfl
def AbO(z:Sem Value)(f:TypeId->Addr->Nat->Nat->Sem Value)(v:Value) :
 ReflectliteValue.method z f #[v]=(do match<-ReflectliteValue.parts v with|none=>z|some (t,a,fl)=>f t a fl (fl %32)):=rfl
theorem Se(a:Addr)(w:kV):(ReflectliteValue.parts (.agg #[.pointer (some ⟨8,73,none⟩),.pointer (some a),.int .u64 150])).run Tryz.prog w=.ok (some (73,a,150)) w:=by kernel_rfl
def Uy(a p:Addr)(W:kV)(ha:W.cell? a=some (.pointer (some p))) :
 (ReflectliteValue.method (ReflectliteValue.valueError "reflectlite.Value.IsNil" 0) ReflectliteValue.isNil #[.agg #[.pointer (some ⟨8,73,none⟩),.pointer (some a),.int .u64 150]]).run Tryz.prog W= .ok (.bool false) W:=by
 rw[AbO];simp only[Sem.run_bind,Se,Result.andThen];simp[ReflectliteValue.isNil,loadVar,isAgg,underlying,underlying73,ha,Result.andThen]
theorem MC(h:Value)(w:kV):(Go.method 371 167 (.agg #[h]) "Elem").run Tryz.prog w= .ok (197,.agg #[h]) w:=by kernel_rfl
theorem tY(h:Value)(w:kV):(Go.method 371 167 (.agg #[h]) "Implements").run Tryz.prog w= .ok (198,.agg #[h]) w:=by kernel_rfl
theorem rF(h:Value)(w:kV):(Go.method 371 167 (.agg #[h]) "AssignableTo").run Tryz.prog w= .ok (195,.agg #[h]) w:=by kernel_rfl
theorem VC(w:kV):(ReflectliteType.method ReflectliteType.elem #[.agg #[.pointer (some ⟨8,73,none⟩)]]).run Tryz.prog w=.ok (.iface 167 (.agg #[.pointer (some ⟨8,71,none⟩)])) w:=by kernel_rfl
theorem Dg(w:kV):(ReflectliteType.relation "Implements" ReflectliteType.implements_ #[.agg #[.pointer (some ⟨8,71,none⟩)],.iface 167 (.agg #[.pointer (some ⟨8,32,none⟩)])]).run Tryz.prog w= .ok (.bool true) w:=by kernel_rfl
theorem Tl(v:Value)(w:kV):(ReflectliteType.typeOf #[.iface 71 v]).run Tryz.prog w=.ok (.iface 167 (.agg #[.pointer (some ⟨8,71,none⟩)])) w:=by kernel_rfl
theorem CY(w:kV):(ReflectliteType.relation "AssignableTo" ReflectliteType.assignableTo #[.agg #[.pointer (some ⟨8,71,none⟩)],.iface 167 (.agg #[.pointer (some ⟨8,71,none⟩)])]).run Tryz.prog w= .ok (.bool true) w:=by kernel_rfl
def SJ(e:Addr)(w:kV):(ReflectliteValue.unpack (.iface 71 (.pointer (some e)))).run Tryz.prog w
 = .ok (.agg #[.pointer (some ⟨8,71,none⟩),vP w.heap.size,.int .u64 150]) (w.alloc (.cells #[.pointer (some e)] 71)):=by kernel_rfl
theorem TO(w:kV):(Rtype.elem? 73).run Tryz.prog w=.ok (some 71) w:=by kernel_rfl
theorem AcV(p:Addr)(w:kV):(ReflectliteValue.mk 71 p ReflectliteValue.flagAddr).run Tryz.prog w=.ok (.agg #[.pointer (some ⟨8,71,none⟩),.pointer (some p),.int .u64 406]) w:=by kernel_rfl
def UD(a p:Addr)(W:kV)(ha:W.cell? a=some (.pointer (some p))) :
 (ReflectliteValue.method (ReflectliteValue.valueError "reflectlite.Value.Elem" 0) ReflectliteValue.elem #[.agg #[.pointer (some ⟨8, 73, none⟩), .pointer (some a), .int .u64 150]]).run Tryz.prog W
  = .ok (.agg #[.pointer (some ⟨8,71,none⟩),.pointer (some p),.int .u64 406]) W:=by
 rw[AbO];simp only[Sem.run_bind,Se,Result.andThen];simp[ReflectliteValue.elem,loadVar,isAgg,underlying,underlying73,ha,Result.andThen,TO,AcV]
def AcZ(v x:Value):ReflectliteValue.set #[v,x]=(do
 let(some (dst,a,fl),some (oD,b,_)):=(<-ReflectliteValue.parts v,<-ReflectliteValue.parts x)
  |unsupported (.noEntry "extern/(internal/reflectlite.Value).Set.zeroValue")
 if fl/ReflectliteValue.flagAddr %2==0 then unsupported (.noEntry "extern/(internal/reflectlite.Value).Set.unaddressable")
 let val <-loadVar oD b
 if<-Rtype.directlyAssignable dst oD then storeVar dst a val
 else if<-Rtype.implements dst oD then
  if(<-Rtype.kind oD)==20 then
   match val with
   | .nilIface=>unsupported (.noEntry "extern/reflectlite: a nil value of one interface type handed on as a value of another")
   |_=>storeVar dst a val
  else storeVar dst a (.iface oD val)
 else panicString ("reflectlite.Set: value of type " ++(<-Rtype.spelt oD)++ " is not assignable to type " ++(<-Rtype.spelt dst))
 pure (.tuple #[])):=rfl
theorem TK(a:Addr)(w:kV):(ReflectliteValue.parts (.agg #[.pointer (some ⟨8,71,none⟩),.pointer (some a),.int .u64 406])).run Tryz.prog w=.ok (some (71,a,406)) w:=by kernel_rfl
theorem UC(a:Addr)(w:kV):(ReflectliteValue.parts (.agg #[.pointer (some ⟨8,71,none⟩),.pointer (some a),.int .u64 150])).run Tryz.prog w=.ok (some (71,a,150)) w:=by kernel_rfl
theorem TA(w:kV):(Rtype.directlyAssignable 71 71).run Tryz.prog w=.ok true w:=by kernel_rfl
def Aan(g b e:Addr)(old:Value)(W:kV)(hb:W.cell? b=some (.pointer (some e)))(ht:W.cell? g=some old)(hf:W.frozen? g=false) :
 (ReflectliteValue.set #[.agg #[.pointer (some ⟨8, 71, none⟩), .pointer (some g), .int .u64 406], .agg #[.pointer (some ⟨8, 71, none⟩), .pointer (some b), .int .u64 150]]).run Tryz.prog W
  = .ok (.tuple #[]) (W.setCell g (.pointer (some e))):=by
 rw[AcZ];simp only[Sem.run_bind,TK,UC,Result.andThen];simp[ReflectliteValue.flagAddr,loadVar,isAgg,underlying,underlying71,hb,Result.andThen,TA,storeVar,Value.cells,storeCells,Addr.add];rw[run_store Tryz.prog W g _ _ PM];simp[ht,hf]
def Zf2(e t:Addr)(old:Value)(w:kV)(hg:w.cell? ⟨1,0,none⟩=some (.iface 167 (.agg #[.pointer (some ⟨8,32,none⟩)])))(BX:w.cell? t=some old)(m:w.frozen? t=false) :
 kC 25 #[.iface 71 (.pointer (some e)),.iface 73 (.pointer (some t))] w λev w'=>ev=.returned (.bool true)/\w'=((((w.alloc (.cells #[.pointer (some t)] 73)).alloc (.cells #[.pointer (some ⟨8,73,none⟩),vP w.heap.size,.int .u64 150] 122)).alloc (.cells #[.pointer (some ⟨8,73,none⟩),vP w.heap.size,.int .u64 150] 122)).alloc (.cells #[.pointer (some e)] 71)).setCell t (.pointer (some e)):=by
 refine Abn ?_;intro h6 h7 h8 qR lV xi nU Dm Dn px;have p:=Tl;have u:=rF;have y:=CY;have F:=SJ;have I:=Ss;have J:=Vk;have O:=Oj;have U:=MC;have X:=tY;have Y:=VR;have Z:=VI;have Mu:=VC;have Mv:=Dg
 have n8:=Uy ⟨w.heap.size,0,none⟩ t ((w.alloc (.cells #[.pointer (some t)] 73)).alloc (.cells #[.pointer (some ⟨8,73,none⟩),vP w.heap.size,.int .u64 150] 122)) Qa;have ay:1<w.heap.size:=by
  exact Xo
 have i':((w.alloc (.cells #[.pointer (some t)] 73)).alloc (.cells #[.pointer (some ⟨8,73,none⟩),vP w.heap.size,.int .u64 150] 122)).cell? ⟨1,0,none⟩=some (.iface 167 (.agg #[.pointer (some ⟨8,32,none⟩)])):=by
  exact Wt
 have g:t.block<w.heap.size:=by
  exact Wz
 have el:=UD ⟨w.heap.size,0,none⟩ t (((w.alloc (.cells #[.pointer (some t)] 73)).alloc (.cells #[.pointer (some ⟨8,73,none⟩),vP w.heap.size,.int .u64 150] 122)).alloc (.cells #[.pointer (some ⟨8,73,none⟩),vP w.heap.size,.int .u64 150] 122)) (by rw[World.cell?_alloc_lt _ _ ⟨w.heap.size,0,none⟩ PB];simp)
 have st:=Aan t ⟨w.heap.size+1+1+1,0,none⟩ e old ((((w.alloc (.cells #[.pointer (some t)] 73)).alloc (.cells #[.pointer (some ⟨8,73,none⟩),vP w.heap.size,.int .u64 150] 122)).alloc (.cells #[.pointer (some ⟨8,73,none⟩),vP w.heap.size,.int .u64 150] 122)).alloc (.cells #[.pointer (some e)] 71))
  (by rw[World.cell?_alloc_at _ _ _ _ Qa];rfl)
  (by rw[World.cell?_alloc_lt _ _ t PB,World.cell?_alloc_lt _ _ t PB,World.cell?_alloc_lt _ _ t PB,World.cell?_alloc_lt _ _ t g];exact BX)
  (by rw[World.frozen?_alloc_old _ _ t PB,World.frozen?_alloc_old _ _ t PB,World.frozen?_alloc_old _ _ t PB,World.frozen?_alloc_old _ _ t (Nat.ne_of_lt g)];exact m)
 exact Zyq
theorem Aad:(Tryz.prog.info? 260).isSome=true:=by kernel_rfl
def Znw(b:Addr)(w:kV):(binOp .eql 32 (pY b) (pY b)).run Tryz.prog w=.ok (.bool true) w:=by
 obtain⟨j,g⟩:=Option.isSome_iff_exists.1 Aad;have h:∀d:Nat,(Op.equalIn (d+1) 241 (.pointer (some b)) (.pointer (some b))).run Tryz.prog w=.ok true w:=λd=>by
  simp[Op.equalIn,run_underlying underlying241,sizeOf,typeInfo,g,run_sameAddr_same]
 have h0:∀d:Nat,(Op.equalIn (d+1+1) 32 (pY b) (pY b)).run Tryz.prog w=.ok true w:=λd=>by
  unfold pY;rw[Op.equalIn.eq_def];have hc:(t241).comparable=true:=Pz
  simp[run_underlying underlying32,h d,hc]
 exact Wy
def Zsj(b:Addr)(g:Nat)(w:kV):(binOp .eql 32 (rD g) (pY b)).run Tryz.prog w=.ok (.bool false) w:=by
 have m:∀d:Nat,(Op.equalIn (d+1+1) 32 (rD g) (pY b)).run Tryz.prog w=.ok false w:=λd=>by
  unfold pY rD;rw[Op.equalIn.eq_def];simp[run_underlying underlying32]
 simp only[binOp];unfold pY rD at m ⊢;simp[Op.equal,Op.maxDepth,m 9998]
def Zsd(b:Addr)(w:kV):(binOp .eql 32 .nilIface (pY b)).run Tryz.prog w=.ok (.bool false) w:=by
 have h0:∀d:Nat,(Op.equalIn (d+1+1) 32 .nilIface (pY b)).run Tryz.prog w=.ok false w:=λd=>by
  unfold pY;rw[Op.equalIn.eq_def];simp[run_underlying underlying32]
 exact Wy
