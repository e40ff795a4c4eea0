import Derived.Test.YtkjdnecemhilpaaGreatDoorJ21
set_option maxRecDepth 100000
set_option maxHeartbeats 20000000
set_option linter.all false
namespace Go.Proofs.YtkjdnecemhilpaaGreatDoor
open Go Go.RowKit Go.Proofs.Tryz Tryz
section
variable {C:RCtx}{M M':MRep}{w w':kV}{s s':MSt}{B:Nat}{a:ATree}{V:VF}{D:DF}{b:Int}{sc:Int}{fr:Frm}{d:Nat}
def Lo.apart{wE:kV}{g b':Nat}{c:Array Value}{T:TypeId}(h:Lo C M wE w g c T)(m:g≠b')(i:Nat)(x:Value):Lo C M wE (w.setCell ⟨b',i,none⟩ x) g c T:=
 ⟨(Y8 _ _ _ _ m).trans h.blk,h.free,h.late,h.old⟩
def TreeAt.c2(h:TreeAt w B a):w.cell? ⟨a.b,2,none⟩=some (vI a.n):=by
 have:=h.blkOf;simp[vC,World.cell?,this]
def Zrl(h:MAt C M w s):MAt C M (w.setCell ⟨C.mb,5,none⟩ (vI (s.steps+1))) {s with steps:=s.steps+1}/\MFr M M w (w.setCell ⟨C.mb,5,none⟩ (vI (s.steps+1))):=
 h.scalar Qg rfl rfl rfl rfl rfl (λi hi=>by match i,hi with
  |0,_=>decide
  |1,_=>decide
  |2,_=>decide
  |3,_=>decide) ⟨_,h.cell 5 (vI s.steps) Qq⟩ (λo x hx=>by
  simp only[ms,List.mem_cons,Prod.mk.injEq,List.not_mem_nil,or_false]at hx ⊢;rcases hx with h|h|h|h|h|h|h|h|h|h|h<;>(obtain⟨rfl,rfl⟩:=h;simp))
def bK.fine'{W g:kV}{M1:MRep}{s1:MSt}{rb:Nat}{x0 m z0:Value}{k n:Int}{t:kB}(hL:Lo C M w g rb #[x0,m,z0] 71)(hz:MFr M M w g)(hM:MAt C M1 W s1)(hF:MFr M M1 g W) :
 bK C M w (s1,.ok ⟨k,n,t⟩) (.returned (.tuple #[.agg #[vI k,vI n,.string t],.nilIface])) (((W.setCell ⟨rb,0,none⟩ (vI k)).setCell ⟨rb,1,none⟩ (vI n)).setCell ⟨rb,2,none⟩ (.string t)):=by
 exact Zxy
def bK.err'{W g:kV}{M1:MRep}{s1:MSt}{rb:Nat}{x0 m z0 ev:Value}{x:Er}{k n:Int}{t:kB}(hL:Lo C M w g rb #[x0,m,z0] 71)(hz:MFr M M w g)(hM:MAt C M1 W s1)(hF:MFr M M1 g W)(he:ax C M1 W x ev) :
 bK C M w (s1,.error x) (.returned (.tuple #[.agg #[vI k,vI n,.string t],ev])) (((W.setCell ⟨rb,0,none⟩ (vI k)).setCell ⟨rb,1,none⟩ (vI n)).setCell ⟨rb,2,none⟩ (.string t)):=by
 refine Zrz ?_;intro g1 g2 g3;exact⟨M1,g1,g2,⟨k,n,t⟩,ev,rfl,g3 _ _ he⟩
def jm.fine'{W g:kV}{M1:MRep}{s1:MSt}{rb:Nat}{x0 m z0:Value}{k n:Int}{t:kB}{b:Bool}(hL:Lo C M w g rb #[x0,m,z0] 71)(hz:MFr M M w g)(hM:MAt C M1 W s1)(hF:MFr M M1 g W) :
 jm C M w (s1,.ok (b,⟨k,n,t⟩)) (.returned (.tuple #[.bool b,.agg #[vI k,vI n,.string t],.nilIface])) (((W.setCell ⟨rb,0,none⟩ (vI k)).setCell ⟨rb,1,none⟩ (vI n)).setCell ⟨rb,2,none⟩ (.string t)):=by
 exact Zxy
def jm.err'{W g:kV}{M1:MRep}{s1:MSt}{rb:Nat}{x0 m z0 ev:Value}{x:Er}{k n:Int}{t:kB}{b:Bool}(hL:Lo C M w g rb #[x0,m,z0] 71)(hz:MFr M M w g)(hM:MAt C M1 W s1)(hF:MFr M M1 g W)(he:ax C M1 W x ev) :
 jm C M w (s1,.error x) (.returned (.tuple #[.bool b,.agg #[vI k,vI n,.string t],ev])) (((W.setCell ⟨rb,0,none⟩ (vI k)).setCell ⟨rb,1,none⟩ (vI n)).setCell ⟨rb,2,none⟩ (.string t)):=by
 refine Zrz ?_;exact Aam
def Zut(hC:C.Ok)(h:MAt C M w s)(hI:Inv s d)(ha:TreeAt w B a)(hf:a.free M)(hs:s.steps=20000) :
 kC 95 #[vP C.mb,a.ptr,vI sc,.agg #[.bool fr.strict,vI fr.vars]] w λe w'=>bK C M w (zJ (zz V D (a.nt C.N) sc fr) s) e w':=by
 refine OW ?_;intro s1 aL bT hst jB aZ dh di dj z0 aC;rw[<-aC]at aZ dh di dj;refine rs ?_;intro cw f5 y5 aE aX;rw[<-aL]at aE;refine rH ?_;intro z hz;rw[<-hz]at aE aX;refine MJ ?_;intro eJ aJ bz lf lr ln g5 c0;rw[aC]at f5 y5;rw[hz,aC]at g5 c0;have g:zJ (zz V D (a.nt C.N) sc fr) s=(s1,.error .stop):=by
  unfold zJ;rw[Y5 Qe,aL];rfl
 rw[g];have p:=lh aC;refine Zyc ?_;intro HZ cX dv HLR HFz bR Cj HM m0 m1 m2 q0 q1 q2 z0 z1 z2;clear hz aC aZ cw aE aX eJ aJ bz dh di dj lf lr ln ha hf h hI aL g hs c0;unfold ATree.ptr;go_enter func95,ntmps95
 go_wp2_with fail
 rw[<-HZ.o];clear f5 y5 g5;unfold ql at cX;refine o4 [(true,0),(true,1),(false,2)] [3] (λW=>vC W (w.heap.size+1+1) 0 (vI 0)/\vC W (w.heap.size+1+1) 1 (vI 0)/\vC W (w.heap.size+1+1) 2 (.string ⟨#[]⟩)/\W.cell? ⟨0,0,none⟩=some (.iface 241 (.pointer (some C.eb)))) ⟨m0,m1,m2,cX⟩ (λu=>?_);refine iB ?_;intro K hK;refine Zz3 ?_;intro bo;have m:=bK.err' (k:=0) (n:=0) (t:=⟨#[]⟩) HLR.o HFz.o HM.o.drew (.drew (.refl _ _)) (show ax C M z.drew .stop (ql C.eb)from rfl)
 refine hK _ _ ⟨bo.cell rfl,bo.cell rfl,bo.cell rfl,?_⟩ ?_;·exact Abe
 clear hK K bo;have o:=lh m;clear m;refine Z1 ?_;go_wp2;refine Yp (v:=.tuple #[.agg #[vI 0,vI 0,.string ⟨#[]⟩],.iface 241 (.pointer (some C.eb))]) ?_ rfl ?_;·exact ru
 .exact o.o
def Zta(h:MAt C M w s)(hI:Inv s d)(ha:TreeAt w B a)(hf:a.free M)(hs:s.steps<20000)(hk:a.kind=17\/a.kind=18\/a.kind=19\/a.kind=20\/a.kind=21\/a.kind=22) :
 kC 95 #[vP C.mb,a.ptr,vI sc,.agg #[.bool fr.strict,vI fr.vars]] w λe w'=>bK C M w (zJ (zz V D (a.nt C.N) sc fr) s) e w':=by
 refine OW ?_;intro s1 aL bT hst jB aZ dh di dj z0 aC;rw[<-aC]at aZ dh di dj;refine rs ?_;intro cw f5 y5 aE aX;rw[<-aL]at aE;refine rH ?_;intro z hz;rw[<-hz]at aE aX;refine MJ ?_;intro eJ aJ bz lf lr ln g5 c0;rw[aC]at f5 y5;rw[hz,aC]at g5 c0;refine SU ?_;intro hR R aS;rw[<-aS];rw[<-aS]at hR;clear aS;refine S7 ?_;intro dv HZ HLR bR dC HFz HM fB dW HO HE;have c1:=aJ.c1;have c2:=aJ.c2;rw[hz,aC]at c1 c2;obtain⟨m,o,p,-,-,-⟩:=ln.six;rw[hz,aC]at m o p;have u:=Zny z a.n;have y:=Zba z a.text
 simp only[LVal.agg]at u y;obtain⟨O,U,X,Y⟩:=gp u y (V0 z true) (V0 z false);unfold zz at hR;simp only[Za,AcF,sw]at hR;clear hz aC aZ cw aE aX eJ aJ bz dh di dj lf lr ln ha hf h hI aL u y;unfold ATree.ptr;rcases hk with hk|hk|hk|hk|hk|hk
 .rw[hk]at hR c0;simp at hR;have g:R=(s1,.ok ⟨3,a.n,⟨#[]⟩⟩):=hR;clear hR;subst g;go_enter func95,ntmps95
  go_wp2_with fail
  rw[<-HZ.o];clear f5 y5 g5 c0 c1 c2 m o p;refine O.o.mono ?_;refine Zmd ?_;intro w1 q0 q1 q2 z0 z1 z2 au;go_wp2;refine Yp (v:=.tuple #[.agg #[vI 3,vI a.n,.string ⟨#[]⟩],.nilIface]) ?_ rfl ?_;·exact ru
  .exact Zoo
 .rw[hk]at hR c0;simp at hR;have g:R=(s1,.ok ⟨4,0,a.text⟩):=hR;clear hR;subst g;go_enter func95,ntmps95
  go_wp2_with fail
  rw[<-HZ.o];clear f5 y5 g5 c0 c1 c2 m o p;refine U.o.mono ?_;refine Zmd ?_;intro w1 q0 q1 q2 z0 z1 z2 au;go_wp2;refine Yp (v:=.tuple #[.agg #[vI 4,vI 0,.string a.text],.nilIface]) ?_ rfl ?_;·exact ru
  .exact Zoo
 .rw[hk]at hR c0;simp at hR;have g:R=(s1,.ok ⟨2,1,⟨#[]⟩⟩):=hR;clear hR;subst g;go_enter func95,ntmps95
  go_wp2_with fail
  rw[<-HZ.o];clear f5 y5 g5 c0 c1 c2 m o p;refine X.o.mono ?_;refine Zmd ?_;intro w1 q0 q1 q2 z0 z1 z2 au;go_wp2;refine Yp (v:=.tuple #[.agg #[vI 2,vI 1,.string ⟨#[]⟩],.nilIface]) ?_ rfl ?_;·exact ru
  .exact Zoo
 .rw[hk]at hR c0;simp at hR;have g:R=(s1,.ok ⟨2,0,⟨#[]⟩⟩):=hR;clear hR;subst g;go_enter func95,ntmps95
  go_wp2_with fail
  rw[<-HZ.o];clear f5 y5 g5 c0 c1 c2 m o p;refine Y.o.mono ?_;refine Zmd ?_;intro w1 q0 q1 q2 z0 z1 z2 au;go_wp2;refine Yp (v:=.tuple #[.agg #[vI 2,vI 0,.string ⟨#[]⟩],.nilIface]) ?_ rfl ?_;·exact ru
  .exact Zoo
 .rw[hk]at hR c0;simp at hR;have g:R=(s1,.ok ⟨1,0,⟨#[]⟩⟩):=hR;clear hR;subst g;obtain⟨q0,q1,q2,F,I,J⟩:=HLR.o.six;rw[HZ.o]at q0 q1 q2 F I J;go_enter func95,ntmps95
  go_wp2_with fail
  refine Yp (v:=.tuple #[.agg #[vI 1,vI 0,.string ⟨#[]⟩],.nilIface]) ?_ rfl ?_;·exact ru
  .rw[<-HZ.o];exact .fine' HLR.o HFz.o HM.o (.refl _ _)
 .rw[hk]at hR c0;simp at hR;have g:R=(s1,.ok ⟨0,0,⟨#[]⟩⟩):=hR;clear hR;subst g;obtain⟨q0,q1,q2,F,I,J⟩:=HLR.o.six;rw[HZ.o]at q0 q1 q2 F I J;go_enter func95,ntmps95
  go_wp2_with fail
  refine Yp (v:=.tuple #[.agg #[vI 0,vI 0,.string ⟨#[]⟩],.nilIface]) ?_ rfl ?_;·exact ru
  .rw[<-HZ.o];exact .fine' HLR.o HFz.o HM.o (.refl _ _)
end
noncomputable def f8(p:List Nat):Code:=Hr p (f9.body.getD .skip)
theorem Ztm:f9.body=some (f8 []):=by kernel_rfl
def MZ(C:RCtx)(w:kV)(a:ATree)(l:List (Nat×Value)):List (Nat×Value):=
 (0,vP a.b)::(2,vP w.heap.size)::(5,vP C.mb)::l
section
variable {C:RCtx}{M M1:MRep}{w z W:kV}{s:MSt}{B:Nat}{a:ATree}{d fb:Nat}{st:Bool}{A:Act}{K:Act->kV->Prop}{Q:Exit->Act->kV->Prop}
def Zww(w:kV)(nb:Nat)(eb:Addr)(pl:List (Nat×Nat)):∃M,MAt ⟨w,w.heap.size,nb,eb,pl⟩ M (w.alloc (.cells #[.slice none 0 0,.slice none 0 0,.slice none 0 0,vI 0,.string ⟨#[]⟩,vI 0,.slice none 0 0,.map (some nb),.slice none 0 0,.slice none 0 0,vI 0,vI 0,vI 0,vI 0,vI 0,vI 0,.string ⟨#[]⟩] 73)) MSt.new:=by
 refine⟨⟨λb=>if b=w.heap.size then some .hp else none,⟨.slice none 0 0,.slice none 0 0,λ_=>0,λ_=>.nilIface,λ_=>0,λ_=>.nilIface⟩,λ_=>.slice none 0 0,[]⟩,?_⟩
 have m:∀i x,(#[Value.slice none 0 0,.slice none 0 0,.slice none 0 0,vI 0,.string ⟨#[]⟩,vI 0,.slice none 0 0,.map (some nb),.slice none 0 0,.slice none 0 0,vI 0,vI 0,vI 0,vI 0,vI 0,vI 0,.string ⟨#[]⟩]:Array Value)[i]?=some x->(w.alloc (.cells #[.slice none 0 0,.slice none 0 0,.slice none 0 0,vI 0,.string ⟨#[]⟩,vI 0,.slice none 0 0,.map (some nb),.slice none 0 0,.slice none 0 0,vI 0,vI 0,vI 0,vI 0,vI 0,vI 0,.string ⟨#[]⟩] 73)).cell? ⟨w.heap.size,i,none⟩=some x:=λi x hx=>by
  rw[Ys];exact hx
 constructor
 .constructor;·exact m 0 _ rfl
  .exact m 1 _ rfl
  .exact World.frozen?_alloc_new _ _ _ _
  .exact World.frozen?_alloc_new _ _ _ _
  .exact⟨rfl,.inl ⟨rfl,rfl⟩⟩
  .exact⟨rfl,.inl ⟨rfl,rfl⟩⟩
  .intro i o h;cases h
  .intro i o h;cases h
  .simp
  .intro g h;cases h
  .intro g h;cases h
  .intro i h;exact absurd h (Nat.not_lt_zero i)
  .intro i g h;exact absurd h (Nat.not_lt_zero i)
  .intro i h;exact absurd h (Nat.not_lt_zero i)
  .intro i g h;exact absurd h (Nat.not_lt_zero i)
  .intro b hb;by_cases e:b=w.heap.size;·simp[e]
   .exact absurd (Y3 e) hb
 .intro o x hx;simp only[ms,MSt.new,LVal.zero,List.mem_cons,Prod.mk.injEq,List.not_mem_nil,or_false]at hx;rcases hx with h|h|h|h|h|h|h|h|h|h|h<;>(obtain⟨rfl,rfl⟩:=h;exact m _ _ rfl)
 .intro i hi;match i,hi with
  |0,_=>exact m 2 _ rfl
  |1,_=>exact m 6 _ rfl
  |2,_=>exact m 8 _ rfl
  |3,_=>exact m 9 _ rfl
 .intro o;exact World.frozen?_alloc_new _ _ _ _
 .intro i hi;match i,hi with
  |0,_=>exact⟨rfl,.inl ⟨rfl,rfl⟩⟩
  |1,_=>exact⟨rfl,.inl ⟨rfl,rfl⟩⟩
  |2,_=>exact⟨rfl,.inl ⟨rfl,rfl⟩⟩
  |3,_=>exact⟨rfl,.inl ⟨rfl,rfl⟩⟩
 .intro i hi g u;cases u
 .intro i j g hi y u;cases u
 .rfl
 .intro x hx;cases hx
 .exact Z2 w _
 .intro k hk p;rcases p with p|⟨i,hi,p⟩;·exact p (Y3 (Nat.ne_of_lt hk))
  .cases p
def Z9q{j:Nat}{v:Value}{s':MSt}(h:MAt C M W s)(F:j=10\/j=11\/j=12)(g:s'.H=s.H)(m:s'.log=s.log)(p:s'.seen=s.seen)(u:s'.owners=s.owners)(h5:s'.clos=s.clos)
 (y:∃x,W.cell? ⟨C.mb,j,none⟩=some x)(hx:∀o x,(o,x)∈ms C s'->o=j/\x=v\/o≠j/\(o,x)∈ms C s):MAt C M (W.setCell ⟨C.mb,j,none⟩ v) s'/\MFr M M W (W.setCell ⟨C.mb,j,none⟩ v):=
 h.scalar Qe g m p u h5 (λi hi=>by
  match i,hi with
  |0,_=>show 2≠j;omega
  |1,_=>show 6≠j;omega
  |2,_=>show 8≠j;omega
  |3,_=>show 9≠j;omega) y hx
def Zod(h:MAt C M W s)(v:Int):MAt C M (W.setCell ⟨C.mb,10,none⟩ (vI v)) {s with glob:=v}/\MFr M M W (W.setCell ⟨C.mb,10,none⟩ (vI v)):=
 Z9q h (.inl rfl) rfl rfl rfl rfl rfl ⟨_,h.cell 10 (vI s.glob) Qq⟩ (λo x hx=>by
  simp only[ms,List.mem_cons,Prod.mk.injEq,List.not_mem_nil,or_false]at hx ⊢;rcases hx with h|h|h|h|h|h|h|h|h|h|h<;>(obtain⟨rfl,rfl⟩:=h;simp))
def Zmv(h:MAt C M W s)(v:Int):MAt C M (W.setCell ⟨C.mb,11,none⟩ (vI v)) {s with outer:=v}/\MFr M M W (W.setCell ⟨C.mb,11,none⟩ (vI v)):=
 Z9q h (.inr (.inl rfl)) rfl rfl rfl rfl rfl ⟨_,h.cell 11 (vI s.outer) Qq⟩ (λo x hx=>by
  simp only[ms,List.mem_cons,Prod.mk.injEq,List.not_mem_nil,or_false]at hx ⊢;rcases hx with h|h|h|h|h|h|h|h|h|h|h<;>(obtain⟨rfl,rfl⟩:=h;simp))
def Zv3(h:MAt C M W s)(v:Int):MAt C M (W.setCell ⟨C.mb,12,none⟩ (vI v)) {s with top:=v}/\MFr M M W (W.setCell ⟨C.mb,12,none⟩ (vI v)):=
 Z9q h (.inr (.inr rfl)) rfl rfl rfl rfl rfl ⟨_,h.cell 12 (vI s.top) Qq⟩ (λo x hx=>by
  simp only[ms,List.mem_cons,Prod.mk.injEq,List.not_mem_nil,or_false]at hx ⊢;rcases hx with h|h|h|h|h|h|h|h|h|h|h<;>(obtain⟨rfl,rfl⟩:=h;simp))
def MAt.gl(h:MAt C M W s):vC W C.mb 10 (vI s.glob)/\vC W C.mb 11 (vI s.outer)/\vC W C.mb 12 (vI s.top):=
 ⟨h.cell 10 _ Qq,h.cell 11 _ Qq,h.cell 12 _ Qq⟩
end
section
variable {C:RCtx}{M M':MRep}{w w':kV}{s s':MSt}{B:Nat}{a:ATree}{V:VF}{D:DF}{b:Int}{sc:Int}{fr:Frm}{d:Nat}
def Zid{D:DF}{k:NT}{l:List NT}:pZ D sc fr (k::l) s=match D k sc fr s with
 |(s1,.ok (true,v))=>(s1,.ok (true,v))
 |(s1,.ok (false,_))=>pZ D sc fr l s1
 |(s1,.error e)=>(s1,.error e):=by
 simp only[pZ,iC];rcases D k sc fr s with⟨s1,e|⟨_|_,v⟩⟩<;>rfl
def Z5c(cV:FR C D b)(hD:DH D b)(h:MAt C M w s)(hI:Inv s d)(hA:FAt s sc fr)(hb:b<=s.steps)(hs:s.steps<=20000)(ha:TreeAt w B a)(hf:a.free M)(hn:a.kids.length<=1500)
 (bC:∀x∈a.kids,(x.nt C.N).wf .s/\(x.nt C.N).tree.many<=1500) :
 kC 28 #[vP C.mb,a.v,vI sc,.agg #[.bool fr.strict,vI fr.vars]] w λe w'=>jm C M w (pZ D sc fr (a.kids.map (ATree.nt C.N)) s) e w':=by
 obtain⟨R,g⟩:=zX (pZ D sc fr (a.kids.map (ATree.nt C.N)) s)
 rw[<-g];refine MP ?_;intro aR lf lr z hz;rw[<-hz]at aR lf lr;refine Pq ?_;intro aE aJ;obtain⟨q,hq⟩:=zX a.kids.length
 obtain⟨P,y⟩:=zX a.kids
 rw[<-y]at bC g;obtain⟨pp,cp,Z,bq,d7,cW⟩:=lL.slice aJ.rowOf;rw[<-hq]at Z bq hn;rw[<-y]at cW;rw[Z];obtain⟨mW,il,HLR⟩:=ds g hI lr;refine GR ?_;intro dC HBZ HM HO HE;obtain⟨fB,dW,HA,pN,qw,ue,HP,HQ,iU,HD,du,HZ⟩:=tq aJ hf hA bC Z cW y (show q=P.length by rw[hq,y]) cV hD (Yu hb hs) hz;have nq:q<=9223372036854775807:=Qe
 clear hz aE lf lr aR aJ ha hf h hI hA g Z cW y hq bC cV hD hb hs;go_enter func28,ntmps28
 go_wp2_with fail
 rw[<-HZ.o];go_loopw [18] (λi wr=>∃(k:Nat) (Mk:MRep) (o:MSt),k<=q/\i=(vI k)/\Hid (MAt C Mk wr o)/\Hid (MFr M Mk z wr)/\Hid (Inv o d)/\Hid (Ext s o/\o.steps<=20000)/\Hid (R=pZ D sc fr ((P.drop k).map (ATree.nt C.N)) o)) (λi _=>q-(intOf i).toNat)
 case atStart=>exact⟨0,M,s,Yh _,rfl,HM,lh (.refl _ _),il,lh ⟨Ext.refl s,du.o.2⟩,lh (by rw[List.drop_zero];exact mW.o)⟩
 case round=>
  obtain⟨k,Mk,o,hk,rfl,O,m,eu,dJ,u⟩:=hrel;by_cases bY:k<q
  .obtain⟨x,hx⟩:∃x,P[k]? =some x:=⟨_,Y6 Ra⟩
   obtain⟨g0,hp⟩:=ue.o k x hx;subst hp;have aV:x∈P:=Yd hx;have bM:x∈a.kids:=by rw[<-HP.o];exact aV
   obtain⟨wx,mx⟩:=pN.o x aV;have dy:=m.o.tree fB.o dW.o;have ae:=dy.1.rowOf;rw[qw.o]at ae;have cx:wr.cell? ⟨g0,k,none⟩=some (vP x.b):=lL.cell ae (b:=g0) rfl (by rw[<-HP.o];exact hx);obtain⟨f0,f1⟩:=(dC.o.fr m.o).two;obtain⟨r1,bB⟩:=zX (D (x.nt C.N) sc fr o)
   have F:=dJ.o;have gA:b<=o.steps:=Int.le_trans du.o.1 F.1.steps;have bG:=lh (iU.o.from O.o eu.o (HA.o.ext F.1) gA F.2 wx mx (dy.1.kid bM) (dy.2.kid bM) wr (Y2 _ _));have am:=(HD.o (x.nt C.N) sc fr o _ wx mx eu.o (HA.o.ext F.1) gA F.2).1;have g:=u.o;rw[show P.drop k=x::P.drop (k+1) by
    obtain⟨hl,he⟩:=List.getElem?_eq_some_iff.1 hx;rw[Yt hl,he],List.map_cons,Zid]at g
   rw[<-bB]at bG am g;have I:=lh g;have bL:=lh am;clear g am bB dy ae aV bM F gA;go_wp2_with fail
   refine bG.o.mono ?_;rintro e J⟨M1,bk,k1,n1,t1,bQ,rfl,ai⟩;have F1:=m.o.trans ai.2.1;have uf:=Lo.new (wE:=z) ai.1 F1.size (Y4 HO.o HE.o) #[vI k1,vI n1,.string t1] 71;obtain⟨W2,gF⟩:=zX (J.alloc (vO k1 n1 t1))
   have ar:=Z2 J (vO k1 n1 t1);unfold vO at gF ar;rw[<-gF]at uf ar;obtain⟨b0,b1,b2,-,-,-⟩:=uf.six;obtain⟨jY,au,bA,aP,fA⟩:=gq uf ai F1 ar gF;have jG:J.heap.size≠w.heap.size+1:=by have:=HLR.o.lt;have h2:=bA.o.size;omega
   have bc:=lh (bA.o.trans (.of_below aP.o));obtain⟨q0,q1,q2,z0,z1,z2⟩:=(HLR.o.fr bc.o).six;clear ai F1 uf ar gF f0 f1 cx;simp only[ag];obtain⟨s1,iq⟩:=r1;cases iq with
   |error U=>
     have he:ax C M1 J U bQ:=au.o.2.2;have p:R=(s1,.error U):=I.o;clear I;subst p;have eg:=lh (he.bel aP.o);obtain⟨T1,P1,rfl,y⟩:=he.ne;clear he;cases bk
     all_goals
      go_wp2_with fail
      rw[<-fA.o];obtain⟨p1,Y⟩:=zX J.heap.size
      rw[<-Y]at b0 b1 b2 jG ⊢;clear Y;refine Zya ?_;refine ta ?_
     .skip
      go_wp2;refine Yp (v:=.tuple #[.bool false,.agg #[vI k1,vI n1,.string t1],.iface T1 (.pointer P1)]) ?_ rfl ?_;·exact Zq1
      .exact Zzh
     .skip
      go_wp2;refine Yp (v:=.tuple #[.bool true,.agg #[vI k1,vI n1,.string t1],.iface T1 (.pointer P1)]) ?_ rfl ?_;·exact Zq1
      .exact Zzh
   |ok v1=>
     obtain⟨rfl,rfl⟩:v1=(bk,⟨k1,n1,t1⟩)/\bQ=.nilIface:=au.o.2.2;cases bk
     .have p:R=pZ D sc fr ((P.drop (k+1)).map (ATree.nt C.N)) s1:=I.o;have bD:=lh p;clear I p;obtain⟨i1,U,-,eo,i2⟩:=bL.o;have eF:=lh i1;have lq:=lh (Yu (dJ.o.1.trans U) i2);clear i1 U eo i2;go_wp2_with fail
      rw[<-fA.o];go_roundw
      case rel=>exact⟨k+1,M1,s1,by omega,by go_num,lh (au.o.1.below aP.o),bc,eF,lq,bD⟩
      case measure=>simp[intOf];omega
     .have p:R=(s1,.ok (true,⟨k1,n1,t1⟩)):=I.o;clear I;subst p;go_wp2_with fail
      rw[<-fA.o];obtain⟨p1,Y⟩:=zX J.heap.size
      rw[<-Y]at b0 b1 b2 jG ⊢;clear Y;refine Zya ?_;refine ta ?_;go_wp2;refine Yp (v:=.tuple #[.bool true,.agg #[vI k1,vI n1,.string t1],.nilIface]) ?_ rfl ?_;·exact Zq1
      .exact .fine HLR.o HBZ.o (au.o.1.below aP.o).drew (bc.o.trans (.drew (.refl _ _)))
  .have aT:k=q:=by omega
   subst aT;have g:=u.o;rw[List.drop_eq_nil_of_le Rp]at g;have p:R=(o,.ok (false,⟨0,0,⟨#[]⟩⟩)):=g;subst p;obtain⟨q0,q1,q2,z0,z1,z2⟩:=(HLR.o.fr m.o).six;clear g u;go_wp2;refine Yp (v:=.tuple #[.bool false,.agg #[vI 0,vI 0,.string ⟨#[]⟩],.nilIface]) ?_ rfl ?_;·exact Zq1
   .exact .fine HLR.o HBZ.o O.o m.o
theorem Z6z{p:MSt->kB->MSt}{g:MSt->kB->LVal->MSt}{x:NT}{l:List NT}:s.funcs p g (x::l) sc fr=(g ((p s x.text).funS x sc fr) x.text (.ref (p s x.text).nextO)).funcs p g l sc fr:=rfl
def Z33(G:C.Ok)(h:MAt C M w s)(hI:Inv s (d+4))(m:TreeAt w B a)(hf:a.free M)(g:Lp (a.nt C.N))(sc:Int)(fr:Frm)(o:0<=sc)(u:sc<s.H.scopes.length) :
 kC 27 #[vP C.mb,a.ptr,vI sc,.agg #[.bool fr.strict,vI fr.vars]] w λe w'=>e=.returned (.agg #[vI 5,vI s.nextO,.string ⟨#[]⟩])/\Does C M w (s.funS (a.nt C.N) sc fr) w':=by
 obtain⟨p,b,hk,-⟩:=Z86 g;rw[Zw,zI]at hk;obtain⟨pn,body,F⟩:∃pn body,a.kids=[pn,body]:=by
  match hl:a.kids,hk with
  | [],hk=>simp at hk
  | [x],hk=>simp at hk
  | [x,y],hk=>exact⟨x,y,rfl⟩
  |x::y::z::l,hk=>simp at hk
 cases hnm:(a.nt C.N).named;·exact Zbp h hI m hf F hnm sc fr o u g
 .exact Zah G h hI m hf F hnm sc fr o u g
def Zjb(hC:C.Ok)(cV:FR C D b)(hD:DH D b)(h:MAt C M w s)(hI:Inv s (d+12000))(hA:FAt s sc fr)(hb:b<=s.steps)(hs:s.steps<=20000)(ha:TreeAt w B a)(hf:a.free M)(hst:(a.nt C.N).stm)(hm:(a.nt C.N).tree.many<=1500)(PC:a.many<=1500) :
 kC 98 #[vP C.mb,a.ptr,vI sc,.agg #[.bool fr.strict,vI fr.vars]] w λe w'=>jm C M w (XA D (a.nt C.N) sc fr s) e w':=by
 obtain⟨R,hR⟩:=zX (XA D (a.nt C.N) sc fr s)
 rw[<-hR];unfold XA at hR;rw[Z9e,Zw,zI]at hR;have ao:=Wd hst hm;have Kb:a.kids.length<=1500:=QM
 refine MP ?_;intro aR lf lr z hz;rw[<-hz]at aR lf lr;refine Pq ?_;intro aE aJ;refine SR ?_;intro q hq pp cp ch bq d7 cW;rw[<-hq]at ch bq;obtain⟨HC,qw,HLR⟩:=ds hC ch lr;refine GR ?_;intro dC HBZ HM HO HE;obtain⟨y,J,HA,HI,HN,pN,iU,HD,du,HZ⟩:=mR aJ hf hA hI Kb (show∀x∈a.kids,(x.nt C.N).wf .s/\(x.nt C.N).tree.many<=1500 from λx hx=>ao (x.nt C.N) Q2) cV hD (Yu hb hs) hz
 have rT:=lh (Z9o false z B a aJ Qe);obtain⟨nl,tJ⟩:=zX (JK false a)
 rw[<-tJ]at rT hR;have mW:=lh hR;have wm:=lh (Yu hst hm);clear hz aE lf lr aR aJ ha hf h hI hA hR ch cW hq ao Kb cV hD hb hs hC hst hm tJ;unfold ATree.ptr at rT ⊢;go_enter func98,ntmps98
 go_wp2_with fail
 rw[<-HZ.o];refine rT.o.mono ?_;rintro e w1⟨v1,rfl,nu,aQ⟩;obtain⟨p1,PD,rfl,Na,Nb,Gf⟩:=nu.form2;obtain⟨au,bA,bX⟩:=ds aQ (MFr.of_below (M:=M) aQ) (HM.o.below aQ);clear nu aQ Gf;cases hn0:nl.isEmpty
 .have h0:decide (0<nl.length)=true:=by
   cases nl with
   |nil=>simp at hn0
   |cons x l=>simp
  have F:=mW.o;rw[hn0]at F;simp only[Bool.false_eq_true,if_false]at F;have fY:=lh F;have eH:=HI.o.opens (d:=d+11999) (outer:=sc) (object:=-1) (owner:=C.N a.b) (by have:=HA.o.lo;omega) HA.o.hi Qe Qe;obtain⟨nx,eC⟩:=zX s.next
  obtain⟨so,aW⟩:=zX (s.opens sc (-1) (C.N a.b))
  have nA:=FAt.opens HA.o eH.2;rw[<-aW,<-eC]at nA;rw[<-aW]at eH;have iK:so.steps=s.steps/\so.calls=s.calls:=by rw[aW];exact⟨rfl,rfl⟩
  have oG:=lh (Z5z HC.o bX.o (y.o.bel au.o));simp only[ATree.ptr]at oG;have eG:=Wp bX.o HI.o sc (-1) (C.N a.b);rw[<-aW,<-eC]at eG;have jI:=lh eG;obtain⟨O,bZ⟩:=zX (so.lets (a.nt C.N).lets nx)
  have ff:=Wi (s:=so) (l:=(a.nt C.N).lets) (sc:=nx) (d:=d+10000) (eH.1.less (by have:=Z73 (n:=a.nt C.N);have:=Td (n:=a.nt C.N);have:=wm.o.2;omega));rw[<-bZ]at ff;have tT:O.steps=so.steps/\O.calls=so.calls:=by rw[bZ];exact⟨Z57.2,Z57.1⟩
  obtain⟨Q,hQ⟩:=zX (a.kids.filter xp)
  have an:R=pZ D nx fr (a.kids.map (ATree.nt C.N)) (O.funcs (λs _=>s) (λt a v=>t.declare nx a 0 v) (Q.map (ATree.nt C.N)) nx fr):=by
   rw[fY.o,eC];unfold MSt.blockS;rw[Zck,<-aW,<-eC,<-bZ,YX,<-hQ]
  have Kc:Q.length<=1500:=by rw[hQ];exact Y4 (List.length_filter_le _ _) HN.o
  have nZ:=lh (show∀x∈Q,Lp (x.nt C.N)from λx hx=>Wq wm.o.1 wm.o.2 (x.nt C.N) (by rw[YX,<-hQ];exact List.mem_map.2 ⟨x,hx,rfl⟩));obtain⟨Nc,nj,yj,Gg,Kd,bD,kf,HQ,Ke⟩:=lB (show∀x∈Q,x∈a.kids from λx hx=>(List.mem_filter.1 (hQ▸hx)).1) eH ff nA (Yu iK tT) an bZ hQ Kc;clear mW fY F eH nA iK eG ff tT an eC aW bZ hQ Kc;go_wp2_with fail
  refine oG.o.mono ?_;rintro e w2⟨rfl,rfl⟩;go_wp2_with fail
  refine jI.o.mono ?_;rintro e w3⟨rfl,M3,dE,bh⟩;have bP:=lh (bA.o.trans bh);have dH:=lh dE;clear dE bh;have aA:=Z81 dH.o (d:=d+10000) (nj.o.1.less Re) (bP.o.tree y.o J.o).1 (bP.o.tree y.o J.o).2 Re nx;rw[<-kf.o]at aA;have sr:=lh aA;simp only[ATree.ptr]at sr;clear aA;go_wp2_with fail
  refine sr.o.mono ?_;rintro e w4⟨rfl,M4,fG,bg⟩;have kr:=lh (bP.o.trans bg);have jd:=lh fG;clear fG bg;have qz:=ZZ w4 B a (kr.o.tree y.o J.o).1 Re;rw[<-HQ.o]at qz;have mG:=lh qz;simp only[ATree.ptr]at mG;clear qz;go_wp2_with fail
  refine mG.o.mono ?_;rintro e w5⟨v5,rfl,hZ,eO⟩;obtain⟨p5,rg,rfl,jo,mU,gD⟩:=hZ.slice;have gC:∀g,(Value.slice p5 Q.length rg).ownBlock=some g->¬M4.has g:=λg hg=>jd.o.fresh (Y9 hZ g hg).1;obtain⟨m,fd⟩:=zX Q.length
  rw[<-fd]at jo hZ gC ⊢;obtain⟨rq,rr,N5,kN,iu,HQ1⟩:=gw (jd.o.below eO) (kr.o.trans (.of_below eO)) hZ gC gD fd;have lp:m<=9223372036854775807:=by have:=Ke.o;omega
  clear hZ eO gD gC fd;go_wp2_with fail
  go_loopw [30] (λi wr=>∃(k:Nat) (U:MRep) (p:MSt),k<=m/\i=(vI k)/\Hid (MAt C U wr p)/\Hid (MFr M4 U w5 wr)/\Hid (Inv p (d+6*(m-k)))/\Hid (Ext O p/\p.steps=O.steps)/\Hid (R=pZ D nx fr (a.kids.map (ATree.nt C.N)) (p.funcs (λs _=>s) (λt a v=>t.declare nx a 0 v) ((Q.drop k).map (ATree.nt C.N)) nx fr))) (λi _=>m-(intOf i).toNat)
  case atStart=>exact⟨0,M4,O,Yh _,rfl,rq,lh (.refl _ _),lh (yj.o.1.less (by have:=Ke.o;have:=HQ1.o;omega)),lh ⟨Ext.refl _,rfl⟩,lh (by rw[List.drop_zero];exact bD.o)⟩
  case round=>
   obtain⟨k,U,p,hk,rfl,HMk,I,eu,dJ,X⟩:=hrel;by_cases bY:k<m
   .obtain⟨x,hx⟩:∃x,Q[k]? =some x:=⟨_,Y6 Qw⟩
    obtain⟨g0,hp⟩:=iu.o k x hx;subst hp;have aV:x∈Q:=Yd hx;have bM:=Nc.o x aV;have cx:=(I.o.nodes N5.o kN.o).cell rfl hx;have o:=lh (rr.o.trans I.o);have dy:=o.o.tree y.o J.o;have ml:=dy.1.kid bM;have fS:=dy.2.kid bM;have nQ:=eu.o.less (d':=d+6*(m-(k+1))+6) Qe;have ig:0<=nx/\nx<p.H.scopes.length:=⟨Gg.o.lo,by have h1:=Gg.o.hi;have h2:=yj.o.2.ls;have h3:=dJ.o.1.ls;omega⟩
    have gG:=Z33 HC.o HMk.o.drew (d:=d+6*(m-(k+1))+2) (nQ.less Qe) ml.drew fS (nZ.o x aV) nx fr ig.1 ig.2;obtain⟨no,dG⟩:=zX p.nextO
    obtain⟨sf,jr⟩:=zX (p.funS (x.nt C.N) nx fr)
    rw[<-dG,<-jr]at gG;have iD:=lh gG;simp only[ATree.ptr]at iD;obtain⟨j1,j2,j3⟩:=Z6x (d:=d+6*(m-(k+1))+1) (n:=x.nt C.N) (sc:=nx) (fr:=fr) (nQ.less Qe) (nZ.o x aV) ig.1 ig.2;have ws:=(Z6t (s:=p) (sc:=nx) (fr:=fr) (n:=x.nt C.N)).2;rw[<-jr]at j1 j2 j3 ws;obtain⟨l1,l2⟩:=UW (d:=d+6*(m-(k+1))) (sc:=nx) (name:=x.text) (kind:=0) (v:=.ref no) j1 (Ti (by rw[dG];show(0:Int)<=p.H.objects.length;omega) (by rw[j3,dG];show(p.H.objects.length:Int)<_;omega)) Qg Qg
    have hR:=X.o;rw[show Q.drop k=x::Q.drop (k+1) by
     obtain⟨hl,he⟩:=List.getElem?_eq_some_iff.1 hx;rw[Yt hl,he],List.map_cons,Z6z,sw,<-jr,<-dG]at hR
    have lz:=lh (show∀W M',MFr U M' wr W->vC W x.b 1 (.string x.text)/\vC W w.heap.size 0 (.bool fr.strict)/\vC W w.heap.size 1 (vI fr.vars)from
     λW M' f=>⟨(f.tree ml fS).1.c1,(dC.o.fr (o.o.trans f)).cell rfl,(dC.o.fr (o.o.trans f)).cell rfl⟩)
    obtain⟨dP,Nd,jY,lq⟩:=gp hR j1 l1 (show Ext O (sf.declare nx x.text 0 (.ref no))/\(sf.declare nx x.text 0 (.ref no)).steps=O.steps from⟨(dJ.o.1.trans j2).trans l2,ws.trans dJ.o.2⟩);clear aV bM dy ml fS nQ ig gG dG jr j1 j2 j3 ws l1 l2 hR;go_wp2_with fail
    refine o4 [(true,0),(true,1),(true,2),(true,3),(true,4),(true,5),(true,6),(true,7),(true,8),(true,9),(true,10),(true,11),(false,12)] [13] (λW=>vC W x.b 1 (.string x.text)/\vC W w.heap.size 0 (.bool fr.strict)/\vC W w.heap.size 1 (vI fr.vars)) (lz.o _ _ (.drew (.refl _ _))) (λbw=>?_);refine iB ?_;intro K hK;refine iD.o.mono ?_;rintro e w7⟨rfl,M7,kp,dM⟩;have F7:=(MFr.drew (.refl U wr)).trans dM;refine hK _ _ (lz.o _ _ F7) ?_;clear hK K cx
    have eV:=Wm kp Nd.o nx x.text 0 (.ref no);simp only[LVal.agg,LVal.ref]at eV;have l9:=lh eV;have tE:=lh (I.o.trans F7);clear kp dM F7 eV;refine Z1 ?_;go_wp2_with fail
    refine l9.o.mono ?_;rintro e w8⟨rfl,M8,ug,sO⟩;have Gh:=lh ug;have Gi:=lh (tE.o.trans sO);clear ug sO;go_wp2_with fail
    go_roundw
    case rel=>exact⟨k+1,M8,_,by omega,by go_num,Gh,Gi,jY,lq,dP⟩
    case measure=>simp[intOf];omega
   .have aT:k=m:=by omega
    subst aT;have hR:=X.o;rw[List.drop_eq_nil_of_le Q4]at hR;obtain⟨HR,o,Nf⟩:=ds (show R=pZ D nx fr (a.kids.map (ATree.nt C.N)) p from hR) (rr.o.trans I.o) ((Gg.o.ext yj.o.2).ext dJ.o.1);have qW:=lh (show b<=p.steps/\p.steps<=20000 by have h1:=dJ.o.2;have h2:=Kd.o.1.1;have h3:=Kd.o.2.1;have h4:=du.o;omega);clear hR X
    have uT:=lh (show∀u M',MFr U M' wr u->vC u w.heap.size 0 (.bool fr.strict)/\vC u w.heap.size 1 (vI fr.vars)/\vC u a.b 3 (.slice pp q cp)from
     λu M' f=>⟨(dC.o.fr (o.o.trans f)).cell rfl,(dC.o.fr (o.o.trans f)).cell rfl,by have:=((o.o.trans f).tree y.o J.o).1.c3;rwa[qw.o]at this⟩)
    have Y:=o.o.tree y.o J.o;have hst:=Z5c iU.o HD.o HMk.o.drew eu.o Nf.o qW.o.1 qW.o.2 Y.1.drew Y.2 HN.o pN.o;rw[qw.o]at hst;have mw:=lh (Calls.dres hst);clear Y hst;go_wp2_with fail
    refine Zwg ?_;intro bw;refine iB ?_;intro K hK;refine mw.o.mono ?_;rintro e W9⟨M9,b9,k9,n9,t9,Cm,rfl,Z⟩;have F9:=(MFr.drew (.refl U wr)).trans Z.2.1;refine hK _ _ (uT.o _ _ F9) ?_;clear hK K;have ea:=lh Z;have rn:=lh (o.o.trans F9);clear Z F9;refine zD ?_;obtain⟨q0,q1,q2,z0,z1,z2⟩:=(HLR.o.fr rn.o).six;have hR:=HR.o;obtain⟨r9,DS⟩:=zX (pZ D nx fr (a.kids.map (ATree.nt C.N)) p)
    exact AbF
 .have F:=mW.o;rw[hn0]at F;simp only[if_true]at F;have HR:=lh F;have Gj:nl=[]:=List.isEmpty_iff.1 hn0;subst Gj;clear mW F hn0
  have uT:=lh (show∀u M',MFr M M' w1 u->vC u w.heap.size 0 (.bool fr.strict)/\vC u w.heap.size 1 (vI fr.vars)/\vC u a.b 3 (.slice pp q cp)from
   λu M' f=>⟨(dC.o.fr (bA.o.trans f)).cell rfl,(dC.o.fr (bA.o.trans f)).cell rfl,by have:=((bA.o.trans f).tree y.o J.o).1.c3;rwa[qw.o]at this⟩)
  have Y:=bA.o.tree y.o J.o;have hst:=Z5c iU.o HD.o bX.o.drew HI.o HA.o du.o.1 du.o.2 Y.1.drew Y.2 HN.o pN.o;rw[qw.o]at hst;have mw:=lh (Calls.dres hst);clear Y hst;go_wp2_with fail
  refine Zwg ?_;intro bw;refine iB ?_;intro K hK;refine mw.o.mono ?_;rintro e W9⟨M9,b9,k9,n9,t9,Cm,rfl,Z⟩;have F9:=(MFr.drew (.refl M w1)).trans Z.2.1;refine hK _ _ (uT.o _ _ F9) ?_;clear hK K;have ea:=lh Z;have rn:=lh (bA.o.trans F9);clear Z F9;refine zD ?_;obtain⟨q0,q1,q2,z0,z1,z2⟩:=(HLR.o.fr rn.o).six;have hR:=HR.o;obtain⟨r9,DS⟩:=zX (pZ D sc fr (a.kids.map (ATree.nt C.N)) s)
  exact AbF
end
section
variable {C:RCtx}{M M1:MRep}{w z W:kV}{s:MSt}{B:Nat}{a:ATree}{d fb:Nat}{st:Bool}{A:Act}{K:Act->kV->Prop}{Q:Exit->Act->kV->Prop}
def Tv(s:MSt)(t:kB):MSt:=if s.H.has 0 t then s else s.put 0 t LVal.zero true
def Zee{t:kB}(h:Inv s (d+1)):Inv (Tv s t) d/\Ext s (Tv s t):=by
 unfold Tv;split;·exact⟨h.less Qe,Ext.refl _⟩
 .exact CC h (sP _)
def Zio{t:kB}:(Tv s t).glob=s.glob/\(Tv s t).outer=s.outer/\(Tv s t).top=s.top:=by
 unfold Tv;split<;>exact⟨rfl,rfl,rfl⟩
def Zuj(hM:MAt C M1 W s)(hg:s.glob=0)(ho:s.outer=0)(ha:TreeAt W B a)(hm:a.many<=1500)(hI:Inv s (d+(yi a).length))(fr:FrA 201 (MZ C w a [(6,vP fb)]) [] A)
 (u:∀A' U M',FrA 201 (MZ C w a [(6,vP fb)]) [] A'->MAt C M' U ((a.nt C.N).vars.foldl Tv s)->MFr M1 M' W U->K A' U)(hQ:∀c a d v w,Q (.panic c) (Act.put a d v) w->Q (.panic c) a w) :
 (f8 [1,1,1,1,1,1,1,1,1,1,0]).wp Tryz.prog (Exit.then K Q) A W:=by
 rw[Wk]at u;have HL:=lh (Z82 W B a ha Qe);obtain⟨P,hP⟩:=zX (yi a)
 obtain⟨S,X⟩:=zX (P.foldl Tv s)
 rw[<-hP]at HL u hI;rw[<-X]at u;obtain⟨HKK,ss,HM,HG,fE⟩:=gq u X hM (Yu hg ho) hQ;unfold MZ at fr;obtain⟨xt,rfl,e0,e2,e5,e6,-⟩:=Zcu fr;rw[e0,e2,e5,e6];clear e0 e2 e5 e6 fr;clear hM u hP X ha hm hg ho hQ;unfold ATree.ptr at HL;conv=>arg 2;whnf
 go_wp2_with fail
 refine HL.o.mono ?_;rintro e w2⟨v2,rfl,cF,aw,fw⟩;obtain⟨p2,jW,rfl,dI,fR,de⟩:=cF.form2;refine Zxc ?_;intro gP;refine OE ?_;intro q cU nq;have eL:=lh cF;have kN:=lh gP;rw[<-cU]at dI hI ⊢;obtain⟨gQ,HQ1,aP,il⟩:=gp de cU aw hI;clear cF aw de gP cU HL fw hI;go_wp2_with fail
 go_loopw [90] (λi wr=>∃(k:Nat) (Mk:MRep) (sk:MSt),k<=q/\i=(vI k)/\Hid (MAt C Mk wr sk)/\Hid (MFr M1 Mk w2 wr)/\Hid (Inv sk (d+(q-k)))/\Hid (sk.glob=0/\sk.outer=0)/\Hid (S=(P.drop k).foldl Tv sk)) (λi _=>q-(intOf i).toNat)
 case atStart=>exact⟨0,M1,s,Yh _,rfl,lh (HM.o.below aP.o),lh (.refl _ _),il,HG,lh Q3⟩
 case round=>
  obtain⟨k,Mk,sk,hk,rfl,HMk,HFk,eu,F,HRk⟩:=hrel;by_cases bY:k<q
  .obtain⟨y,hy⟩:∃y,P[k]? =some y:=⟨_,Y6 Qw⟩
   obtain⟨g0,hp⟩:=gQ.o k y hy;subst hp;obtain⟨mJ,je⟩:=kN.o g0 rfl;have cx:=(HFk.o.cell mJ je).trans (eL.o.cells rfl hy);obtain⟨p,I,-⟩:=HMk.o.gl;rw[F.o.1]at p;rw[F.o.2]at I;have hR:=HRk.o;rw[show P.drop k=y::P.drop (k+1) by
    refine Xh ?_;intro hl he;rw[Yt hl,he],List.foldl_cons]at hR
   obtain⟨m,Y⟩:=zX (Tv sk y)
   have Z:=Zee (d:=d+(q-(k+1))) (t:=y) (eu.o.less Qe);have J:=Zio (s:=sk) (t:=y);rw[<-Y]at hR Z J;obtain⟨HR,tC,Kf⟩:=ds hR Z.1 (show m.glob=0/\m.outer=0 from⟨J.1.trans F.o.1,J.2.1.trans F.o.2⟩);have Gk:=VU HMk.o.drew 0 y;obtain⟨hb,cA⟩:=zX (sk.H.has 0 y)
   rw[<-cA]at Gk;have Ng:=lh Gk;have vU:=lh (show m=if hb then sk else sk.put 0 y LVal.zero true by rw[Y,cA];rfl);clear hy mJ je hR Z J Gk cA Y;go_wp2_with fail
   refine Z9 [(true,0),(true,1),(true,2),(true,3),(true,4),(true,5),(true,6),(true,7)] [8,9] (λW=>vC W C.mb 11 (vI 0)) Qh Qh (λc a d v w h=>fE.o c a d v w h) I (λbw=>?_);refine pU ?_;refine Z1 ?_;go_wp2_with fail
   refine Ng.o.mono ?_;rintro e W3⟨rfl,o⟩;have dH:=lh (HMk.o.drew.below o);have bP:=lh (HFk.o.trans ((MFr.drew (.refl Mk wr)).trans (.of_below o)));clear o p I cx;cases hb
   .have hpt:=zG dH.o.drew eu.o 0 y LVal.zero true;have O:m=sk.put 0 y LVal.zero true:=vU.o;rw[<-O]at hpt;simp only[LVal.agg,LVal.zero]at hpt;have ku:=lh hpt;obtain⟨p,I,-⟩:=dH.o.gl;rw[F.o.1]at p;clear O hpt I;go_wp2_with fail
    refine Z9 [(true,0),(true,1),(true,2),(true,3),(true,4),(true,5),(true,6),(true,7),(true,8)] [9] (λW=>vC W C.mb 10 (vI 0)) Qh Qh (λc a d v w h=>fE.o c a d v w h) p (λbw=>?_);refine pU ?_;refine Z1 ?_;go_wp2_with fail
    refine ku.o.mono ?_;rintro e W4⟨rfl,M4,fG,bg⟩;have jd:=lh fG;have kr:=lh (bP.o.trans ((MFr.drew (.refl Mk W3)).trans bg));clear fG bg p;go_wp2_with fail
    go_roundw
    case rel=>exact⟨k+1,M4,m,by omega,by go_num,jd,kr,tC,Kf,HR⟩
    case measure=>simp[intOf];omega
   .have O:m=sk:=vU.o;subst O;go_wp2_with fail
    go_roundw
    case rel=>exact⟨k+1,Mk,m,by omega,by go_num,dH,bP,tC,Kf,HR⟩
    case measure=>simp[intOf];omega
  .have aT:k=q:=by omega
   exact tu2 aP
def Ztt(g:MAt C M1 W s)(ht:s.top=1)(u:TreeAt W B a)(hf:a.free M1)(hn:a.kids.length<=1500)(hI:Inv s (d+a.kids.length))(fr:FrA 201 (MZ C w a [(6,vP fb)]) [] A)
 (m:∀y o M',FrA 201 (MZ C w a [(6,vP fb)]) [] y->MAt C M' o (s.lets (a.nt C.N).lets 1)->MFr M1 M' W o->K y o) :
 (f8 [1,1,1,1,1,1,1,1,1,1,1,0]).wp Tryz.prog (Exit.then K Q) A W:=by
 have hl:=Z81 g hI u hf Qe 1;obtain⟨S,F⟩:=zX (s.lets (a.nt C.N).lets 1)
 rw[<-F]at hl m;unfold ATree.ptr at hl;have HL:=lh hl;have p:=lh m;obtain⟨-,-,Z⟩:=g.gl;rw[ht]at Z;unfold MZ at fr;obtain⟨xt,rfl,I,J,O,U,-⟩:=Zcu fr;rw[I,J,O,U];clear I J O U fr;clear m g hI u hf hl F ht;conv=>arg 2;whnf
 go_wp2_with fail
 refine HL.o.mono ?_;rintro e w2⟨rfl,M2,X,Y⟩;have bU:=lh X;have bc:=lh Y;clear X Y;go_wp2_with fail
 exact p.o _ _ M2 ⟨rfl,⟨rfl,rfl,rfl,rfl,trivial⟩,rfl⟩ bU.o bc.o
def Zq9(hC:C.Ok)(hM:MAt C M1 W s)(hg:s.glob=0)(ht:s.top=1)(ha:TreeAt W B a)(hf:a.free M1)(iY:(a.nt C.N).stm/\(a.nt C.N).tree.many<=1500)(hn:a.kids.length<=1500){wF:kV}(lf:Lo C M1 wF W fb #[.bool st,vI 0] 78)
 (hI:Inv s (d+6*(a.nt C.N).funcs.length))(h1:1<s.H.scopes.length)(fr:FrA 201 (MZ C w a [(6,vP fb)]) [] A)
 (p:∀A' W' M',FrA 201 (MZ C w a [(6,vP fb)]) [] A'->MAt C M' W' (s.funcs (λs _=>s) (λs t v=>s.put 0 t v true) (a.nt C.N).funcs 1 ⟨st,0⟩)->MFr M1 M' W W'->K A' W')(hQ:∀c a d v w,Q (.panic c) (Act.put a d v) w->Q (.panic c) a w) :
 (f8 [1,1,1,1,1,1,1,1,1,1,1,1,0]).wp Tryz.prog (Exit.then K Q) A W:=by
 have iM:=Wq iY.1 iY.2;rw[YX]at p hI iM;have HL:=lh (ZZ W B a ha Qe);obtain⟨P,hP⟩:=zX (a.kids.filter xp)
 rw[<-hP]at HL p hI iM;refine Zp7 ?_;intro nr;have vX:P.length<=1500:=QU
 obtain⟨S,mX⟩:=zX (s.funcs (λs _=>s) (λs t v=>s.put 0 t v true) (P.map (ATree.nt C.N)) 1 ⟨st,0⟩)
 rw[<-mX]at p;rw[Ym]at hI;refine Zsd ?_;intro nZ;obtain⟨qA,mj,HKK,fE,HM,dC,ss,jR,HI,HG⟩:=mR hC (Yu ha hf) p hQ hM lf mX h1 hI (Yu hg ht);unfold MZ at fr;obtain⟨xt,rfl,e0,e2,e5,e6,-⟩:=Zcu fr;rw[e0,e2,e5,e6];clear e0 e2 e5 e6 fr;clear hC hM ha hf p hP mX hI h1 iY iM hQ lf hg ht;unfold ATree.ptr at HL;conv=>arg 2;whnf
 go_wp2_with fail
 refine HL.o.mono ?_;rintro e w5⟨v5,rfl,hZ,eO⟩;obtain⟨p5,rg,rfl,jo,mU,gD⟩:=hZ.slice;refine Zxm ?_;intro gC m fd;rw[<-fd]at jo hZ gC ⊢;have gZ:=lh eO;have rq:=lh (HM.o.below eO);refine Ztq ?_;intro N5 kN iu HQ1 lp;clear hZ eO gD gC fd HL;go_wp2_with fail
 go_loopw [125] (λi wr=>∃(k:Nat) (Mk:MRep) (sk:MSt),k<=m/\i=(vI k)/\Hid (MAt C Mk wr sk)/\Hid (MFr M1 Mk w5 wr)/\Hid (Inv sk (d+6*(m-k)))/\Hid (Ext s sk)/\Hid (S=sk.funcs (λs _=>s) (λs t v=>s.put 0 t v true) ((P.drop k).map (ATree.nt C.N)) 1 ⟨st,0⟩)) (λi _=>m-(intOf i).toNat)
 case atStart=>exact⟨0,M1,s,Yh _,rfl,rq,lh (.refl _ _),lh (HI.o.less Sn),lh (Ext.refl _),lh Q3⟩
 case round=>
  obtain⟨k,Mk,sk,hk,rfl,HMk,HFk,eu,I,HRk⟩:=hrel;by_cases bY:k<m
  .obtain⟨y,hy⟩:∃y,P[k]? =some y:=⟨_,Y6 Qw⟩
   obtain⟨g0,hp⟩:=iu.o k y hy;subst hp;refine Ztu ?_;intro aV bM cx HFz;have dy:=HFz.o.tree mj.o.1 mj.o.2;have ml:=dy.1.kid bM;have fS:=dy.2.kid bM;have nQ:=eu.o.less (d':=d+6*(m-(k+1))+6) Qe;have ai:(1:Int)<sk.H.scopes.length:=by have h1:=jR.o;have h3:=I.o.ls;omega
   have zt:sk.glob=0:=I.o.glob.trans HG.o.1;have wu:sk.top=1:=I.o.top.trans HG.o.2;have gG:=Z33 qA.o HMk.o.drew (d:=d+6*(m-(k+1))+2) (nQ.less Qe) ml.drew fS (nZ.o y aV) 1 ⟨st,0⟩ Qg ai;obtain⟨J,u⟩:=zX sk.nextO
   obtain⟨O,U⟩:=zX (sk.funS (y.nt C.N) 1 ⟨st,0⟩)
   rw[<-u,<-U]at gG;have iD:=lh gG;simp only[ATree.ptr]at iD;obtain⟨X,F,j3⟩:=Z6x (d:=d+6*(m-(k+1))+1) (n:=y.nt C.N) (sc:=1) (fr:=⟨st,0⟩) (nQ.less Qe) (nZ.o y aV) Qg ai;rw[<-U]at X F j3;have j8:(LVal.ref J).ok O.H.objects.length:=Ti (by rw[u];show(0:Int)<=sk.H.objects.length;omega) (by rw[j3,u];show(sk.H.objects.length:Int)<_;omega);obtain⟨sb,Y⟩:=zX (O.put 0 y.text (.ref J) true)
   have Z:=CC (d:=d+6*(m-(k+1))) (o:=0) (name:=y.text) (v:=.ref J) (fx:=true) X j8;rw[<-Y]at Z;have hR:=HRk.o;rw[show P.drop k=y::P.drop (k+1) by
    refine Xh ?_;intro hl he;rw[Yt hl,he],List.map_cons,Z6z,sw,<-U,<-u,<-Y]at hR
   obtain⟨bD,HJ,tv,tz,cD⟩:=gq hR X Z.1 ((I.o.trans F).trans Z.2) Y;have uh:O.glob=0:=F.glob.trans zt;have Kg:O.top=1:=F.top.trans wu
   have lz:=lh (show∀W M' s',MAt C M' W s'->s'.glob=0->s'.top=1->MFr Mk M' wr W->vC W C.mb 10 (vI 0)/\vC W C.mb 12 (vI 1)/\vC W y.b 1 (.string y.text)/\vC W fb 0 (.bool st)/\vC W fb 1 (vI 0)from
    λW M' s' hm g1 g2 f=>⟨by have:=hm.gl.1;rwa[g1]at this,by have:=hm.gl.2.2;rwa[g2]at this,(f.tree ml fS).1.c1,(dC.o.fr (HFz.o.trans f)).cell rfl,(dC.o.fr (HFz.o.trans f)).cell rfl⟩)
   have C7:=lh (Yu (Yu zt wu) (Yu uh Kg));clear dy ml fS nQ ai zt wu gG u U X F j3 j8 Y Z hR hy aV bM uh Kg;go_wp2_with fail
   refine Z9 [(true,0),(true,1),(true,2),(true,3),(true,4),(true,5),(true,6),(true,7),(true,8),(true,9),(true,10),(true,11),(true,12),(true,13),(true,14),(true,15),(true,16),(true,17),(false,18)] [19] (λW=>vC W C.mb 10 (vI 0)/\vC W C.mb 12 (vI 1)/\vC W y.b 1 (.string y.text)/\vC W fb 0 (.bool st)/\vC W fb 1 (vI 0)) Qh Qh (λc a d v w h=>fE.o c a d v w h) (lz.o _ _ _ HMk.o.drew C7.o.1.1 C7.o.1.2 (.drew (.refl _ _))) (λbw=>?_)
   refine iB ?_;intro K hK;refine iD.o.mono ?_;rintro e W7⟨rfl,M7,kp,dM⟩;have F7:=(MFr.drew (.refl Mk wr)).trans dM;refine hK _ _ (lz.o _ _ _ kp C7.o.2.1 C7.o.2.2 F7) ?_;clear hK K cx;have hpt:=zG kp HJ.o 0 y.text (.ref J) true;rw[<-cD.o]at hpt;simp only[LVal.agg,LVal.ref]at hpt;have ku:=lh hpt;have tE:=lh (HFk.o.trans F7);clear kp dM F7 hpt;refine Z1 ?_;go_wp2_with fail
   refine ku.o.mono ?_;rintro e W8⟨rfl,M8,ug,sO⟩;have Gh:=lh ug;have Gi:=lh (tE.o.trans sO);clear ug sO;go_wp2_with fail
   go_roundw
   case rel=>exact⟨k+1,M8,sb,by omega,by go_num,Gh,Gi,tv,tz,bD⟩
   case measure=>simp[intOf];omega
  .have aT:k=m:=by omega
   exact tu2 gZ
theorem Zno:f8 [1,1,1,1]=Code.seq (f8 [1,1,1,1,0]) (Code.seq (f8 [1,1,1,1,1,0]) (Code.seq (f8 [1,1,1,1,1,1,0]) (Code.seq (f8 [1,1,1,1,1,1,1,0]) (Code.seq (f8 [1,1,1,1,1,1,1,1,0]) (Code.seq (f8 [1,1,1,1,1,1,1,1,1,0]) (f8 [1,1,1,1,1,1,1,1,1,1])))))):=by kernel_rfl
def Z6n:(MSt.new.object 0).nextO=1/\(((MSt.new.object 0).object 1).put 0 Jk (.ref 1) false).nextO=2/\TW.next=0:=by
 refine⟨rfl,?_,?_⟩;·rfl
 .rfl
def Zqk(hM:MAt C M z MSt.new)(ha:TreeAt z B a)(hf:a.free M)(fr:FrA 201 (MZ C w a []) [] A)
 (hN:∀A' W' M' fb,FrA 201 (MZ C w a [(6,vP fb)]) [] A'->MAt C M' W' Dk->MFr M M' z W'->Lo C M' z W' fb #[.bool (Zj a),vI 0] 78->(f8 [1,1,1,1,1,1,1,1,1,1]).wp Tryz.prog Q A' W')(hQ:∀c a d v w,Q (.panic c) (Act.put a d v) w->Q (.panic c) a w) :
 (f8 [1,1,1,1]).wp Tryz.prog Q A z:=by
 have HN:=lh hN;refine Xn ?_;intro fE;have HT:=lh (Yu ha hf);have HO:=lh hM.old.size;obtain⟨J,m⟩:=zX (MSt.new.object 0)
 obtain⟨u2,o⟩:=zX (J.object 1)
 obtain⟨u3,u⟩:=zX (u2.put 0 Jk (.ref 1) false)
 obtain⟨u4,F⟩:=zX (u3.object 2)
 obtain⟨u5,O⟩:=zX (u4.put 0 UB (.ref 2) false)
 obtain⟨I,Y⟩:=zX (u5.opens (-1) 0 (-1))
 obtain⟨u7,AP⟩:=zX (I.opens 0 (-1) 0)
 have n1:MSt.new.nextO=0:=rfl;have n2:J.nextO=1:=by rw[m];exact Z6n.1
 have n3:u3.nextO=2:=by rw[u,o,m];exact Z6n.2.1
 have n4:u5.next=0:=by rw[O,F,u,o,m];exact Z6n.2.2
 have n5:I.next=1:=by rw[Y];unfold MSt.next MSt.opens;have:=n4;unfold MSt.next at this;simp only[zL,zM,zN];omega
 have g1:J.glob=0/\u2.glob=0/\u3.glob=0/\u4.glob=0/\u5.glob=0/\I.glob=0/\u7.glob=0:=by rw[AP,Y,O,F,u,o,m];exact⟨rfl,rfl,rfl,rfl,rfl,rfl,rfl⟩
 have o1:I.outer=0/\u7.outer=0:=by rw[AP,Y,O,F,u,o,m];exact⟨rfl,rfl⟩
 have e2:({u7 with top:=1}:MSt)=Dk:=by rw[AP,Y,O,F,u,o,m];rfl
 have i0:Inv MSt.new 20000:=Zl3;have i1:Inv J 19999:=by rw[m];exact(i0.object (d:=19999) Qg Qg).1
 have i2:Inv u2 19998:=by rw[o];exact(i1.object (d:=19998) Qg Qe).1
 have y:u2.H.objects.length=2:=by rw[o,m];rfl
 have i3:Inv u3 19997:=by rw[u];exact(CC (d:=19997) i2 (Ti Qg (by rw[y];decide))).1
 have i4:Inv u4 19996:=by rw[F];exact(i3.object (d:=19996) Qg Qe).1
 have ww:=Zaf hM i0 0;rw[n1,<-m]at ww;obtain⟨AQ,eF,oN,nX,Gm⟩:=gq ww i1 i2 i3 i4;have i5:Inv u5 19995:=by
  have l4:u4.H.objects.length=3:=by rw[F,u,o,m];rfl
  rw[O];exact(CC (d:=19995) i4 (Ti Qg (by rw[l4];decide))).1
 have Nh:=lh i5;have l5:0<u5.H.objects.length:=by rw[O,F,u,o,m];decide
 have i6:Inv I 19994:=by rw[Y];exact(i5.opens (d:=19994) Qe Qe Qg Qe).1
 obtain⟨Ni,AB,Nj,Nk,Nl,HG,Gn,nP,Nm,Nn,No,Np⟩:=tq i6 n2 n3 n4 n5 g1 o1 e2 o u F O;have Nq:=lh Y;have Nr:=lh AP;unfold MZ at fr;obtain⟨xt,rfl,e0,e2,e5,-⟩:=Zcu fr;rw[e0,e2,e5];clear e0 e2 e5 fr;clear hM ha hf hQ hN n1 n2 n3 n4 n5 g1 o1 e2 i0 i1 i2 i3 i4 i5 i6 y l5 ww m o u F O Y AP;rw[Zno];refine c9 ?_;intro K HK;go_wp2_with fail
 refine AQ.o.mono ?_;rintro e W1⟨rfl,M1,dZ,dc⟩;have kO:=dZ.gl.1;have Ns:=dZ.fz 10;obtain⟨g,U⟩:=Zod dZ 0;have g:MAt C M1 (W1.setCell ⟨C.mb,10,none⟩ (vI 0)) J:=by
  have e:({J with glob:=0}:MSt)=J:=by have:=HG.o.1;cases J;simp only at this;subst this;rfl
  rw[e]at g;exact g
 have bX:=lh g;have bA:=lh (dc.trans U);clear dZ dc g U AQ;go_wp2_with fail
 refine HK.o _ _ ?_;clear HK K kO Ns;generalize W1.setCell ⟨C.mb,10,none⟩ (vI 0)=W1 at bX bA ⊢;have hob:=Zaf bX.o.drew eF.o 1;rw[AB.o,<-Nm.o]at hob;have kZ:=lh hob;have kO:=bX.o.gl.1;rw[HG.o.1]at kO;clear hob;refine c9 ?_;intro K HK;go_wp2_with fail
 refine Zvs ?_;intro bw;refine iB ?_;intro K hK;refine kZ.o.mono ?_;rintro e W2⟨rfl,M2,aO,ap⟩;have y:=aO.gl.1;rw[HG.o.2.1]at y;refine hK _ _ y ?_;clear hK K;have hpt:=zG aO oN.o 0 Jk (.ref 1) false;rw[<-Nn.o]at hpt;simp only[LVal.agg,LVal.ref,Jk]at hpt;have ku:=lh hpt;have bc:=lh (bA.o.trans ((MFr.drew (.refl _ _)).trans ap));clear aO ap hpt kO y kZ;refine pU ?_;refine Z1 ?_;go_wp2_with fail
 refine ku.o.mono ?_;rintro e W3⟨rfl,M3,dE,bh⟩;have dH:=lh dE;have bP:=lh (bc.o.trans bh);obtain⟨fj,qB⟩:=zX (cL (u2.H.put 0 ⟨#[112,114,105,110,116]⟩ ⟨5,1,⟨#[]⟩⟩ false).2)
 rw[<-qB];clear dE bh qB ku;go_wp2_with fail
 refine HK.o _ _ ?_;clear HK K;have hob:=Zaf dH.o.drew nX.o 2;rw[Nj.o,<-No.o]at hob;have kZ:=lh hob;have kO:=dH.o.gl.1;rw[HG.o.2.2.1]at kO;clear hob;refine c9 ?_;intro K HK;go_wp2_with fail
 refine Zvs ?_;intro bw;refine iB ?_;intro K hK;refine kZ.o.mono ?_;rintro e W4⟨rfl,M4,fG,bg⟩;have y:=fG.gl.1;rw[HG.o.2.2.2.1]at y;refine hK _ _ y ?_;clear hK K;have hpt:=zG fG Gm.o 0 UB (.ref 2) false;rw[<-Np.o]at hpt;simp only[LVal.agg,LVal.ref,UB]at hpt;have ku:=lh hpt;have kr:=lh (bP.o.trans ((MFr.drew (.refl _ _)).trans bg));clear fG bg hpt kO y kZ;refine pU ?_;refine Z1 ?_;go_wp2_with fail
 refine ku.o.mono ?_;rintro e W5⟨rfl,M5,me,eP⟩;have rq:=lh me;have rr:=lh (kr.o.trans eP);obtain⟨o7,AR⟩:=zX (cL (u4.H.put 0 ⟨#[101,118,97,108]⟩ ⟨5,2,⟨#[]⟩⟩ false).2)
 rw[<-AR];clear me eP AR ku;go_wp2_with fail
 refine HK.o _ _ ?_;clear HK K;have Z:=Wp rq.o Nh.o (-1) 0 (-1);rw[Nk.o,<-Nq.o]at Z;have jI:=lh Z;have kO:=rq.o.gl.1;rw[HG.o.2.2.2.2.1]at kO;clear Z;refine c9 ?_;intro K HK;go_wp2_with fail
 refine jI.o.mono ?_;rintro e W6⟨rfl,M6,rD,fF⟩;have p:=rD.gl.2.1;have Nt:=rD.fz 11;obtain⟨g,U⟩:=Zmv rD 0;have g:MAt C M6 (W6.setCell ⟨C.mb,11,none⟩ (vI 0)) I:=by
  have e:({I with outer:=0}:MSt)=I:=by have:=Gn.o.1;cases I;simp only at this;subst this;rfl
  rw[e]at g;exact g
 have AS:=lh g;have mm:=lh (rr.o.trans (fF.trans U));clear rD fF g U jI kO;go_wp2_with fail
 refine HK.o _ _ ?_;clear HK K p Nt;generalize W6.setCell ⟨C.mb,11,none⟩ (vI 0)=W6 at AS mm ⊢;have Z:=Wp AS.o Ni.o 0 (-1) 0;rw[Nl.o,<-Nr.o]at Z;have jI:=lh Z;have p:=AS.o.gl.2.1;rw[Gn.o.1]at p;clear Z;refine c9 ?_;intro K HK;go_wp2_with fail
 refine jI.o.mono ?_;rintro e W7⟨rfl,M7,kp,dM⟩;have Gl:=kp.gl.2.2;have Nu:=kp.fz 12;obtain⟨g,U⟩:=Zv3 kp 1;rw[nP.o]at g;obtain⟨yM,tE,PE⟩:=ds g (mm.o.trans (dM.trans U)) Gn.o.2;clear kp dM g U jI p;go_wp2_with fail
 refine HK.o _ _ ?_;clear HK K Gl Nu;generalize W7.setCell ⟨C.mb,12,none⟩ (vI 1)=W7 at yM tE ⊢;have p:=yM.o.gl.2.1;rw[show Dk.outer=0 from rfl]at p;have Kh:=tE.o.tree HT.o.1 HT.o.2;have hst:=λW (hW:kW W7 W)=>Z4e W B a (Kh.1.bel hW);simp only[ATree.ptr]at hst;have mw:=lh hst;have jn:C.mb<W7.heap.size:=yM.o.mbLt;have HL:=lh (Lo.new (wE:=z) yM.o tE.o.size HO.o #[.bool (Zj a),vI 0] 78);have tD:=lh (Z2 W7 (.cells #[.bool (Zj a),vI 0] 78));obtain⟨sb,aM⟩:=zX (Zj a)
 rw[<-aM]at mw HL tD HN;clear hst Kh aM;refine c9 ?_;intro K HK;go_wp2_with fail
 refine Z2d (.take 0 (.take 2 (.take 3 (.take 4 (.take 5 (.two 1 (.take 6 (.go 7 (.go 8 .nil))) 7 (.go 1 (.take 6 (.go 8 .nil))))))))) 8 (λW=>vC W C.mb 11 (vI 0)) Qh Qh (λc a d v w h=>fE.o _ c a d v w h) p ?_;refine ra ?_;refine Zl5 ?_ ?_
 .skip
  refine oK (λK hK=>?_);refine(mw.o _ (Zd _)).mono ?_;rintro e W8⟨rfl,AT⟩;rw[AT];refine hK _ _ p ?_;clear hK K AT W8;refine UQ ?_;refine oK (λK hK=>?_);refine hK _ _ ((Zb jn).trans p) ?_;clear hK K;try simp only[Act.put,zA,zB,zC]
  exact Ace
 .skip
  refine oK (λK hK=>?_);refine hK _ _ ((Zb jn).trans p) ?_;clear hK K;refine U9 ?_;intro K hK;refine(mw.o _ ((Z2 W7 _).drew)).mono ?_;rintro e W8⟨rfl,AT⟩;rw[AT];refine hK _ _ ((Zb jn).trans p) ?_;clear hK K AT W8;refine UQ ?_;exact Ace
end
open Go.Extern.Stop Go.Stop Go.Extern
def Zlx(t:Value)(w:kV) :
 kC 16 #[.nilIface,t] w λe w'=>e=.returned (.bool false)/\w'=w:=by
 go_enter func16,ntmps16
 go_wp2;go_ret;exact⟨rfl,rfl⟩
def S5(t:Addr)(w:kV):(ReflectliteValue.unpack (.iface 87 (.pointer (some t)))).run Tryz.prog w
 = .ok (.agg #[.pointer (some ⟨8,87,none⟩),vP w.heap.size,.int .u64 150]) (w.alloc (.cells #[.pointer (some t)] 87)):=by kernel_rfl
def V1(a:Addr)(w:kV):(ReflectliteValue.methodAny (ReflectliteValue.valueError "reflectlite.Value.Type" 0) (λt _ _ _=>ReflectliteType.toType t) #[.agg #[.pointer (some ⟨8,87,none⟩),.pointer (some a),.int .u64 150]]).run Tryz.prog w
 = .ok (.iface 166 (.agg #[.pointer (some ⟨8,87,none⟩)])) w:=by kernel_rfl
theorem NI(h:Value)(w:kV):(Go.method 371 166 (.agg #[h]) "Kind").run Tryz.prog w= .ok (181,h) w:=by kernel_rfl
theorem V2(w:kV):((ReflectliteType.abiMethod λt=>(λa:Nat=>Value.int IntKind.u8 (a:Int))<$>Rtype.kind t) #[.pointer (some ⟨8,87,none⟩)]).run Tryz.prog w=.ok (.int .u8 22) w:=by kernel_rfl
theorem WB(w:kV):((ReflectliteType.abiMethod λt=>(λa:Nat=>Value.int IntKind.u8 (a:Int))<$>Rtype.kind t) #[.pointer (some ⟨8,86,none⟩)]).run Tryz.prog w=.ok (.int .u8 22) w:=by kernel_rfl
def Abd(z:Sem Value)(f:TypeId->Addr->Nat->Nat->Sem Value)(v:Value) :
 ReflectliteValue.method z f #[v]=(do match<-ReflectliteValue.parts v with|none=>z|some (t,a,fl)=>f t a fl (fl %32)):=rfl
theorem NJ(a:Addr)(w:kV):(ReflectliteValue.parts (.agg #[.pointer (some ⟨8,87,none⟩),.pointer (some a),.int .u64 150])).run Tryz.prog w=.ok (some (87,a,150)) w:=by kernel_rfl
def UK(a p:Addr)(W:kV)(g:W.cell? a=some (.pointer (some p))) :
 (ReflectliteValue.method (ReflectliteValue.valueError "reflectlite.Value.IsNil" 0) ReflectliteValue.isNil #[.agg #[.pointer (some ⟨8,87,none⟩),.pointer (some a),.int .u64 150]]).run Tryz.prog W= .ok (.bool false) W:=by
 rw[Abd];simp only[Sem.run_bind,NJ,Result.andThen];simp[ReflectliteValue.isNil,loadVar,isAgg,underlying,underlying87,g,Result.andThen]
theorem Mm(h:Value)(w:kV):(Go.method 371 166 (.agg #[h]) "Elem").run Tryz.prog w= .ok (196,.agg #[h]) w:=by kernel_rfl
theorem uj(h:Value)(w:kV):(Go.method 371 166 (.agg #[h]) "Implements").run Tryz.prog w= .ok (197,.agg #[h]) w:=by kernel_rfl
theorem sj(h:Value)(w:kV):(Go.method 371 166 (.agg #[h]) "AssignableTo").run Tryz.prog w= .ok (194,.agg #[h]) w:=by kernel_rfl
theorem Wn(w:kV):(ReflectliteType.method ReflectliteType.elem #[.agg #[.pointer (some ⟨8,87,none⟩)]]).run Tryz.prog w=.ok (.iface 166 (.agg #[.pointer (some ⟨8,86,none⟩)])) w:=by kernel_rfl
theorem B6(w:kV):(ReflectliteType.relation "Implements" ReflectliteType.implements_ #[.agg #[.pointer (some ⟨8,86,none⟩)],.iface 166 (.agg #[.pointer (some ⟨8,32,none⟩)])]).run Tryz.prog w= .ok (.bool true) w:=by kernel_rfl
theorem TG(v:Value)(w:kV):(ReflectliteType.typeOf #[.iface 86 v]).run Tryz.prog w=.ok (.iface 166 (.agg #[.pointer (some ⟨8,86,none⟩)])) w:=by kernel_rfl
theorem Bt(w:kV):(ReflectliteType.relation "AssignableTo" ReflectliteType.assignableTo #[.agg #[.pointer (some ⟨8,86,none⟩)],.iface 166 (.agg #[.pointer (some ⟨8,86,none⟩)])]).run Tryz.prog w= .ok (.bool true) w:=by kernel_rfl
def SZ(e:Addr)(w:kV):(ReflectliteValue.unpack (.iface 86 (.pointer (some e)))).run Tryz.prog w
 = .ok (.agg #[.pointer (some ⟨8,86,none⟩),vP w.heap.size,.int .u64 150]) (w.alloc (.cells #[.pointer (some e)] 86)):=by kernel_rfl
theorem TI(w:kV):(Rtype.elem? 87).run Tryz.prog w=.ok (some 86) w:=by kernel_rfl
theorem Aav(p:Addr)(w:kV):(ReflectliteValue.mk 86 p ReflectliteValue.flagAddr).run Tryz.prog w=.ok (.agg #[.pointer (some ⟨8,86,none⟩),.pointer (some p),.int .u64 406]) w:=by kernel_rfl
def U0(a p:Addr)(W:kV)(g:W.cell? a=some (.pointer (some p))) :
 (ReflectliteValue.method (ReflectliteValue.valueError "reflectlite.Value.Elem" 0) ReflectliteValue.elem #[.agg #[.pointer (some ⟨8, 87, none⟩), .pointer (some a), .int .u64 150]]).run Tryz.prog W
  = .ok (.agg #[.pointer (some ⟨8,86,none⟩),.pointer (some p),.int .u64 406]) W:=by
 rw[Abd];simp only[Sem.run_bind,NJ,Result.andThen];simp[ReflectliteValue.elem,loadVar,isAgg,underlying,underlying87,g,Result.andThen,TI,Aav]
def AcC(v x:Value):ReflectliteValue.set #[v,x]=(do
 let(some (dst,a,fl),some (oD,b,_)):=(<-ReflectliteValue.parts v,<-ReflectliteValue.parts x)
  |unsupported (.noEntry "extern/(internal/reflectlite.Value).Set.zeroValue")
 if fl/ReflectliteValue.flagAddr %2==0 then unsupported (.noEntry "extern/(internal/reflectlite.Value).Set.unaddressable")
 let val <-loadVar oD b
 if<-Rtype.directlyAssignable dst oD then storeVar dst a val
 else if<-Rtype.implements dst oD then
  if(<-Rtype.kind oD)==20 then
   match val with
   | .nilIface=>unsupported (.noEntry "extern/reflectlite: a nil value of one interface type handed on as a value of another")
   |_=>storeVar dst a val
  else storeVar dst a (.iface oD val)
 else panicString ("reflectlite.Set: value of type " ++(<-Rtype.spelt oD)++ " is not assignable to type " ++(<-Rtype.spelt dst))
 pure (.tuple #[])):=rfl
theorem TF(a:Addr)(w:kV):(ReflectliteValue.parts (.agg #[.pointer (some ⟨8,86,none⟩),.pointer (some a),.int .u64 406])).run Tryz.prog w=.ok (some (86,a,406)) w:=by kernel_rfl
theorem UC(a:Addr)(w:kV):(ReflectliteValue.parts (.agg #[.pointer (some ⟨8,86,none⟩),.pointer (some a),.int .u64 150])).run Tryz.prog w=.ok (some (86,a,150)) w:=by kernel_rfl
theorem TD(w:kV):(Rtype.directlyAssignable 86 86).run Tryz.prog w=.ok true w:=by kernel_rfl
def ZO(g b e:Addr)(old:Value)(W:kV)(hb:W.cell? b=some (.pointer (some e)))(ht:W.cell? g=some old)(hf:W.frozen? g=false) :
 (ReflectliteValue.set #[.agg #[.pointer (some ⟨8, 86, none⟩), .pointer (some g), .int .u64 406], .agg #[.pointer (some ⟨8, 86, none⟩), .pointer (some b), .int .u64 150]]).run Tryz.prog W
  = .ok (.tuple #[]) (W.setCell g (.pointer (some e))):=by
 rw[AcC];simp only[Sem.run_bind,TF,UC,Result.andThen];simp[ReflectliteValue.flagAddr,loadVar,isAgg,underlying,underlying86,hb,Result.andThen,TD,storeVar,Value.cells,storeCells,Addr.add];rw[run_store Tryz.prog W g _ _ Qt];simp[ht,hf]
def Ze0(e t:Addr)(old:Value)(w:kV)(hg:w.cell? ⟨1,0,none⟩=some (.iface 166 (.agg #[.pointer (some ⟨8,32,none⟩)])))(Co:w.cell? t=some old)(m:w.frozen? t=false) :
 kC 16 #[.iface 86 (.pointer (some e)),.iface 87 (.pointer (some t))] w λev w'=>ev=.returned (.bool true)/\w'=((((w.alloc (.cells #[.pointer (some t)] 87)).alloc (.cells #[.pointer (some ⟨8,87,none⟩),vP w.heap.size,.int .u64 150] 112)).alloc (.cells #[.pointer (some ⟨8,87,none⟩),vP w.heap.size,.int .u64 150] 112)).alloc (.cells #[.pointer (some e)] 86)).setCell t (.pointer (some e)):=by
 refine AaD ?_;intro h6 h7 h8 qU lU xA lj DE DG xB;have o:=TG;have p:=sj;have u:=Bt;have y:=SZ;have F:=S5;have I:=V1;have J:=NI;have O:=Mm;have U:=uj;have X:=V2;have Y:=WB;have Z:=Wn;have MR:=B6
 have n8:=UK ⟨w.heap.size,0,none⟩ t ((w.alloc (.cells #[.pointer (some t)] 87)).alloc (.cells #[.pointer (some ⟨8,87,none⟩),vP w.heap.size,.int .u64 150] 112)) QI;have aA:1<w.heap.size:=by
  exact Zyv
 have je:((w.alloc (.cells #[.pointer (some t)] 87)).alloc (.cells #[.pointer (some ⟨8,87,none⟩),vP w.heap.size,.int .u64 150] 112)).cell? ⟨1,0,none⟩=some (.iface 166 (.agg #[.pointer (some ⟨8,32,none⟩)])):=by
  exact Zvl
 have g:t.block<w.heap.size:=by
  exact Zvr
 have el:=U0 ⟨w.heap.size,0,none⟩ t (((w.alloc (.cells #[.pointer (some t)] 87)).alloc (.cells #[.pointer (some ⟨8,87,none⟩),vP w.heap.size,.int .u64 150] 112)).alloc (.cells #[.pointer (some ⟨8,87,none⟩),vP w.heap.size,.int .u64 150] 112)) (by rw[World.cell?_alloc_lt _ _ ⟨w.heap.size,0,none⟩ Qi];simp)
 have st:=ZO t ⟨w.heap.size+1+1+1,0,none⟩ e old ((((w.alloc (.cells #[.pointer (some t)] 87)).alloc (.cells #[.pointer (some ⟨8,87,none⟩),vP w.heap.size,.int .u64 150] 112)).alloc (.cells #[.pointer (some ⟨8,87,none⟩),vP w.heap.size,.int .u64 150] 112)).alloc (.cells #[.pointer (some e)] 86))
  (by rw[World.cell?_alloc_at _ _ _ _ QI];rfl)
  (by rw[World.cell?_alloc_lt _ _ t Qi,World.cell?_alloc_lt _ _ t Qi,World.cell?_alloc_lt _ _ t Qi,World.cell?_alloc_lt _ _ t g];exact Co)
  (by rw[World.frozen?_alloc_old _ _ t Qi,World.frozen?_alloc_old _ _ t Qi,World.frozen?_alloc_old _ _ t Qi,World.frozen?_alloc_old _ _ t (Nat.ne_of_lt g)];exact m)
 exact Zwd
theorem ZA:(Tryz.prog.info? 260).isSome=true:=by kernel_rfl
def Zm8(b:Addr)(w:kV):(binOp .eql 32 (ql b) (ql b)).run Tryz.prog w=.ok (.bool true) w:=by
 obtain⟨j,g⟩:=Option.isSome_iff_exists.1 ZA;have h:∀d:Nat,(Op.equalIn (d+1) 241 (.pointer (some b)) (.pointer (some b))).run Tryz.prog w=.ok true w:=λd=>by
  simp[Op.equalIn,run_underlying underlying241,sizeOf,typeInfo,g,run_sameAddr_same]
 have h0:∀d:Nat,(Op.equalIn (d+1+1) 32 (ql b) (ql b)).run Tryz.prog w=.ok true w:=λd=>by
  unfold ql;rw[Op.equalIn.eq_def];have hc:(t241).comparable=true:=Qh
  simp[run_underlying underlying32,h d,hc]
 exact WS
def Zr1(b:Addr)(g:Nat)(w:kV):(binOp .eql 32 (sN g) (ql b)).run Tryz.prog w=.ok (.bool false) w:=by
 have m:∀d:Nat,(Op.equalIn (d+1+1) 32 (sN g) (ql b)).run Tryz.prog w=.ok false w:=λd=>by
  unfold ql sN;rw[Op.equalIn.eq_def];simp[run_underlying underlying32]
 simp only[binOp];unfold ql sN at m ⊢;simp[Op.equal,Op.maxDepth,m 9998]
def Zr4(b:Addr)(w:kV):(binOp .eql 32 .nilIface (ql b)).run Tryz.prog w=.ok (.bool false) w:=by
 have h0:∀d:Nat,(Op.equalIn (d+1+1) 32 .nilIface (ql b)).run Tryz.prog w=.ok false w:=λd=>by
  unfold ql;rw[Op.equalIn.eq_def];simp[run_underlying underlying32]
 exact WS
