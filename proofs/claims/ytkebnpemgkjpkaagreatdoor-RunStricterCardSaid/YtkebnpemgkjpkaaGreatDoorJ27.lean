import Derived.Test.YtkebnpemgkjpkaaGreatDoorJ23
set_option maxRecDepth 100000
set_option maxHeartbeats 20000000
set_option linter.all false
namespace Go.Proofs.YtkebnpemgkjpkaaGreatDoor
open Go Go.RowKit Go.Proofs.Tryz Tryz
section
variable {C:RCtx}{M M':MRep}{w w':kV}{s s':MSt}{B:Nat}{a:ATree}{V:VF}{D:DF}{b:Int}{sc:Int}{fr:Frm}{d:Nat}
def Zzd(gj:K8 C.w0)(cj:zm C V b)(hV:VH V b)(h:MAt C M w s)(hI:Inv s 0)(tZ:d+1<=20000)(hA:FAt s sc fr)(hb:b<=s.steps+1)(hs:s.steps<20000)(ha:TreeAt w B a)(hf:a.free M){x y:ATree}(co:a.kids=[x,y])(wx:(x.nt C.N).wf .v)(wy:(y.nt C.N).wf .v)(mx:(x.nt C.N).tree.many<=1500)(my:(y.nt C.N).tree.many<=1500)(hk:27<=a.kind/\a.kind<=31) :
 kC 78 #[vP C.mb,a.ptr,vI sc,.agg #[.bool fr.strict,vI fr.vars]] w λe w'=>cK C M w (tm (v7 V D (a.nt C.N) sc fr) s) e w':=by
 refine LX ?_;intro s1 aF bN hst jx aY dh di dj z0 aC;rw[<-aC]at aY dh di dj;refine qF ?_;intro cw f5 y5 aD aW;rw[<-aF]at aD;refine qI ?_;intro z hz;rw[<-hz]at aD aW;refine Of ?_;intro eG aI bu lf lr ln g5 c0;rw[aC]at f5 y5;rw[hz,aC]at g5 c0;refine Su ?_;intro hR R aQ;rw[<-aQ];rw[<-aQ]at hR;clear aQ;refine SA ?_;intro dv HZ HLR bM dB HFz HM ft dW HO HE;refine U2 ?_;intro fK dI eu;have ah:b<=s1.steps:=Px
 have iW:s1.steps<=20000:=Px
 unfold v7 at hR;have u:¬a.kind=17/\¬a.kind=18/\¬(a.kind=19\/a.kind=20)/\¬a.kind=21/\¬a.kind=22/\¬a.kind=23/\¬a.kind=24/\¬(a.kind=25\/a.kind=26):=Px
 rw[Zb,Y3 u.1,Y3 u.2.1,Y3 u.2.2.1,Y3 u.2.2.2.1,Y3 u.2.2.2.2.1,Y3 u.2.2.2.2.2.1,Y3 u.2.2.2.2.2.2.1,Y3 u.2.2.2.2.2.2.2,Y5 hk]at hR;obtain⟨kg,kc,c3,cC,u,bO,aX,eZ⟩:=aI.row bu Qe;rw[co]at c3 cC bO;refine Zw7 ?_;intro dX ex k0 k1;simp only[List.length_cons,List.length_nil]at c3 cC;have e0:(a.nt C.N).kid 0=x.nt C.N:=wX QE;have e1:(a.nt C.N).kid 1=y.nt C.N:=wX QE;rw[e0,e1]at hR;refine AaF ?_;intro aq r1 bz bE an;unfold Zx at hR
 rw[<-bz]at bE an hR;refine Xv ?_;intro bI HR HS;obtain⟨gZ,HB,pF,oU,oV,HV,wh⟩:=gw (hA.ext dI) ah (aI.kid ex) (bu.kid ex) cj hV gj;clear hz aC aY cw aD aW eG aI bu dh di dj lf lr ln ha hf h hI aF fK dI eu ah iW aq c3 k0 k1 bO co e0 e1 bz an hR hA cj hV dX ex u gj;unfold ATree.ptr;have sr:a.kind=27\/a.kind=28\/a.kind=29\/a.kind=30\/a.kind=31:=Px
 clear hk;obtain⟨F,bD⟩:=zX a.kind
 rw[<-bD]at c0 HS HR sr;clear bD;rcases sr with I|I|I|I|I
 all_goals
  rw[I]at c0;clear I;go_enter func78,ntmps78
  go_wp2_with fail
  rw[<-HZ.o];clear f5 y5 g5 c0
  refine vy (.take 0 (.take 1 (.take 2 (.take 3 (.take 4 (.take 5 (.take 6 (.take 7 (.take 8 (.two 9 (.take 10 (.take 11 (.take 12 (.go 13 (.go 14 (.go 15 (.nil))))))) 13 (.go 9 (.take 10 (.take 11 (.take 12 (.go 14 (.go 15 (.nil))))))))))))))))) 14 (λW=>vC W w.heap.size 0 (.bool fr.strict)/\vC W w.heap.size 1 (vI fr.vars)/\vC W a.b 0 (vI F)/\vC W a.b 3 (.slice (some ⟨kg,0,none⟩) 2 kc)/\vC W kg 0 (vP x.b)/\vC W kg 1 (vP y.b)) (HS.o _ _ (MFr.drew (.refl _ _))) ?_
  refine qa ?_;refine Zr ?_;apply Sx (H:=ru C w M z r1);·exact SU HS bE HE.o HO.o
  .exact Oz HS bE HM HE.o HO.o
  intro W1 J M1 k1 Y Z bL ah;obtain⟨s2,q1⟩:=r1;cases q1 with
  |error x1=>
    refine Xb ?_;intro he av hR;simp only at hR;subst hR;obtain⟨T1,P1,rfl,hP⟩:=he.ne;have ed:=lh he;have O:=lh av.o.1.2.1;obtain⟨m0,m1,m2,-,-,-⟩:=(bM.o.fr O.o).six;obtain⟨q0,q1,q2,z0,z1,z2⟩:=(HLR.o.fr O.o).six;clear ah he HR;exact tu5 av O ed
  |ok v1=>
    obtain⟨rfl,rfl⟩:v1=⟨k1,Y,Z⟩/\bL=.nilIface:=ah.1.2.2;refine YB ?_;intro i1 x1 em i2 F1 dY ty hst r2 hr2 bP bC;rw[<-hr2]at bP bC;have hR:=HR.o;simp only at hR;rw[<-hr2]at hR;obtain⟨O,bT,jS,GP⟩:=en F1 dY ah.2 em;obtain⟨bW,nL,bA⟩:=ds (λW M' (f:MFr M1 M' W1 W)=>HS.o W M' (O.o.trans f)) (Y4 HE.o F1.size) hR;clear ah i1 x1 em i2 F1 dY ty hst hr2 hR HR;go_wp2_with fail
    refine vy (.take 0 (.take 1 (.take 2 (.take 3 (.take 4 (.take 5 (.take 6 (.take 7 (.take 8 (.two 9 (.take 10 (.take 11 (.take 12 (.go 13 (.go 14 (.go 15 (.nil))))))) 13 (.go 9 (.take 10 (.take 11 (.take 12 (.go 14 (.go 15 (.nil))))))))))))))))) 14 (λW=>vC W w.heap.size 0 (.bool fr.strict)/\vC W w.heap.size 1 (vI fr.vars)/\vC W a.b 0 (vI F)/\vC W a.b 3 (.slice (some ⟨kg,0,none⟩) 2 kc)/\vC W kg 0 (vP x.b)/\vC W kg 1 (vP y.b)) (bW.o _ _ (MFr.drew (.refl _ _))) ?_
    refine qa ?_;refine Zr ?_;apply Sx (H:=ru C w M1 W1 r2);·exact SU bW bP nL.o HO.o
    .exact Zxs bW bP bT nL.o HO.o
    intro W2 p2 M2 k2 n2 t2 nK p;have U:=O.o.trans p.1.2.1;have ba:=lh U;obtain⟨s3,q2⟩:=r2;cases q2 with
    |error x2=>
      have he:ax C M2 W2 x2 nK:=p.1.2.2;have aN:=lh p;have am:R=(s3,.error x2):=bA.o;subst am;obtain⟨T1,P1,rfl,hP⟩:=he.ne;have iN:=lh he;obtain⟨m0,m1,m2,-,-,-⟩:=(bM.o.fr U).six;obtain⟨q0,q1,q2,z0,z1,z2⟩:=(HLR.o.fr U).six;clear p he bA U;exact tu5 aN ba iN
    |ok v2=>
      obtain⟨rfl,rfl⟩:v2=⟨k2,n2,t2⟩/\nK=.nilIface:=p.1.2.2;obtain⟨i1,x1,-,CF,i2⟩:=bC.o;have am:R=Ue F ⟨k1,Y,Z⟩ ⟨k2,n2,t2⟩ s3:=bA.o;have aM:=p.1.1;have HRk:=lh (Calls.vres (Zg7 wh.o aM.drew i1 F ⟨k1,Y,Z⟩ ⟨k2,n2,t2⟩ (GP.o.mono x1.lo) CF));rw[<-am]at HRk
      have iB:=lh (show∀W M',MFr M2 M' W2 W->vC W J 0 (vI k1)/\vC W J 1 (vI Y)/\vC W J 2 (.string Z)/\vC W p2 0 (vI k2)/\vC W p2 1 (vI n2)/\vC W p2 2 (.string t2)/\vC W a.b 0 (vI F)from
       λW M' f=>have g:=(jS.o.fr p.1.2.1).fr f;⟨g.cell rfl,g.cell rfl,g.cell rfl,(p.2.fr f).cell rfl,(p.2.fr f).cell rfl,(p.2.fr f).cell rfl,(HS.o W M' (U.trans f)).2.2.1⟩)
      clear p i1 x1 CF i2 am aM bA U;go_wp2_with fail
      refine ow [(true,0),(true,1),(true,2),(true,3),(true,4),(true,5),(true,6),(false,7),(true,8),(true,9)] [10,11] (λW=>vC W J 0 (vI k1)/\vC W J 1 (vI Y)/\vC W J 2 (.string Z)/\vC W p2 0 (vI k2)/\vC W p2 1 (vI n2)/\vC W p2 2 (.string t2)/\vC W a.b 0 (vI F)) (iB.o _ _ (.drew (.refl _ _))) (λbq=>?_);refine f8 ?_;intro K hK;refine HRk.o.mono ?_
      rintro e W3⟨M3,k3,n3,t3,fg,rfl,bj⟩;have F3:=(MFr.drew (.refl M2 W2)).trans bj.2.1;refine hK _ _ (iB.o _ _ F3) ?_;clear hK K;have HB3:=lh bj;have bK:=lh (ba.o.trans F3);clear bj F3;refine B' ?_;refine Xw ?_;intro q0 q1 q2 z0 z1 z2;obtain⟨s4,q3⟩:=R;exact tr1
def Zmb{V:VF}{D:DF}{f:Nat}{n:NT}(hs:s.steps<20000)(h1:n.kids.isEmpty=true\/n.kind=5\/n.kind=6\/n.kind=12\/n.kind=8)(g:n.kind=2->n.kids.isEmpty=true):yk V D f n sc fr s =
 BF V D f n sc fr (-1) LVal.zero {s with steps:=s.steps+1}:=by
 unfold yk tm;rw[Y3 Px,Y5 h1];show BF V D f n sc fr (if n.kind=2/\n.kids.isEmpty=false then s.H.find sc n.text else -1) LVal.zero _=_;rw[Y3 (λe=>by rw[g e.1]at e;exact absurd e.2 Py)]
def Zga(h:MAt C M w s)(hI:Inv s 0)(hs:s.steps<20000)(ha:TreeAt w B a)(hf:a.free M){fu:Nat}(hk:a.kids=[]/\(a.kind=2\/a.kind=16)\/a.kind=5) :
 kC 46 #[vP C.mb,a.ptr,vI sc,.agg #[.bool fr.strict,vI fr.vars]] w λe w'=>je C M w (yk V D fu (a.nt C.N) sc fr s) e w':=by
 refine LX ?_;intro s1 aF bN hst jx aY dh di dj z0 aC;rw[<-aC]at aY dh di dj;refine qF ?_;intro cw f5 y5 aD aW;rw[<-aF]at aD;refine qI ?_;intro z hz;rw[<-hz]at aD aW;refine Of ?_;intro eG aI bu lf lr ln g5 c0;rw[aC]at f5 y5;rw[hz,aC]at g5 c0;refine Yw ?_;intro R aQ;rw[<-aQ];have m:=aQ.trans (Zmb (fr:=fr) (sc:=sc) (V:=V) (D:=D) (f:=fu) (n:=a.nt C.N) hs QU QU);rw[<-aF]at m;clear aQ;refine SA ?_
 intro dv HZ HLR bM dB HFz HM ft dW HO HE;refine SK ?_;intro q hq pp cp cg bU ej cU;rw[<-hq]at cg bU;refine Oi ?_;intro jO dM eA;rw[jO]at dM;refine Q' ?_;intro zv eQ;rw[<-eQ]at dM eA;have c3:=aI.c3;rw[cg]at c3;refine Tj ?_;intro d3 d0 d1 f0 f1;rw[eQ,hz,aC]at d3 d0 d1 f0 f1;refine TB ?_;intro lS oT nR oL lT;have y:R=(s1,.ok (false,⟨0,0,⟨#[]⟩⟩)):=by
  rw[m];unfold BF;rw[Zb,Zu];rcases hk with⟨h1,g|g⟩|g<;>rw[g]<;>simp <;>first|(rw[h1];rfl)|rfl
 have u:a.kids=[]->q=0:=λe=>by rw[hq,e];rfl
 have F:a.kind=2/\q=0\/a.kind=16/\q=0\/a.kind=5:=by
  rcases hk with⟨h1,g|g⟩|g;·exact .inl ⟨g,u h1⟩
  .exact .inr (.inl ⟨g,u h1⟩)
  .exact .inr (.inr g)
 clear hz aC aY cw aD aW eG aI bu dh di dj lf lr ln ha hf h hI aF eA eQ dM cg bU ej cU c3 c0 hq m hk u;subst y;unfold ATree.ptr;rcases F with⟨hk,hq⟩|⟨hk,hq⟩|hk
 .rw[hk]at d0;rw[hq]at d3;clear hk hq;exact Vz
 .rw[hk]at d0;rw[hq]at d3;clear hk hq;exact Vz
 .rw[hk]at d0;clear hk;have I:decide (0<q)=true\/decide (0<q)=false:=by cases decide (0<q)<;>simp
  rcases I with J|J
  .skip
   exact Vz
  .skip
   exact Vz
def Zyy(h:MAt C M w s)(hI:Inv s 0)(hs:s.steps<20000)(ha:TreeAt w B a)(hf:a.free M){fu:Nat}(oY:a.kids=[])(hk:a.kind=3\/a.kind=4) :
 kC 46 #[vP C.mb,a.ptr,vI sc,.agg #[.bool fr.strict,vI fr.vars]] w λe w'=>je C M w (yk V D fu (a.nt C.N) sc fr s) e w':=by
 refine LX ?_;intro s1 aF bN hst jx aY dh di dj z0 aC;rw[<-aC]at aY dh di dj;refine qF ?_;intro cw f5 y5 aD aW;rw[<-aF]at aD;refine qI ?_;intro z hz;rw[<-hz]at aD aW;refine Of ?_;intro eG aI bu lf lr ln g5 c0;rw[aC]at f5 y5;rw[hz,aC]at g5 c0;refine Yw ?_;intro R aQ;rw[<-aQ];refine Zyt ?_;intro hR;rw[<-aF]at hR;clear aQ;refine SA ?_;intro dv HZ HLR bM dB HFz HM ft dW HO HE;refine SK ?_;intro q hq pp cp cg bU ej cU;rw[<-hq]at cg bU;refine Oi ?_;intro jO dM eA;rw[jO]at dM;refine Q' ?_;intro zv eQ
 rw[<-eQ]at dM eA;have c3:=aI.c3;rw[cg]at c3;refine Tj ?_;intro d3 d0 d1 f0 f1;rw[eQ,hz,aC]at d3 d0 d1 f0 f1;refine TB ?_;intro lS oT nR oL lT;have g:R=(s1.setH (s1.H.start sc a.text LVal.zero).1,.ok (false,⟨0,0,⟨#[]⟩⟩)):=by
  rw[hR];unfold BF;rw[Zb,rH];rcases hk with m|m<;>rw[m]<;>simp <;>rfl
 have u:q=0:=by rw[hq,oY];rfl
 have hst:=Zsh oL.o.drew sc a.text LVal.zero;simp only[LVal.agg,LVal.zero]at hst;have I:=lh hst
 have J:=lh (show∀W M',MFr M M' zv W->vC W (w.heap.size+1+1+1) 0 (vI 0)/\vC W (w.heap.size+1+1+1) 1 (vI 0)/\vC W (w.heap.size+1+1+1) 2 (.string ⟨#[]⟩)/\vC W a.b 1 (.string a.text)from
  λW M' f=>⟨(dM.fr f).cell rfl,(dM.fr f).cell rfl,(dM.fr f).cell rfl,((lT.o.trans f).tree aI bu).1.c1⟩)
 clear hz aC aY cw aD aW eG aI bu dh di dj lf lr ln ha hf h hI aF eA eQ dM cg bU ej cU c3 c0 hq hR oY hst;simp only[LVal.zero]at g;subst g;rw[u]at d3;clear u;unfold ATree.ptr;rcases hk with hk|hk
 all_goals
  rw[hk]at d0;clear hk;go_enter func46,ntmps46
  go_wp2_with fail
  rw[<-lS.o];clear f5 y5 g5 d3 d0 d1 f0 f1;refine ow [(true,0),(true,1),(true,2),(true,3),(true,4),(true,5),(true,6),(true,7),(true,8)] [9] (λW=>vC W (w.heap.size+1+1+1) 0 (vI 0)/\vC W (w.heap.size+1+1+1) 1 (vI 0)/\vC W (w.heap.size+1+1+1) 2 (.string ⟨#[]⟩)/\vC W a.b 1 (.string a.text)) (J.o _ _ (.drew (.refl _ _))) (λU=>?_);refine oK ?_;refine Z0 ?_;go_wp2_with fail
  refine I.o.mono ?_;rintro e W2⟨rfl,M2,y,F⟩;have O:=lh y;have ba:=lh (lT.o.trans ((MFr.drew (.refl M zv)).trans F));clear y F;refine UK ?_;intro m0 m1 m2 q0 q1 q2 z0 z1 z2;go_wp2_with fail
  refine tm8 ?_;go_wp2;refine Yp (v:=.tuple #[.bool false,.agg #[vI 0,vI 0,.string ⟨#[]⟩],.nilIface]) ?_ rfl ?_;·simp[results,results46,go_sem,q0,q1,q2]
  .exact .fine' HLR.o HFz.o O.o.drew (ba.o.trans (.drew (.refl _ _)))
def Zvv(h:MAt C M w s)(hI:Inv s 0)(hs:s.steps<20000)(ha:TreeAt w B a)(hf:a.free M){fu:Nat}(oY:a.kids=[])(hk:a.kind=10) :
 kC 46 #[vP C.mb,a.ptr,vI sc,.agg #[.bool fr.strict,vI fr.vars]] w λe w'=>je C M w (yk V D fu (a.nt C.N) sc fr s) e w':=by
 refine LX ?_;intro s1 aF bN hst jx aY dh di dj z0 aC;rw[<-aC]at aY dh di dj;refine qF ?_;intro cw f5 y5 aD aW;rw[<-aF]at aD;refine qI ?_;intro z hz;rw[<-hz]at aD aW;refine Of ?_;intro eG aI bu lf lr ln g5 c0;rw[aC]at f5 y5;rw[hz,aC]at g5 c0;refine Yw ?_;intro R aQ;rw[<-aQ];refine Zyt ?_;intro hR;rw[<-aF]at hR;clear aQ;refine SA ?_;intro dv HZ HLR bM dB HFz HM ft dW HO HE;refine SK ?_;intro q hq pp cp cg bU ej cU;rw[<-hq]at cg bU;refine Oi ?_;intro jO dM eA;rw[jO]at dM;refine Q' ?_;intro zv eQ
 rw[<-eQ]at dM eA;have c3:=aI.c3;rw[cg]at c3;refine Tj ?_;intro d3 d0 d1 f0 f1;rw[eQ,hz,aC]at d3 d0 d1 f0 f1;refine TB ?_;intro lS oT nR oL lT;have m:R=(s1,.ok (true,⟨0,0,⟨#[]⟩⟩)):=by
  rw[hR];unfold BF;rw[Zb,hk];rfl
 have g:q=0:=by rw[hq,oY];rfl
 have u:=lh (show∀W M',MFr M M' zv W->vC W (w.heap.size+1+1+1) 0 (vI 0)/\vC W (w.heap.size+1+1+1) 1 (vI 0)/\vC W (w.heap.size+1+1+1) 2 (.string ⟨#[]⟩)from
  λW M' f=>⟨(dM.fr f).cell rfl,(dM.fr f).cell rfl,(dM.fr f).cell rfl⟩)
 clear hz aC aY cw aD aW eG aI bu dh di dj lf lr ln ha hf h hI aF eA eQ dM cg bU ej cU c3 c0 hq hR oY;subst m;rw[g]at d3;rw[hk]at d0;clear g hk;unfold ATree.ptr;go_enter func46,ntmps46
 go_wp2_with fail
 rw[<-lS.o];clear f5 y5 g5 d3 d0 d1 f0 f1;obtain⟨q0,q1,q2,z0,y,z2⟩:=(HLR.o.fr lT.o).six;refine ow [(true,0),(true,1)] [2,3] (λW=>vC W (w.heap.size+1+1+1) 0 (vI 0)/\vC W (w.heap.size+1+1+1) 1 (vI 0)/\vC W (w.heap.size+1+1+1) 2 (.string ⟨#[]⟩)) (u.o _ _ (.drew (.refl _ _))) (λF=>?_);refine oK ?_;refine Z0 ?_;go_wp2;refine Yp (v:=.tuple #[.bool true,.agg #[vI 0,vI 0,.string ⟨#[]⟩],.nilIface]) ?_ rfl ?_;·exact yC
 .exact .fine' HLR.o HFz.o oL.o.drew (lT.o.trans (.drew (.refl _ _)))
def Zp9(h:MAt C M w s)(hI:Inv s 0)(hs:s.steps<20000)(ha:TreeAt w B a)(hf:a.free M){fu:Nat}(hk:a.kind=6)
 (gX:∀W M',MAt C M' W {s with steps:=s.steps+1}->TreeAt W B a->a.free M'->kC 81 #[vP C.mb,vP a.b,vI sc,.agg #[.bool fr.strict,vI fr.vars]] W λe w'=>je C M' W (UG D (a.nt C.N) sc fr {s with steps:=s.steps+1}) e w') :
 kC 46 #[vP C.mb,a.ptr,vI sc,.agg #[.bool fr.strict,vI fr.vars]] w λe w'=>je C M w (yk V D fu (a.nt C.N) sc fr s) e w':=by
 refine LX ?_;intro s1 aF bN hst jx aY dh di dj z0 aC;rw[<-aC]at aY dh di dj;refine qF ?_;intro cw f5 y5 aD aW;rw[<-aF]at aD;refine qI ?_;intro z hz;rw[<-hz]at aD aW;refine Of ?_;intro eG aI bu lf lr ln g5 c0;rw[aC]at f5 y5;rw[hz,aC]at g5 c0;refine Yw ?_;intro R aQ;rw[<-aQ];refine Zul ?_;intro hR;rw[<-aF]at hR;clear aQ;refine SA ?_;intro dv HZ HLR bM dB HFz HM ft dW HO HE;refine SK ?_;intro q hq pp cp cg bU ej cU;rw[<-hq]at cg bU;refine Oi ?_;intro jO dM eA;rw[jO]at dM;refine Q' ?_;intro zv eQ
 rw[<-eQ]at dM eA;have c3:=aI.c3;rw[cg]at c3;refine Tj ?_;intro d3 d0 d1 f0 f1;rw[eQ,hz,aC]at d3 d0 d1 f0 f1;refine TB ?_;intro lS oT nR oL lT;obtain⟨r1,bz⟩:=zX (UG D (a.nt C.N) sc fr s1)
 exact tr0
def Zwt(h:MAt C M w s)(hI:Inv s 0)(hs:s.steps<20000)(ha:TreeAt w B a)(hf:a.free M){fu:Nat}(hk:a.kind=12)
 (gX:∀W M',MAt C M' W {s with steps:=s.steps+1}->TreeAt W B a->a.free M'->kC 84 #[vP C.mb,vP a.b,vI sc,.agg #[.bool fr.strict,vI fr.vars]] W λe w'=>je C M' W (Ni D (a.nt C.N) sc fr {s with steps:=s.steps+1}) e w') :
 kC 46 #[vP C.mb,a.ptr,vI sc,.agg #[.bool fr.strict,vI fr.vars]] w λe w'=>je C M w (yk V D fu (a.nt C.N) sc fr s) e w':=by
 refine LX ?_;intro s1 aF bN hst jx aY dh di dj z0 aC;rw[<-aC]at aY dh di dj;refine qF ?_;intro cw f5 y5 aD aW;rw[<-aF]at aD;refine qI ?_;intro z hz;rw[<-hz]at aD aW;refine Of ?_;intro eG aI bu lf lr ln g5 c0;rw[aC]at f5 y5;rw[hz,aC]at g5 c0;refine Yw ?_;intro R aQ;rw[<-aQ];refine Zul ?_;intro hR;rw[<-aF]at hR;clear aQ;refine SA ?_;intro dv HZ HLR bM dB HFz HM ft dW HO HE;refine SK ?_;intro q hq pp cp cg bU ej cU;rw[<-hq]at cg bU;refine Oi ?_;intro jO dM eA;rw[jO]at dM;refine Q' ?_;intro zv eQ
 rw[<-eQ]at dM eA;have c3:=aI.c3;rw[cg]at c3;refine Tj ?_;intro d3 d0 d1 f0 f1;rw[eQ,hz,aC]at d3 d0 d1 f0 f1;refine TB ?_;intro lS oT nR oL lT;obtain⟨r1,bz⟩:=zX (Ni D (a.nt C.N) sc fr s1)
 exact tr0
def Zt7{V:VF}{D:DF}{f:Nat}{n:NT}(hs:s.steps<20000)(h1:n.kids.isEmpty=false)(g:n.kind=2):yk V D f n sc fr s =
 Zx (V (n.kid 0) sc fr) (BF V D f n sc fr (s.H.find sc n.text)) {s with steps:=s.steps+1}:=by
 unfold yk tm;rw[Y3 Px,Y3 (by rw[h1,g];decide)];show Zx (V (n.kid 0) sc fr) (BF V D f n sc fr (if n.kind=2/\n.kids.isEmpty=false then s.H.find sc n.text else -1)) _=_;rw[Y5 ⟨g,h1⟩]
def Zxp(oE:Tb C.w0)(cj:zm C V b)(hV:VH V b)(h:MAt C M w s)(hI:Inv s 0)(tZ:d+1<=20000)(hA:FAt s sc fr)(hb:b<=s.steps+1)(hs:s.steps<20000)(ha:TreeAt w B a)(hf:a.free M){x:ATree}(co:a.kids=[x])(wx:(x.nt C.N).wf .v)(mx:(x.nt C.N).tree.many<=1500){fu:Nat}(hk:a.kind=2) :
 kC 46 #[vP C.mb,a.ptr,vI sc,.agg #[.bool fr.strict,vI fr.vars]] w λe w'=>je C M w (yk V D fu (a.nt C.N) sc fr s) e w':=by
 refine LX ?_;intro s1 aF bN hst jx aY dh di dj z0 aC;rw[<-aC]at aY dh di dj;refine qF ?_;intro cw f5 y5 aD aW;rw[<-aF]at aD;refine qI ?_;intro z hz;rw[<-hz]at aD aW;refine Of ?_;intro eG aI bu lf lr ln g5 c0;rw[aC]at f5 y5;rw[hz,aC]at g5 c0;have e0:(a.nt C.N).kid 0=x.nt C.N:=wX QE;refine Yw ?_;intro R aQ;rw[<-aQ];have hR:=aQ.trans (Zt7 (fr:=fr) (sc:=sc) (V:=V) (D:=D) (f:=fu) (n:=a.nt C.N) hs (by rw[Zu,co];rfl) (by rw[Zb,hk]));rw[<-aF,e0,rH]at hR;clear aQ e0;refine SA ?_
 intro dv HZ HLR bM dB HFz HM ft dW HO HE;refine U2 ?_;intro fK dI eu;have ah:b<=s1.steps:=Px
 have iW:s1.steps<=20000:=Px
 obtain⟨m,O,c3,cC,aR,bO,aX,eZ⟩:=aI.row bu Qe;rw[co]at c3 cC bO;have dX:x∈a.kids:=Qe
 have k0:=bO 0 x rfl;simp only[List.length_cons,List.length_nil]at c3 cC;have c3:vC z a.b 3 (.slice (some ⟨m,0,none⟩) 1 O):=c3
 have aq:∀W M',MFr M M' z W->vC W w.heap.size 0 (.bool fr.strict)/\vC W w.heap.size 1 (vI fr.vars)/\vC W a.b 0 (vI 2)/\vC W a.b 1 (.string a.text)/\vC W a.b 3 (.slice (some ⟨m,0,none⟩) 1 O)/\vC W m 0 (vP x.b):=λW M' f=>⟨(lf.fr f).cell rfl,(lf.fr f).cell rfl,by have:=(f.tree aI bu).1.c0;rwa[hk]at this,(f.tree aI bu).1.c1,(f.cell aI.lt bu.blk).trans c3,(f.cell aX eZ).trans k0⟩;refine Oi ?_
 intro jO dM eA;rw[jO]at dM;refine Q' ?_;intro zv eQ;rw[<-eQ]at dM eA;have I:=(eA.cell (p:=⟨a.b,3,none⟩) aI.lt).trans c3;have y:=(eA.cell (p:=⟨a.b,0,none⟩) aI.lt).trans aI.c0;rw[hk]at y;rw[eQ,hz,aC]at I y;obtain⟨lS,oT,nR⟩:=ds (show zv=_ from eQ.trans (by rw[hz,aC])) dM eA;obtain⟨J,iL⟩:=zX (s.H.find sc a.text)
 have vS:=Zds (aD.below eA).drew.heap fK.wf sc a.text;have yf:s1.H.find sc a.text=J:=by rw[aF,iL]
 rw[yf]at vS;rw[<-iL]at hR;have oF:=lh vS;refine Xt ?_;intro r1 bz bE an;unfold Zx at hR;rw[<-bz]at bE an hR;refine Xv ?_;intro bI HR HS;have gZ:=lh (hA.ext dI);have vM:=lh oE;have KI:=lh (show(a.nt C.N).kind=2/\(a.nt C.N).kids.isEmpty=false by rw[Zb,Zu,co];exact⟨hk,rfl⟩);clear hz aC aY cw aD aW eG aI bu dh di dj lf lr ln ha hf h hI aF fK dI eu ah iW aq c3 k0 bO co bz an hR hA cj hV dX dM eA eQ aX eZ hb c0 iL vS yf oE hk;unfold ATree.ptr;go_enter func46,ntmps46
 go_wp2_with fail
 rw[<-lS.o];clear f5 y5 g5 I y;have U:=lh (λW M' (f:MFr M M' zv W)=>HS.o W M' ((MFr.of_below nR.o).trans f))
 refine ow [(true,0),(true,1),(true,2),(true,3),(true,4),(true,5),(true,6),(true,7)] [8,9] (λW=>vC W w.heap.size 0 (.bool fr.strict)/\vC W w.heap.size 1 (vI fr.vars)/\vC W a.b 0 (vI 2)/\vC W a.b 1 (.string a.text)/\vC W a.b 3 (.slice (some ⟨m,0,none⟩) 1 O)/\vC W m 0 (vP x.b)) (U.o _ _ (.drew (.refl _ _))) (λbq=>?_);refine oK ?_;refine Z0 ?_;go_wp2_with fail
 refine oF.o.mono ?_;rintro e Wf⟨rfl,kM⟩;have Y:=lh ((Zd zv).trans (kM.mono (Y0 _)));obtain⟨f0,f1,y,d1,I,nS⟩:=U.o Wf M (.of_below Y.o);clear kM;go_wp2_with fail
 refine vy (.take 0 (.take 1 (.take 2 (.take 3 (.take 4 (.take 5 (.take 6 (.take 7 (.take 8 (.go 9 (.take 10 (.take 11 (.take 12 (.go 13 (.go 14 .nil))))))))))))))) 13 (λW=>vC W w.heap.size 0 (.bool fr.strict)/\vC W w.heap.size 1 (vI fr.vars)/\vC W a.b 0 (vI 2)/\vC W a.b 1 (.string a.text)/\vC W a.b 3 (.slice (some ⟨m,0,none⟩) 1 O)/\vC W m 0 (vP x.b)) (U.o _ _ (.drew (.of_below Y.o))) ?_;refine qa ?_
 refine o4 (λK hK=>?_);refine(bE.o _ Y.o.drew).mono ?_;rintro e W0⟨M1,k1,n1,t1,bL,rfl,ah⟩;have F0:=(MFr.of_below (M:=M) Y.o.drew).trans ah.2.1;refine hK _ _ (U.o _ _ F0) ?_;clear hK K f0 f1 y d1 I nS;refine AcR ?_;clear ah F0;intro jv dZ pC qO;generalize((W0.setCell ⟨w.heap.size+1+1+1,0,none⟩ (vI k1)).setCell ⟨w.heap.size+1+1+1,1,none⟩ (vI n1)).setCell ⟨w.heap.size+1+1+1,2,none⟩ (.string t1)=W1 at *;obtain⟨s2,q1⟩:=r1;cases q1 with
 |error x1=>
   exact tr4
 |ok v1=>
   obtain⟨rfl,rfl⟩:v1=⟨k1,n1,t1⟩/\bL=.nilIface:=qO.o;obtain⟨i1,x1,-,em,i2⟩:=bI.o;have am:R=BF V D fu (a.nt C.N) sc fr J ⟨k1,n1,t1⟩ s2:=HR.o;have bG:R=match Sr J a.text ⟨k1,n1,t1⟩ fr s2 with
    |(F,.ok _)=>(F,.ok (false,⟨0,0,⟨#[]⟩⟩))
    |(F,.error e)=>(F,.error e):=by
    rw[am];unfold BF;rw[Y5 KI.o.1,KI.o.2,rH];simp only[Bool.false_eq_true,if_false,Zx];rcases Sr J a.text ⟨k1,n1,t1⟩ fr s2 with⟨F,e|u⟩<;>rfl
   have has:=Z9v vM.o jv.o.drew i1 (gZ.o.root.ext x1) J a.text ⟨k1,n1,t1⟩ fr;obtain⟨r3,de⟩:=zX (Sr J a.text ⟨k1,n1,t1⟩ fr s2)
   rw[<-de]at has bG;simp only[LVal.agg]at has;have sH:=lh has;have Z:=lh bG
   have BP:=lh (show∀W M',MFr M1 M' W1 W->vC W a.b 1 (.string a.text)/\vC W (w.heap.size+1+1+1) 0 (vI k1)/\vC W (w.heap.size+1+1+1) 1 (vI n1)/\vC W (w.heap.size+1+1+1) 2 (.string t1)/\vC W w.heap.size 0 (.bool fr.strict)/\vC W w.heap.size 1 (vI fr.vars)from
    λW M' f=>have g:=HS.o W M' (dZ.o.trans f);⟨g.2.2.2.1,(pC.o.fr f).cell rfl,(pC.o.fr f).cell rfl,(pC.o.fr f).cell rfl,g.1,g.2.1⟩)
   clear HR am bG i1 x1 em i2 qO bE has de;obtain⟨f0,f1,y,d1,I,nS⟩:=HS.o W1 M1 dZ.o;go_wp2_with fail
   refine ow [(true,0),(true,1),(true,2),(true,3),(true,4),(true,5),(true,6),(true,7)] [8,9] (λW=>vC W a.b 1 (.string a.text)/\vC W (w.heap.size+1+1+1) 0 (vI k1)/\vC W (w.heap.size+1+1+1) 1 (vI n1)/\vC W (w.heap.size+1+1+1) 2 (.string t1)/\vC W w.heap.size 0 (.bool fr.strict)/\vC W w.heap.size 1 (vI fr.vars)) (BP.o _ _ (.drew (.refl _ _))) (λbq=>?_);refine oK ?_;refine Z0 ?_;clear f0 f1 y d1 I nS
   go_wp2_with fail
   refine sH.o.mono ?_;rintro e W2⟨M2,aM,ap,cr⟩;have bR:=lh aM;have ba:=lh (dZ.o.trans ((MFr.drew (.refl M1 W1)).trans ap));clear aM ap;refine UK ?_;intro m0 m1 m2 q0 q1 q2 z0 z1 z2;obtain⟨F,q3⟩:=r3;cases q3 with
   |error x3=>
     obtain⟨ev,rfl,he⟩:=cr;have am:R=(F,.error x3):=Z.o;clear Z;subst am;have iN:=lh he;clear he;go_wp2_with fail
     refine tm8 ?_;go_wp2;refine Yp (v:=.tuple #[.bool false,.agg #[vI 0,vI 0,.string ⟨#[]⟩],ev]) ?_ rfl ?_;·exact yC
     .exact .err' HLR.o HFz.o bR.o.drew (ba.o.trans (.drew (.refl _ _))) iN.o
   |ok u3=>
     have he:e=.returned .nilIface:=cr;subst he;have am:R=(F,.ok (false,⟨0,0,⟨#[]⟩⟩)):=Z.o;clear Z;subst am;go_wp2_with fail
     exact tq8
def Zl4{V:VF}{D:DF}{n:NT}{g:Nat}:S6 V D n sc fr (g+1) s=match V (n.kid 0) sc fr s with
 |(s1,.error e)=>(s1,.error e)
 |(s1,.ok v)=>if v.true then(match D (n.kid 1) sc fr s1 with
  |(m,.ok (true,u))=>(m,.ok (true,u))
  |(m,.ok (false,_))=>S6 V D n sc fr g m
  |(m,.error e)=>(m,.error e))else(s1,.ok (false,LVal.zero)):=by
 have e:S6 V D n sc fr (g+1) s=Zx (V (n.kid 0) sc fr) (λv=>if v.true then Zx (D (n.kid 1) sc fr) λr=>if r.1 then d9 r else S6 V D n sc fr g else d9 (false,LVal.zero)) s:=rfl;rw[e];unfold Zx;rcases V (n.kid 0) sc fr s with⟨s1,e|v⟩;·rfl
 .simp only;by_cases p:v.true=true
  .simp only[p,if_true];rcases D (n.kid 1) sc fr s1 with⟨m,e|⟨_|_,u⟩⟩<;>rfl
  .simp only[p,if_false];rfl
def stepsAt(mb:Nat)(w:kV):Int:=match w.cell? ⟨mb,5,none⟩with|some (.int _ n)=>n|_=>0
theorem MAt.stepsAt(h:MAt C M w s):stepsAt C.mb w=s.steps:=by
 have:=h.cell 5 (vI s.steps) PI;unfold Go.Proofs.YtkebnpemgkjpkaaGreatDoor.stepsAt;rw[this]
def Zpb (cj:zm C V b) (cT:G8 C D b) (hV:VH V b) (hD:DH D b) (h:MAt C M w s) (hI:Inv s 0) (tZ:d + 1≤20000) (hA:FAt s sc fr) (hb:b≤s.steps + 1) (hs:s.steps < 20000) (ha:TreeAt w B a) (hf:a.free M) {x y:ATree} (co:a.kids=[x,y]) (wx:(x.nt C.N).wf .v) (mx:(x.nt C.N).tree.many≤1500) (wy:(y.nt C.N).wf .s) (my:(y.nt C.N).tree.many≤1500) {fu:Nat} (nh:20000≤s.steps + fu) (hk:a.kind=8) :
 kC 46 #[vP C.mb,a.ptr,vI sc,.agg #[.bool fr.strict,vI fr.vars]] w λe w'=>je C M w (yk V D fu (a.nt C.N) sc fr s) e w':=by
 refine LX ?_;intro s1 aF bN hst jx aY dh di dj z0 aC;rw[<-aC]at aY dh di dj;refine qF ?_;intro cw f5 y5 aD aW;rw[<-aF]at aD;refine qI ?_;intro z hz;rw[<-hz]at aD aW;refine Of ?_;intro eG aI bu lf lr ln g5 c0;rw[aC]at f5 y5;rw[hz,aC]at g5 c0;refine Yw ?_;intro R aQ;rw[<-aQ];refine Zul ?_;intro hR;rw[<-aF]at hR;clear aQ;refine SA ?_;intro dv HZ HLR bM dB HFz HM ft dW HO HE;refine SK ?_;intro q hq pp cp cg bU ej cU;rw[<-hq]at cg bU;refine Oi ?_;intro jO dM eA;rw[jO]at dM;refine Q' ?_;intro zv eQ
 rw[<-eQ]at dM eA;have c3:=aI.c3;rw[cg]at c3;refine Tj ?_;intro d3 d0 d1 f0 f1;rw[eQ,hz,aC]at d3 d0 d1 f0 f1;refine TB ?_;intro lS oT nR oL lT;have J:R=S6 V D (a.nt C.N) sc fr fu s1:=by
  rw[hR];unfold BF;rw[Zb,hk];rfl
 refine U2 ?_;intro fK dI eu;obtain⟨O,kc,rs,cC,aR,bO,aX,eZ⟩:=aI.row bu Qe;rw[co]at rs cC bO;refine Zw7 ?_;intro dX ex k0 k1;simp only[List.length_cons,List.length_nil]at rs cC;have rs:vC z a.b 3 (.slice (some ⟨O,0,none⟩) 2 kc):=rs
 have aq:∀W M',MFr M M' z W->vC W w.heap.size 0 (.bool fr.strict)/\vC W w.heap.size 1 (vI fr.vars)/\vC W a.b 3 (.slice (some ⟨O,0,none⟩) 2 kc)/\vC W O 0 (vP x.b)/\vC W O 1 (vP y.b):=λW M' f=>⟨(lf.fr f).cell rfl,(lf.fr f).cell rfl,(f.cell aI.lt bu.blk).trans rs,(f.cell aX eZ).trans k0,(f.cell aX eZ).trans k1⟩;obtain⟨HS,bA,eC,lg,il⟩:=gp aq J fK dI eu
 obtain⟨CZ,gZ,HB,eJ,oM,pF,oU,oV,iP,HV,HD,KJ⟩:=oh nh hA hb (aI.kid dX) (bu.kid dX) (aI.kid ex) (bu.kid ex) cj cT hV hD (show(a.nt C.N).kid 0=x.nt C.N/\(a.nt C.N).kid 1=y.nt C.N from⟨wX QE,wX QE⟩);have df:decide (0<q)=true:=by rw[hq,co];rfl
 clear hz aC aY cw aD aW eG aI bu dh di dj lf lr ln ha hf h hI aF eA eQ dM cg bU ej cU c3 c0 hq hR J fK dI eu nh hA hb cj cT hV hD co rs cC bO aX eZ k0 k1 dX ex aq;rw[hk]at d0;clear hk;unfold ATree.ptr;go_enter func46,ntmps46
 go_wp2_with fail
 rw[<-lS.o];clear f5 y5 g5 d3 d0 d1 f0 f1;go_loopw [16] (λ_ wr=>∃(Mk:MRep) (U:MSt) (g:Nat),Hid (MAt C Mk wr U)/\Hid (MFr M Mk z wr)/\Hid (Inv U (d+1))/\Hid (Ext s U/\U.steps<=20000/\b<=U.steps/\20001<=U.steps+g)/\Hid (R=S6 V D (a.nt C.N) sc fr g U)) (λ_ wr=>(20001-stepsAt C.mb wr).toNat)
 case atStart=>exact⟨M,s1,fu,oL,lT,eC,lh ⟨lg.o,by have:=il.o;omega,by have:=il.o;have:=HB.o;omega,by have:=il.o;have:=CZ.o;omega⟩,bA⟩
 case round=>
  obtain⟨Mk,U,g,HMk,Y,ep,Z,HRk⟩:=hrel;have fU:=Z.o;obtain⟨g,rfl⟩:∃g',g=g'+1:=⟨g-1,by omega⟩
  have hR:=HRk.o;rw[Zl4,KJ.o.1,KJ.o.2]at hR;have xK:=HMk.o.stepsAt;have bc:=Y.o.tree eJ.o oM.o;obtain⟨r1,bz⟩:=zX (V (x.nt C.N) sc fr U)
  have bE:=lh (oV.o.from HMk.o ep.o (gZ.o.ext fU.1) fU.2.2.1 fU.2.1 wx mx bc.1 bc.2);have an:=HV.o (x.nt C.N) sc fr U _ wx mx ep.o (gZ.o.ext fU.1) fU.2.2.1 fU.2.1;rw[<-bz]at bE an hR;obtain⟨dp,HR,bI,Ew,qw⟩:=gp (λW M' (f:MFr Mk M' wr W)=>HS.o W M' (Y.o.trans f)) hR an xK (Y4 HE.o Y.o.size);clear fU hR xK bc bz an;go_wp2_with fail
  refine vy (.take 0 (.take 1 (.take 2 (.take 3 (.take 4 (.take 5 (.take 6 (.take 7 (.take 8 (.two 9 (.take 10 (.take 11 (.take 12 (.go 13 (.go 14 (.go 15 (.nil))))))) 13 (.go 9 (.take 10 (.take 11 (.take 12 (.go 14 (.go 15 (.nil))))))))))))))))) 14 (λW=>vC W w.heap.size 0 (.bool fr.strict)/\vC W w.heap.size 1 (vI fr.vars)/\vC W a.b 3 (.slice (some ⟨O,0,none⟩) 2 kc)/\vC W O 0 (vP x.b)/\vC W O 1 (vP y.b)) (dp.o _ _ (MFr.drew (.refl _ _))) ?_
  refine qa ?_;refine Zr ?_;apply Sx (H:=ru C w Mk wr r1);·exact SU dp bE qw.o HO.o
  .exact Zys dp bE HMk qw.o HO.o
  intro W1 p1 M1 k1 n1 t1 bL ah;have F1:=Y.o.trans ah.1.2.1;have bw:=lh F1;have bT:=lh ah.1.1;obtain⟨b0,b1,b2,-,-,-⟩:=ah.2.six;obtain⟨m0,m1,m2,-,-,-⟩:=(bM.o.fr F1).six;obtain⟨q0,q1,q2,z0,z1,z2⟩:=(HLR.o.fr F1).six;obtain⟨I,q1⟩:=r1;cases q1 with
  |error F=>
    have he:ax C M1 W1 F bL:=ah.1.2.2;have J:R=(I,.error F):=HR.o;clear HR;subst J;obtain⟨T1,P1,rfl,hP⟩:=he.ne;have ed:=lh he;clear ah F1 he;go_wp2_with fail
    refine tm8 ?_;go_wp2;refine Yp (v:=.tuple #[.bool false,.agg #[vI 0,vI 0,.string ⟨#[]⟩],.iface T1 (.pointer P1)]) ?_ rfl ?_;·exact yC
    .exact .err' HLR.o HFz.o bT.o.drew (bw.o.trans (.drew (.refl _ _))) ed.o
  |ok v1=>
    obtain⟨rfl,rfl⟩:v1=⟨k1,n1,t1⟩/\bL=.nilIface:=ah.1.2.2;refine Zt8 ?_;intro ht bt cO;rw[<-cO]at ht;have hR:=HR.o;simp only at hR;rw[<-cO]at hR;have HT:=lh ht;have bA:=lh hR;clear ah F1 ht cO hR HR;cases bt
    .have J:R=(I,.ok (false,⟨0,0,⟨#[]⟩⟩)):=by have :=bA.o;simpa[LVal.zero]using this
     clear bA;subst J;go_wp2_with fail
     refine HT.o.mono ?_;rintro e W2⟨rfl,ar⟩;have bR:=lh (bT.o.below ar);have ba:=lh (bw.o.trans (.of_below ar));clear ar q0 q1 q2 z0 z1 z2 m0 m1 m2 b0 b1 b2;exact Abw
    .have bG:=bA.o;simp only[if_true]at bG;go_wp2_with fail
     refine HT.o.mono ?_;rintro e W2⟨rfl,ar⟩;have bR:=lh (bT.o.below ar);have ba:=lh (bw.o.trans (.of_below ar));have nL:=lh (Y4 HE.o ba.o.size);clear ar q0 q1 q2 z0 z1 z2 m0 m1 m2 b0 b1 b2;obtain⟨⟨i1,F,-,em,i2⟩,ay⟩:=bI.o;have ie:=ba.o.tree pF.o oU.o;have gz:b<=I.steps:=Int.le_trans Z.o.2.2.1 F.steps;obtain⟨r2,hr2⟩:=zX (D (y.nt C.N) sc fr I)
     have bP:=lh (iP.o.from bR.o i1 ((gZ.o.ext Z.o.1).ext F) gz i2 wy my ie.1 ie.2);have an:=(HD.o (y.nt C.N) sc fr I _ wy my i1 ((gZ.o.ext Z.o.1).ext F) gz i2).1;rw[<-hr2]at bP an bG;obtain⟨bC,dQ,si,xQ,bW⟩:=gp an bG ay F (λW M' (f:MFr M1 M' W2 W)=>HS.o W M' (ba.o.trans f));clear i1 F em i2 ay ie gz hr2 an bG bA;go_wp2_with fail
     refine vy (.take 0 (.take 1 (.take 2 (.take 3 (.take 4 (.take 5 (.take 6 (.take 7 (.take 8 (.two 9 (.take 10 (.take 11 (.take 12 (.take 13 (.go 14 (.go 15 (.go 16 (.go 17 (.nil))))))))) 14 (.go 9 (.take 10 (.take 11 (.take 12 (.take 13 (.go 15 (.go 16 (.go 17 (.nil))))))))))))))))))) 16 (λW=>vC W w.heap.size 0 (.bool fr.strict)/\vC W w.heap.size 1 (vI fr.vars)/\vC W a.b 3 (.slice (some ⟨O,0,none⟩) 2 kc)/\vC W O 0 (vP x.b)/\vC W O 1 (vP y.b)) (bW.o _ _ (MFr.drew (.refl _ _))) ?_
     refine qa ?_;refine Zr ?_;apply Zjy (H:=Ld C w M1 W2 r2);·exact kDA bW bP nL.o HO.o
     .exact Acs bW bP bR nL.o HO.o
     intro W3 p2 M3 bk k2 n2 t2 nK bj;have F3:=ba.o.trans bj.1.2.1;have bK:=lh F3;have dE:=lh bj.1.1;obtain⟨b0,b1,b2,-,-,-⟩:=bj.2.six;obtain⟨q0,q1,q2,z0,z1,z2⟩:=(HLR.o.fr F3).six;have li:p2≠w.heap.size+1:=by have h1:=bj.2.late;have h2:=HLR.o.lt;have h3:=ba.o.size;omega
     obtain⟨u,nW⟩:=r2;cases nW with
     |error x2=>
       have he:ax C M3 W3 x2 nK:=bj.1.2.2;have J:R=(u,.error x2):=dQ.o;clear dQ;subst J;obtain⟨T1,P1,rfl,hP⟩:=he.ne;have ed:=lh he;clear bj F3 he;cases bk
       .go_wp2_with fail
        refine Aap ?_;refine sU ?_;go_wp2;refine Yp (v:=.tuple #[.bool false,.agg #[vI k2,vI n2,.string t2],.iface T1 (.pointer P1)]) ?_ rfl ?_;·exact yC
        .exact Zzc
       .go_wp2_with fail
        refine Aap ?_;refine sU ?_;go_wp2;refine Yp (v:=.tuple #[.bool true,.agg #[vI k2,vI n2,.string t2],.iface T1 (.pointer P1)]) ?_ rfl ?_;·exact yC
        .exact Zzc
     |ok v2=>
       obtain⟨rfl,rfl⟩:v2=(bk,⟨k2,n2,t2⟩)/\nK=.nilIface:=bj.1.2.2;clear bj F3;cases bk
       .have N8:=lh (show R=S6 V D (a.nt C.N) sc fr g u from dQ.o);clear dQ;obtain⟨i1,F,-,em,i2⟩:=bC.o;have nT:=lh i1;have hl:=si.o;have cD:=F.steps;have DT:=dE.o.stepsAt
        have FJ:=lh (show Ext s u/\u.steps<=20000/\b<=u.steps/\20001<=u.steps+g from⟨(Z.o.1.trans xQ.o).trans F,i2,by have:=Z.o.2.2.1;have h2:=xQ.o.steps;have h3:(I,Except.ok (ε:=Er) (⟨k1,n1,t1⟩:LVal)).1.steps=I.steps:=rfl;have h4:((u,Except.ok (ε:=Er) (false,(⟨k2,n2,t2⟩:LVal))):MSt×Except Er (Bool×LVal)).1.steps=u.steps:=rfl;omega,by have:=Z.o.2.2.2;have h3:(I,Except.ok (ε:=Er) (⟨k1,n1,t1⟩:LVal)).1.steps=I.steps:=rfl;have h4:((u,Except.ok (ε:=Er) (false,(⟨k2,n2,t2⟩:LVal))):MSt×Except Er (Bool×LVal)).1.steps=u.steps:=rfl;omega⟩)
        have uz:(20001-stepsAt C.mb W3).toNat<(20001-stepsAt C.mb wr).toNat:=by
         rw[Ew.o,DT];have h2:=Z.o.2.1;have h3:(I,Except.ok (ε:=Er) (⟨k1,n1,t1⟩:LVal)).1.steps=I.steps:=rfl;have h4:((u,Except.ok (ε:=Er) (false,(⟨k2,n2,t2⟩:LVal))):MSt×Except Er (Bool×LVal)).1.steps=u.steps:=rfl;omega
        have N9:=lh uz;clear i1 F em i2 hl cD DT uz;go_wp2_with fail
        go_roundw
        case rel=>exact⟨M3,u,g,dE,bK,nT,FJ,N8⟩
        case measure=>exact N9.o
       .have J:R=(u,.ok (true,⟨k2,n2,t2⟩)):=dQ.o;clear dQ;subst J;go_wp2_with fail
        refine Aap ?_;refine sU ?_;go_wp2;refine Yp (v:=.tuple #[.bool true,.agg #[vI k2,vI n2,.string t2],.nilIface]) ?_ rfl ?_;·exact yC
        .exact .fine' HLR.o HFz.o dE.o.drew (bK.o.trans (.drew (.refl _ _)))
end
