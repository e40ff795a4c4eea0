import Derived.Test.YtkjdnecemhilpaaGreatDoorJ24
set_option maxRecDepth 100000
set_option maxHeartbeats 20000000
set_option linter.all false
namespace Go.Proofs.YtkjdnecemhilpaaGreatDoor
open Go Go.RowKit Go.Proofs.Tryz Tryz
section
variable {C:RCtx}{M M':MRep}{w w':kV}{s s':MSt}{B:Nat}{a:ATree}{V:VF}{D:DF}{b:Int}{sc:Int}{fr:Frm}{d:Nat}
def Zxl(gm:K' C.w0)(co:zd C V b)(hV:VH V b)(h:MAt C M w s)(hI:Inv s 0)(rE:d+1<=20000)(hA:FAt s sc fr)(hb:b<=s.steps+1)(hs:s.steps<20000)(ha:TreeAt w B a)(hf:a.free M){x y:ATree}(cr:a.kids=[x,y])(wx:(x.nt C.N).wf .v)(wy:(y.nt C.N).wf .v)(mx:(x.nt C.N).tree.many<=1500)(my:(y.nt C.N).tree.many<=1500)(hk:27<=a.kind/\a.kind<=31) :
 kC 95 #[vP C.mb,a.ptr,vI sc,.agg #[.bool fr.strict,vI fr.vars]] w λe w'=>bK C M w (zJ (zz V D (a.nt C.N) sc fr) s) e w':=by
 refine OW ?_;intro s1 aL bT hst jB aZ dh di dj z0 aC;rw[<-aC]at aZ dh di dj;refine rs ?_;intro cw f5 y5 aE aX;rw[<-aL]at aE;refine rH ?_;intro z hz;rw[<-hz]at aE aX;refine MJ ?_;intro eJ aJ bz lf lr ln g5 c0;rw[aC]at f5 y5;rw[hz,aC]at g5 c0;refine SU ?_;intro hR R aS;rw[<-aS];rw[<-aS]at hR;clear aS;refine S7 ?_;intro dv HZ HLR bR dC HFz HM fB dW HO HE;refine Ux ?_;intro fM dL ex;have ai:b<=s1.steps:=Qe
 have ja:s1.steps<=20000:=Qe
 unfold zz at hR;have p:¬a.kind=17/\¬a.kind=18/\¬(a.kind=19\/a.kind=20)/\¬a.kind=21/\¬a.kind=22/\¬a.kind=23/\¬a.kind=24/\¬(a.kind=25\/a.kind=26):=Qe
 rw[Za,Y3 p.1,Y3 p.2.1,Y3 p.2.2.1,Y3 p.2.2.2.1,Y3 p.2.2.2.2.1,Y3 p.2.2.2.2.2.1,Y3 p.2.2.2.2.2.2.1,Y3 p.2.2.2.2.2.2.2,Y5 hk]at hR;obtain⟨kg,kc,c3,cB,p,bN,aY,eZ⟩:=aJ.row bz QL;rw[cr]at c3 cB bN;refine Zuy ?_;intro dY ez k0 k1;simp only[List.length_cons,List.length_nil]at c3 cB;have e0:(a.nt C.N).kid 0=x.nt C.N:=xX Q8;have e1:(a.nt C.N).kid 1=y.nt C.N:=xX Q8;rw[e0,e1]at hR;refine Aak ?_;intro aq r1 bB bG am;unfold iC at hR
 rw[<-bB]at bG am hR;refine Xk ?_;intro bL HR HS;obtain⟨gY,HB,pC,oU,oV,HV,wH⟩:=kF (hA.ext dL) ai (aJ.kid ez) (bz.kid ez) co hV gm;clear hz aC aZ cw aE aX eJ aJ bz dh di dj lf lr ln ha hf h hI aL fM dL ex ai ja aq c3 k0 k1 bN cr e0 e1 bB am hR hA co hV dY ez p gm;unfold ATree.ptr;have sn:a.kind=27\/a.kind=28\/a.kind=29\/a.kind=30\/a.kind=31:=Qe
 clear hk;obtain⟨u,bC⟩:=zX a.kind
 rw[<-bC]at c0 HS HR sn;clear bC;rcases sn with F|F|F|F|F
 all_goals
  rw[F]at c0;clear F;go_enter func95,ntmps95
  go_wp2_with fail
  rw[<-HZ.o];clear f5 y5 g5 c0
  refine v7 (.take 0 (.take 1 (.take 2 (.take 3 (.take 4 (.take 5 (.take 6 (.take 7 (.take 8 (.two 9 (.take 10 (.take 11 (.take 12 (.go 13 (.go 14 (.go 15 (.nil))))))) 13 (.go 9 (.take 10 (.take 11 (.take 12 (.go 14 (.go 15 (.nil))))))))))))))))) 14 (λW=>vC W w.heap.size 0 (.bool fr.strict)/\vC W w.heap.size 1 (vI fr.vars)/\vC W a.b 0 (vI u)/\vC W a.b 3 (.slice (some ⟨kg,0,none⟩) 2 kc)/\vC W kg 0 (vP x.b)/\vC W kg 1 (vP y.b)) (HS.o _ _ (MFr.drew (.refl _ _))) ?_
  refine ra ?_;refine Zu ?_;apply Te (H:=sp C w M z r1);·exact Tm HS bG HE.o HO.o
  .exact OS HS bG HM HE.o HO.o
  intro W1 I M1 k1 U t1 bQ ai;obtain⟨s2,q1⟩:=r1;cases q1 with
  |error x1=>
    refine Xp ?_;intro he au hR;simp only at hR;subst hR;obtain⟨T1,P1,rfl,hP⟩:=he.ne;have eg:=lh he;have J:=lh au.o.1.2.1;obtain⟨m0,m1,m2,-,-,-⟩:=(bR.o.fr J.o).six;obtain⟨q0,q1,q2,z0,z1,z2⟩:=(HLR.o.fr J.o).six;clear ai he HR;exact tu5 au J eg
  |ok v1=>
    obtain⟨rfl,rfl⟩:v1=⟨k1,U,t1⟩/\bQ=.nilIface:=ai.1.2.2;refine X7 ?_;intro i1 x1 eo i2 F1 dZ ty hst r2 hr2 bS bF;rw[<-hr2]at bS bF;have hR:=HR.o;simp only at hR;rw[<-hr2]at hR;obtain⟨J,bX,jY,Hk⟩:=gp F1 dZ ai.2 eo;obtain⟨cH,nP,bD⟩:=ds (λW M' (f:MFr M1 M' W1 W)=>HS.o W M' (J.o.trans f)) (Y4 HE.o F1.size) hR;clear ai i1 x1 eo i2 F1 dZ ty hst hr2 hR HR;go_wp2_with fail
    refine v7 (.take 0 (.take 1 (.take 2 (.take 3 (.take 4 (.take 5 (.take 6 (.take 7 (.take 8 (.two 9 (.take 10 (.take 11 (.take 12 (.go 13 (.go 14 (.go 15 (.nil))))))) 13 (.go 9 (.take 10 (.take 11 (.take 12 (.go 14 (.go 15 (.nil))))))))))))))))) 14 (λW=>vC W w.heap.size 0 (.bool fr.strict)/\vC W w.heap.size 1 (vI fr.vars)/\vC W a.b 0 (vI u)/\vC W a.b 3 (.slice (some ⟨kg,0,none⟩) 2 kc)/\vC W kg 0 (vP x.b)/\vC W kg 1 (vP y.b)) (cH.o _ _ (MFr.drew (.refl _ _))) ?_
    refine ra ?_;refine Zu ?_;apply Te (H:=sp C w M1 W1 r2);·exact Tm cH bS nP.o HO.o
    .exact Zzv cH bS bX nP.o HO.o
    intro W2 p2 M2 Y Z t2 nN o;have O:=J.o.trans o.1.2.1;have bc:=lh O;obtain⟨s3,q2⟩:=r2;cases q2 with
    |error x2=>
      have he:ax C M2 W2 x2 nN:=o.1.2.2;have aP:=lh o;have an:R=(s3,.error x2):=bD.o;subst an;obtain⟨T1,P1,rfl,hP⟩:=he.ne;have iS:=lh he;obtain⟨m0,m1,m2,-,-,-⟩:=(bR.o.fr O).six;obtain⟨q0,q1,q2,z0,z1,z2⟩:=(HLR.o.fr O).six;clear o he bD O;exact tu5 aP bc iS
    |ok v2=>
      obtain⟨rfl,rfl⟩:v2=⟨Y,Z,t2⟩/\nN=.nilIface:=o.1.2.2;obtain⟨i1,x1,-,CY,i2⟩:=bF.o;have an:R=Wc u ⟨k1,U,t1⟩ ⟨Y,Z,t2⟩ s3:=bD.o;have aO:=o.1.1;have HRk:=lh (Calls.vres (Zft wH.o aO.drew i1 u ⟨k1,U,t1⟩ ⟨Y,Z,t2⟩ (Hk.o.mono x1.lo) CY));rw[<-an]at HRk
      have iF:=lh (show∀W M',MFr M2 M' W2 W->vC W I 0 (vI k1)/\vC W I 1 (vI U)/\vC W I 2 (.string t1)/\vC W p2 0 (vI Y)/\vC W p2 1 (vI Z)/\vC W p2 2 (.string t2)/\vC W a.b 0 (vI u)from
       λW M' f=>have g:=(jY.o.fr o.1.2.1).fr f;⟨g.cell rfl,g.cell rfl,g.cell rfl,(o.2.fr f).cell rfl,(o.2.fr f).cell rfl,(o.2.fr f).cell rfl,(HS.o W M' (O.trans f)).2.2.1⟩)
      clear o i1 x1 CY i2 an aO bD O;go_wp2_with fail
      refine o4 [(true,0),(true,1),(true,2),(true,3),(true,4),(true,5),(true,6),(false,7),(true,8),(true,9)] [10,11] (λW=>vC W I 0 (vI k1)/\vC W I 1 (vI U)/\vC W I 2 (.string t1)/\vC W p2 0 (vI Y)/\vC W p2 1 (vI Z)/\vC W p2 2 (.string t2)/\vC W a.b 0 (vI u)) (iF.o _ _ (.drew (.refl _ _))) (λbw=>?_);refine iB ?_;intro K hK;refine HRk.o.mono ?_
      rintro e W3⟨M3,k3,n3,t3,fj,rfl,bo⟩;have F3:=(MFr.drew (.refl M2 W2)).trans bo.2.1;refine hK _ _ (iF.o _ _ F3) ?_;clear hK K;have HB3:=lh bo;have bP:=lh (bc.o.trans F3);clear bo F3;refine zD ?_;refine Xi ?_;intro q0 q1 q2 z0 z1 z2;obtain⟨s4,q3⟩:=R;exact tr1
def Zn3{V:VF}{D:DF}{f:Nat}{n:NT}(hs:s.steps<20000)(g:n.kids.isEmpty=true\/n.kind=5\/n.kind=6\/n.kind=12\/n.kind=8)(m:n.kind=2->n.kids.isEmpty=true):D7 V D f n sc fr s =
 KR V D f n sc fr (-1) LVal.zero {s with steps:=s.steps+1}:=by
 unfold D7 zJ;rw[Y3 Qe,Y5 g];show KR V D f n sc fr (if n.kind=2/\n.kids.isEmpty=false then s.H.find sc n.text else -1) LVal.zero _=_;rw[Y3 (λe=>by rw[m e.1]at e;exact absurd e.2 Qg)]
def Zg7(h:MAt C M w s)(hI:Inv s 0)(hs:s.steps<20000)(ha:TreeAt w B a)(hf:a.free M){fu:Nat}(hk:a.kids=[]/\(a.kind=2\/a.kind=16)\/a.kind=5) :
 kC 62 #[vP C.mb,a.ptr,vI sc,.agg #[.bool fr.strict,vI fr.vars]] w λe w'=>jm C M w (D7 V D fu (a.nt C.N) sc fr s) e w':=by
 refine OW ?_;intro s1 aL bT hst jB aZ dh di dj z0 aC;rw[<-aC]at aZ dh di dj;refine rs ?_;intro cw f5 y5 aE aX;rw[<-aL]at aE;refine rH ?_;intro z hz;rw[<-hz]at aE aX;refine MJ ?_;intro eJ aJ bz lf lr ln g5 c0;rw[aC]at f5 y5;rw[hz,aC]at g5 c0;refine XF ?_;intro R aS;rw[<-aS];have m:=aS.trans (Zn3 (fr:=fr) (sc:=sc) (V:=V) (D:=D) (f:=fu) (n:=a.nt C.N) hs Rq Rq);rw[<-aL]at m;clear aS;refine S7 ?_
 intro dv HZ HLR bR dC HFz HM fB dW HO HE;refine SR ?_;intro q hq pp cp ch bq d7 cW;rw[<-hq]at ch bq;refine MQ ?_;intro jS dF eD;rw[jS]at dF;refine Lt ?_;intro zv eS;rw[<-eS]at dF eD;have c3:=aJ.c3;rw[ch]at c3;refine TL ?_;intro d3 d0 d1 f0 f1;rw[eS,hz,aC]at d3 d0 d1 f0 f1;refine TS ?_;intro lR oT nU oL lS;have u:R=(s1,.ok (false,⟨0,0,⟨#[]⟩⟩)):=by
  rw[m];unfold KR;rw[Za,Zw];rcases hk with⟨h1,g|g⟩|g<;>rw[g]<;>simp <;>first|(rw[h1];rfl)|rfl
 have o:a.kids=[]->q=0:=λe=>by rw[hq,e];rfl
 have y:a.kind=2/\q=0\/a.kind=16/\q=0\/a.kind=5:=by
  rcases hk with⟨h1,g|g⟩|g;·exact .inl ⟨g,o h1⟩
  .exact .inr (.inl ⟨g,o h1⟩)
  .exact .inr (.inr g)
 clear hz aC aZ cw aE aX eJ aJ bz dh di dj lf lr ln ha hf h hI aL eD eS dF ch bq d7 cW c3 c0 hq m hk o;subst u;unfold ATree.ptr;rcases y with⟨hk,hq⟩|⟨hk,hq⟩|hk
 .rw[hk]at d0;rw[hq]at d3;clear hk hq;exact VZ
 .rw[hk]at d0;rw[hq]at d3;clear hk hq;exact VZ
 .rw[hk]at d0;clear hk;have F:decide (0<q)=true\/decide (0<q)=false:=by cases decide (0<q)<;>simp
  rcases F with I|I
  .skip
   exact VZ
  .skip
   exact VZ
def Zx6(h:MAt C M w s)(hI:Inv s 0)(hs:s.steps<20000)(ha:TreeAt w B a)(hf:a.free M){fu:Nat}(oZ:a.kids=[])(hk:a.kind=3\/a.kind=4) :
 kC 62 #[vP C.mb,a.ptr,vI sc,.agg #[.bool fr.strict,vI fr.vars]] w λe w'=>jm C M w (D7 V D fu (a.nt C.N) sc fr s) e w':=by
 refine OW ?_;intro s1 aL bT hst jB aZ dh di dj z0 aC;rw[<-aC]at aZ dh di dj;refine rs ?_;intro cw f5 y5 aE aX;rw[<-aL]at aE;refine rH ?_;intro z hz;rw[<-hz]at aE aX;refine MJ ?_;intro eJ aJ bz lf lr ln g5 c0;rw[aC]at f5 y5;rw[hz,aC]at g5 c0;refine XF ?_;intro R aS;rw[<-aS];refine Zvz ?_;intro hR;rw[<-aL]at hR;clear aS;refine S7 ?_;intro dv HZ HLR bR dC HFz HM fB dW HO HE;refine SR ?_;intro q hq pp cp ch bq d7 cW;rw[<-hq]at ch bq;refine MQ ?_;intro jS dF eD;rw[jS]at dF;refine Lt ?_;intro zv eS
 rw[<-eS]at dF eD;have c3:=aJ.c3;rw[ch]at c3;refine TL ?_;intro d3 d0 d1 f0 f1;rw[eS,hz,aC]at d3 d0 d1 f0 f1;refine TS ?_;intro lR oT nU oL lS;have g:R=(s1.setH (s1.H.start sc a.text LVal.zero).1,.ok (false,⟨0,0,⟨#[]⟩⟩)):=by
  rw[hR];unfold KR;rw[Za,sw];rcases hk with m|m<;>rw[m]<;>simp <;>rfl
 have o:q=0:=by rw[hq,oZ];rfl
 have hst:=Zr6 oL.o.drew sc a.text LVal.zero;simp only[LVal.agg,LVal.zero]at hst;have F:=lh hst
 have I:=lh (show∀W M',MFr M M' zv W->vC W (w.heap.size+1+1+1) 0 (vI 0)/\vC W (w.heap.size+1+1+1) 1 (vI 0)/\vC W (w.heap.size+1+1+1) 2 (.string ⟨#[]⟩)/\vC W a.b 1 (.string a.text)from
  λW M' f=>⟨(dF.fr f).cell rfl,(dF.fr f).cell rfl,(dF.fr f).cell rfl,((lS.o.trans f).tree aJ bz).1.c1⟩)
 clear hz aC aZ cw aE aX eJ aJ bz dh di dj lf lr ln ha hf h hI aL eD eS dF ch bq d7 cW c3 c0 hq hR oZ hst;simp only[LVal.zero]at g;subst g;rw[o]at d3;clear o;unfold ATree.ptr;rcases hk with hk|hk
 all_goals
  rw[hk]at d0;clear hk;go_enter func62,ntmps62
  go_wp2_with fail
  rw[<-lR.o];clear f5 y5 g5 d3 d0 d1 f0 f1;refine o4 [(true,0),(true,1),(true,2),(true,3),(true,4),(true,5),(true,6),(true,7),(true,8)] [9] (λW=>vC W (w.heap.size+1+1+1) 0 (vI 0)/\vC W (w.heap.size+1+1+1) 1 (vI 0)/\vC W (w.heap.size+1+1+1) 2 (.string ⟨#[]⟩)/\vC W a.b 1 (.string a.text)) (I.o _ _ (.drew (.refl _ _))) (λO=>?_);refine pU ?_;refine Z1 ?_;go_wp2_with fail
  refine F.o.mono ?_;rintro e W2⟨rfl,M2,u,y⟩;have J:=lh u;have bc:=lh (lS.o.trans ((MFr.drew (.refl M zv)).trans y));clear u y;refine UN ?_;intro m0 m1 m2 q0 q1 q2 z0 z1 z2;go_wp2_with fail
  refine tm8 ?_;go_wp2;refine Yp (v:=.tuple #[.bool false,.agg #[vI 0,vI 0,.string ⟨#[]⟩],.nilIface]) ?_ rfl ?_;·simp[results,results62,go_sem,q0,q1,q2]
  .exact .fine' HLR.o HFz.o J.o.drew (bc.o.trans (.drew (.refl _ _)))
def Zuo(h:MAt C M w s)(hI:Inv s 0)(hs:s.steps<20000)(ha:TreeAt w B a)(hf:a.free M){fu:Nat}(oZ:a.kids=[])(hk:a.kind=10) :
 kC 62 #[vP C.mb,a.ptr,vI sc,.agg #[.bool fr.strict,vI fr.vars]] w λe w'=>jm C M w (D7 V D fu (a.nt C.N) sc fr s) e w':=by
 refine OW ?_;intro s1 aL bT hst jB aZ dh di dj z0 aC;rw[<-aC]at aZ dh di dj;refine rs ?_;intro cw f5 y5 aE aX;rw[<-aL]at aE;refine rH ?_;intro z hz;rw[<-hz]at aE aX;refine MJ ?_;intro eJ aJ bz lf lr ln g5 c0;rw[aC]at f5 y5;rw[hz,aC]at g5 c0;refine XF ?_;intro R aS;rw[<-aS];refine Zvz ?_;intro hR;rw[<-aL]at hR;clear aS;refine S7 ?_;intro dv HZ HLR bR dC HFz HM fB dW HO HE;refine SR ?_;intro q hq pp cp ch bq d7 cW;rw[<-hq]at ch bq;refine MQ ?_;intro jS dF eD;rw[jS]at dF;refine Lt ?_;intro zv eS
 rw[<-eS]at dF eD;have c3:=aJ.c3;rw[ch]at c3;refine TL ?_;intro d3 d0 d1 f0 f1;rw[eS,hz,aC]at d3 d0 d1 f0 f1;refine TS ?_;intro lR oT nU oL lS;have m:R=(s1,.ok (true,⟨0,0,⟨#[]⟩⟩)):=by
  rw[hR];unfold KR;rw[Za,hk];rfl
 have g:q=0:=by rw[hq,oZ];rfl
 have o:=lh (show∀W M',MFr M M' zv W->vC W (w.heap.size+1+1+1) 0 (vI 0)/\vC W (w.heap.size+1+1+1) 1 (vI 0)/\vC W (w.heap.size+1+1+1) 2 (.string ⟨#[]⟩)from
  λW M' f=>⟨(dF.fr f).cell rfl,(dF.fr f).cell rfl,(dF.fr f).cell rfl⟩)
 clear hz aC aZ cw aE aX eJ aJ bz dh di dj lf lr ln ha hf h hI aL eD eS dF ch bq d7 cW c3 c0 hq hR oZ;subst m;rw[g]at d3;rw[hk]at d0;clear g hk;unfold ATree.ptr;go_enter func62,ntmps62
 go_wp2_with fail
 rw[<-lR.o];clear f5 y5 g5 d3 d0 d1 f0 f1;obtain⟨q0,q1,q2,z0,u,z2⟩:=(HLR.o.fr lS.o).six;refine o4 [(true,0),(true,1)] [2,3] (λW=>vC W (w.heap.size+1+1+1) 0 (vI 0)/\vC W (w.heap.size+1+1+1) 1 (vI 0)/\vC W (w.heap.size+1+1+1) 2 (.string ⟨#[]⟩)) (o.o _ _ (.drew (.refl _ _))) (λy=>?_);refine pU ?_;refine Z1 ?_;go_wp2;refine Yp (v:=.tuple #[.bool true,.agg #[vI 0,vI 0,.string ⟨#[]⟩],.nilIface]) ?_ rfl ?_;·exact xY
 .exact .fine' HLR.o HFz.o oL.o.drew (lS.o.trans (.drew (.refl _ _)))
def Zos(h:MAt C M w s)(hI:Inv s 0)(hs:s.steps<20000)(ha:TreeAt w B a)(hf:a.free M){fu:Nat}(hk:a.kind=6)
 (gW:∀W M',MAt C M' W {s with steps:=s.steps+1}->TreeAt W B a->a.free M'->kC 98 #[vP C.mb,vP a.b,vI sc,.agg #[.bool fr.strict,vI fr.vars]] W λe w'=>jm C M' W (XA D (a.nt C.N) sc fr {s with steps:=s.steps+1}) e w') :
 kC 62 #[vP C.mb,a.ptr,vI sc,.agg #[.bool fr.strict,vI fr.vars]] w λe w'=>jm C M w (D7 V D fu (a.nt C.N) sc fr s) e w':=by
 refine OW ?_;intro s1 aL bT hst jB aZ dh di dj z0 aC;rw[<-aC]at aZ dh di dj;refine rs ?_;intro cw f5 y5 aE aX;rw[<-aL]at aE;refine rH ?_;intro z hz;rw[<-hz]at aE aX;refine MJ ?_;intro eJ aJ bz lf lr ln g5 c0;rw[aC]at f5 y5;rw[hz,aC]at g5 c0;refine XF ?_;intro R aS;rw[<-aS];refine Zt8 ?_;intro hR;rw[<-aL]at hR;clear aS;refine S7 ?_;intro dv HZ HLR bR dC HFz HM fB dW HO HE;refine SR ?_;intro q hq pp cp ch bq d7 cW;rw[<-hq]at ch bq;refine MQ ?_;intro jS dF eD;rw[jS]at dF;refine Lt ?_;intro zv eS
 rw[<-eS]at dF eD;have c3:=aJ.c3;rw[ch]at c3;refine TL ?_;intro d3 d0 d1 f0 f1;rw[eS,hz,aC]at d3 d0 d1 f0 f1;refine TS ?_;intro lR oT nU oL lS;obtain⟨r1,bB⟩:=zX (XA D (a.nt C.N) sc fr s1)
 exact tr0
def Zx5(h:MAt C M w s)(hI:Inv s 0)(hs:s.steps<20000)(ha:TreeAt w B a)(hf:a.free M){fu:Nat}(hk:a.kind=12)
 (gW:∀W M',MAt C M' W {s with steps:=s.steps+1}->TreeAt W B a->a.free M'->kC 101 #[vP C.mb,vP a.b,vI sc,.agg #[.bool fr.strict,vI fr.vars]] W λe w'=>jm C M' W (NH D (a.nt C.N) sc fr {s with steps:=s.steps+1}) e w') :
 kC 62 #[vP C.mb,a.ptr,vI sc,.agg #[.bool fr.strict,vI fr.vars]] w λe w'=>jm C M w (D7 V D fu (a.nt C.N) sc fr s) e w':=by
 refine OW ?_;intro s1 aL bT hst jB aZ dh di dj z0 aC;rw[<-aC]at aZ dh di dj;refine rs ?_;intro cw f5 y5 aE aX;rw[<-aL]at aE;refine rH ?_;intro z hz;rw[<-hz]at aE aX;refine MJ ?_;intro eJ aJ bz lf lr ln g5 c0;rw[aC]at f5 y5;rw[hz,aC]at g5 c0;refine XF ?_;intro R aS;rw[<-aS];refine Zt8 ?_;intro hR;rw[<-aL]at hR;clear aS;refine S7 ?_;intro dv HZ HLR bR dC HFz HM fB dW HO HE;refine SR ?_;intro q hq pp cp ch bq d7 cW;rw[<-hq]at ch bq;refine MQ ?_;intro jS dF eD;rw[jS]at dF;refine Lt ?_;intro zv eS
 rw[<-eS]at dF eD;have c3:=aJ.c3;rw[ch]at c3;refine TL ?_;intro d3 d0 d1 f0 f1;rw[eS,hz,aC]at d3 d0 d1 f0 f1;refine TS ?_;intro lR oT nU oL lS;obtain⟨r1,bB⟩:=zX (NH D (a.nt C.N) sc fr s1)
 exact tr0
def Zub{V:VF}{D:DF}{f:Nat}{n:NT}(hs:s.steps<20000)(g:n.kids.isEmpty=false)(m:n.kind=2):D7 V D f n sc fr s =
 iC (V (n.kid 0) sc fr) (KR V D f n sc fr (s.H.find sc n.text)) {s with steps:=s.steps+1}:=by
 unfold D7 zJ;rw[Y3 Qe,Y3 (by rw[g,m];decide)];show iC (V (n.kid 0) sc fr) (KR V D f n sc fr (if n.kind=2/\n.kids.isEmpty=false then s.H.find sc n.text else -1)) _=_;rw[Y5 ⟨m,g⟩]
def Zvw(oE:Tk C.w0)(co:zd C V b)(hV:VH V b)(h:MAt C M w s)(hI:Inv s 0)(rE:d+1<=20000)(hA:FAt s sc fr)(hb:b<=s.steps+1)(hs:s.steps<20000)(ha:TreeAt w B a)(hf:a.free M){x:ATree}(cr:a.kids=[x])(wx:(x.nt C.N).wf .v)(mx:(x.nt C.N).tree.many<=1500){fu:Nat}(hk:a.kind=2) :
 kC 62 #[vP C.mb,a.ptr,vI sc,.agg #[.bool fr.strict,vI fr.vars]] w λe w'=>jm C M w (D7 V D fu (a.nt C.N) sc fr s) e w':=by
 refine OW ?_;intro s1 aL bT hst jB aZ dh di dj z0 aC;rw[<-aC]at aZ dh di dj;refine rs ?_;intro cw f5 y5 aE aX;rw[<-aL]at aE;refine rH ?_;intro z hz;rw[<-hz]at aE aX;refine MJ ?_;intro eJ aJ bz lf lr ln g5 c0;rw[aC]at f5 y5;rw[hz,aC]at g5 c0;have e0:(a.nt C.N).kid 0=x.nt C.N:=xX Q8;refine XF ?_;intro R aS;rw[<-aS];have hR:=aS.trans (Zub (fr:=fr) (sc:=sc) (V:=V) (D:=D) (f:=fu) (n:=a.nt C.N) hs (by rw[Zw,cr];rfl) (by rw[Za,hk]));rw[<-aL,e0,sw]at hR;clear aS e0;refine S7 ?_
 intro dv HZ HLR bR dC HFz HM fB dW HO HE;refine Ux ?_;intro fM dL ex;have ai:b<=s1.steps:=Qe
 have ja:s1.steps<=20000:=Qe
 obtain⟨m,J,c3,cB,aT,Z,aY,eZ⟩:=aJ.row bz QL;rw[cr]at c3 cB Z;have dY:x∈a.kids:=QL
 have k0:=Z 0 x rfl;simp only[List.length_cons,List.length_nil]at c3 cB;have c3:vC z a.b 3 (.slice (some ⟨m,0,none⟩) 1 J):=c3
 have aq:∀W M',MFr M M' z W->vC W w.heap.size 0 (.bool fr.strict)/\vC W w.heap.size 1 (vI fr.vars)/\vC W a.b 0 (vI 2)/\vC W a.b 1 (.string a.text)/\vC W a.b 3 (.slice (some ⟨m,0,none⟩) 1 J)/\vC W m 0 (vP x.b):=λW M' f=>⟨(lf.fr f).cell rfl,(lf.fr f).cell rfl,by have:=(f.tree aJ bz).1.c0;rwa[hk]at this,(f.tree aJ bz).1.c1,(f.cell aJ.lt bz.blk).trans c3,(f.cell aY eZ).trans k0⟩;refine MQ ?_
 intro jS dF eD;rw[jS]at dF;refine Lt ?_;intro zv eS;rw[<-eS]at dF eD;have F:=(eD.cell (p:=⟨a.b,3,none⟩) aJ.lt).trans c3;have o:=(eD.cell (p:=⟨a.b,0,none⟩) aJ.lt).trans aJ.c0;rw[hk]at o;rw[eS,hz,aC]at F o;obtain⟨lR,oT,nU⟩:=ds (show zv=_ from eS.trans (by rw[hz,aC])) dF eD;obtain⟨I,ie⟩:=zX (s.H.find sc a.text)
 have wl:=Zdq (aE.below eD).drew.heap fM.wf sc a.text;have yy:s1.H.find sc a.text=I:=by rw[aL,ie]
 rw[yy]at wl;rw[<-ie]at hR;have oF:=lh wl;refine Zvc ?_;intro r1 bB bG am;unfold iC at hR;rw[<-bB]at bG am hR;refine Xk ?_;intro bL HR HS;have gY:=lh (hA.ext dL);have we:=lh oE;have La:=lh (show(a.nt C.N).kind=2/\(a.nt C.N).kids.isEmpty=false by rw[Za,Zw,cr];exact⟨hk,rfl⟩);clear hz aC aZ cw aE aX eJ aJ bz dh di dj lf lr ln ha hf h hI aL fM dL ex ai ja aq c3 k0 Z cr bB am hR hA co hV dY dF eD eS aY eZ hb c0 ie wl yy oE hk;unfold ATree.ptr;go_enter func62,ntmps62
 go_wp2_with fail
 rw[<-lR.o];clear f5 y5 g5 F o;have O:=lh (λW M' (f:MFr M M' zv W)=>HS.o W M' ((MFr.of_below nU.o).trans f))
 refine o4 [(true,0),(true,1),(true,2),(true,3),(true,4),(true,5),(true,6),(true,7)] [8,9] (λW=>vC W w.heap.size 0 (.bool fr.strict)/\vC W w.heap.size 1 (vI fr.vars)/\vC W a.b 0 (vI 2)/\vC W a.b 1 (.string a.text)/\vC W a.b 3 (.slice (some ⟨m,0,none⟩) 1 J)/\vC W m 0 (vP x.b)) (O.o _ _ (.drew (.refl _ _))) (λbw=>?_);refine pU ?_;refine Z1 ?_;go_wp2_with fail
 refine oF.o.mono ?_;rintro e Wf⟨rfl,kP⟩;have U:=lh ((Zd zv).trans (kP.mono (Y0 _)));obtain⟨f0,f1,o,d1,F,nW⟩:=O.o Wf M (.of_below U.o);clear kP;go_wp2_with fail
 refine v7 (.take 0 (.take 1 (.take 2 (.take 3 (.take 4 (.take 5 (.take 6 (.take 7 (.take 8 (.go 9 (.take 10 (.take 11 (.take 12 (.go 13 (.go 14 .nil))))))))))))))) 13 (λW=>vC W w.heap.size 0 (.bool fr.strict)/\vC W w.heap.size 1 (vI fr.vars)/\vC W a.b 0 (vI 2)/\vC W a.b 1 (.string a.text)/\vC W a.b 3 (.slice (some ⟨m,0,none⟩) 1 J)/\vC W m 0 (vP x.b)) (O.o _ _ (.drew (.of_below U.o))) ?_;refine ra ?_
 refine oK (λK hK=>?_);refine(bG.o _ U.o.drew).mono ?_;rintro e W0⟨M1,k1,n1,t1,bQ,rfl,ai⟩;have F0:=(MFr.of_below (M:=M) U.o.drew).trans ai.2.1;refine hK _ _ (O.o _ _ F0) ?_;clear hK K f0 f1 o d1 F nW;refine Acr ?_;clear ai F0;intro jz d9 pA qR;generalize((W0.setCell ⟨w.heap.size+1+1+1,0,none⟩ (vI k1)).setCell ⟨w.heap.size+1+1+1,1,none⟩ (vI n1)).setCell ⟨w.heap.size+1+1+1,2,none⟩ (.string t1)=W1 at *;obtain⟨s2,q1⟩:=r1;cases q1 with
 |error x1=>
   exact tr4
 |ok v1=>
   obtain⟨rfl,rfl⟩:v1=⟨k1,n1,t1⟩/\bQ=.nilIface:=qR.o;obtain⟨i1,x1,-,eo,i2⟩:=bL.o;have an:R=KR V D fu (a.nt C.N) sc fr I ⟨k1,n1,t1⟩ s2:=HR.o;have bI:R=match Uf I a.text ⟨k1,n1,t1⟩ fr s2 with
    |(y,.ok _)=>(y,.ok (false,⟨0,0,⟨#[]⟩⟩))
    |(y,.error e)=>(y,.error e):=by
    rw[an];unfold KR;rw[Y5 La.o.1,La.o.2,sw];simp only[Bool.false_eq_true,if_false,iC];rcases Uf I a.text ⟨k1,n1,t1⟩ fr s2 with⟨y,e|u⟩<;>rfl
   have has:=Zav we.o jz.o.drew i1 (gY.o.root.ext x1) I a.text ⟨k1,n1,t1⟩ fr;obtain⟨r3,df⟩:=zX (Uf I a.text ⟨k1,n1,t1⟩ fr s2)
   rw[<-df]at has bI;simp only[LVal.agg]at has;have sJ:=lh has;have Y:=lh bI
   have Ci:=lh (show∀W M',MFr M1 M' W1 W->vC W a.b 1 (.string a.text)/\vC W (w.heap.size+1+1+1) 0 (vI k1)/\vC W (w.heap.size+1+1+1) 1 (vI n1)/\vC W (w.heap.size+1+1+1) 2 (.string t1)/\vC W w.heap.size 0 (.bool fr.strict)/\vC W w.heap.size 1 (vI fr.vars)from
    λW M' f=>have g:=HS.o W M' (d9.o.trans f);⟨g.2.2.2.1,(pA.o.fr f).cell rfl,(pA.o.fr f).cell rfl,(pA.o.fr f).cell rfl,g.1,g.2.1⟩)
   clear HR an bI i1 x1 eo i2 qR bG has df;obtain⟨f0,f1,o,d1,F,nW⟩:=HS.o W1 M1 d9.o;go_wp2_with fail
   refine o4 [(true,0),(true,1),(true,2),(true,3),(true,4),(true,5),(true,6),(true,7)] [8,9] (λW=>vC W a.b 1 (.string a.text)/\vC W (w.heap.size+1+1+1) 0 (vI k1)/\vC W (w.heap.size+1+1+1) 1 (vI n1)/\vC W (w.heap.size+1+1+1) 2 (.string t1)/\vC W w.heap.size 0 (.bool fr.strict)/\vC W w.heap.size 1 (vI fr.vars)) (Ci.o _ _ (.drew (.refl _ _))) (λbw=>?_);refine pU ?_;refine Z1 ?_;clear f0 f1 o d1 F nW
   go_wp2_with fail
   refine sJ.o.mono ?_;rintro e W2⟨M2,aO,ap,bW⟩;have bU:=lh aO;have bc:=lh (d9.o.trans ((MFr.drew (.refl M1 W1)).trans ap));clear aO ap;refine UN ?_;intro m0 m1 m2 q0 q1 q2 z0 z1 z2;obtain⟨y,q3⟩:=r3;cases q3 with
   |error x3=>
     obtain⟨ev,rfl,he⟩:=bW;have an:R=(y,.error x3):=Y.o;clear Y;subst an;have iS:=lh he;clear he;go_wp2_with fail
     refine tm8 ?_;go_wp2;refine Yp (v:=.tuple #[.bool false,.agg #[vI 0,vI 0,.string ⟨#[]⟩],ev]) ?_ rfl ?_;·exact xY
     .exact .err' HLR.o HFz.o bU.o.drew (bc.o.trans (.drew (.refl _ _))) iS.o
   |ok u3=>
     have he:e=.returned .nilIface:=bW;subst he;have an:R=(y,.ok (false,⟨0,0,⟨#[]⟩⟩)):=Y.o;clear Y;subst an;go_wp2_with fail
     exact tq8
def Zk1{V:VF}{D:DF}{n:NT}{g:Nat}:Vf V D n sc fr (g+1) s=match V (n.kid 0) sc fr s with
 |(s1,.error e)=>(s1,.error e)
 |(s1,.ok v)=>if v.true then(match D (n.kid 1) sc fr s1 with
  |(m,.ok (true,u))=>(m,.ok (true,u))
  |(m,.ok (false,_))=>Vf V D n sc fr g m
  |(m,.error e)=>(m,.error e))else(s1,.ok (false,LVal.zero)):=by
 have e:Vf V D n sc fr (g+1) s=iC (V (n.kid 0) sc fr) (λv=>if v.true then iC (D (n.kid 1) sc fr) λr=>if r.1 then ga r else Vf V D n sc fr g else ga (false,LVal.zero)) s:=rfl;rw[e];unfold iC;rcases V (n.kid 0) sc fr s with⟨s1,e|v⟩;·rfl
 .simp only;by_cases o:v.true=true
  .simp only[o,if_true];rcases D (n.kid 1) sc fr s1 with⟨m,e|⟨_|_,u⟩⟩<;>rfl
  .simp only[o,if_false];rfl
def stepsAt(mb:Nat)(w:kV):Int:=match w.cell? ⟨mb,5,none⟩with|some (.int _ n)=>n|_=>0
theorem MAt.stepsAt(h:MAt C M w s):stepsAt C.mb w=s.steps:=by
 have:=h.cell 5 (vI s.steps) Qq;unfold Go.Proofs.YtkjdnecemhilpaaGreatDoor.stepsAt;rw[this]
def Zo3 (co:zd C V b) (cV:FR C D b) (hV:VH V b) (hD:DH D b) (h:MAt C M w s) (hI:Inv s 0) (rE:d + 1≤20000) (hA:FAt s sc fr) (hb:b≤s.steps + 1) (hs:s.steps < 20000) (ha:TreeAt w B a) (hf:a.free M) {x y:ATree} (cr:a.kids=[x,y]) (wx:(x.nt C.N).wf .v) (mx:(x.nt C.N).tree.many≤1500) (wy:(y.nt C.N).wf .s) (my:(y.nt C.N).tree.many≤1500) {fu:Nat} (np:20000≤s.steps + fu) (hk:a.kind=8) :
 kC 62 #[vP C.mb,a.ptr,vI sc,.agg #[.bool fr.strict,vI fr.vars]] w λe w'=>jm C M w (D7 V D fu (a.nt C.N) sc fr s) e w':=by
 refine OW ?_;intro s1 aL bT hst jB aZ dh di dj z0 aC;rw[<-aC]at aZ dh di dj;refine rs ?_;intro cw f5 y5 aE aX;rw[<-aL]at aE;refine rH ?_;intro z hz;rw[<-hz]at aE aX;refine MJ ?_;intro eJ aJ bz lf lr ln g5 c0;rw[aC]at f5 y5;rw[hz,aC]at g5 c0;refine XF ?_;intro R aS;rw[<-aS];refine Zt8 ?_;intro hR;rw[<-aL]at hR;clear aS;refine S7 ?_;intro dv HZ HLR bR dC HFz HM fB dW HO HE;refine SR ?_;intro q hq pp cp ch bq d7 cW;rw[<-hq]at ch bq;refine MQ ?_;intro jS dF eD;rw[jS]at dF;refine Lt ?_;intro zv eS
 rw[<-eS]at dF eD;have c3:=aJ.c3;rw[ch]at c3;refine TL ?_;intro d3 d0 d1 f0 f1;rw[eS,hz,aC]at d3 d0 d1 f0 f1;refine TS ?_;intro lR oT nU oL lS;have I:R=Vf V D (a.nt C.N) sc fr fu s1:=by
  rw[hR];unfold KR;rw[Za,hk];rfl
 refine Ux ?_;intro fM dL ex;obtain⟨J,kc,ry,cB,aT,bN,aY,eZ⟩:=aJ.row bz QL;rw[cr]at ry cB bN;refine Zuy ?_;intro dY ez k0 k1;simp only[List.length_cons,List.length_nil]at ry cB;have ry:vC z a.b 3 (.slice (some ⟨J,0,none⟩) 2 kc):=ry
 have aq:∀W M',MFr M M' z W->vC W w.heap.size 0 (.bool fr.strict)/\vC W w.heap.size 1 (vI fr.vars)/\vC W a.b 3 (.slice (some ⟨J,0,none⟩) 2 kc)/\vC W J 0 (vP x.b)/\vC W J 1 (vP y.b):=λW M' f=>⟨(lf.fr f).cell rfl,(lf.fr f).cell rfl,(f.cell aJ.lt bz.blk).trans ry,(f.cell aY eZ).trans k0,(f.cell aY eZ).trans k1⟩;obtain⟨HS,bD,eF,lq,ip⟩:=gq aq I fM dL ex
 obtain⟨Dl,gY,HB,eL,oM,pC,oU,oV,iU,HV,HD,Lb⟩:=tq np hA hb (aJ.kid dY) (bz.kid dY) (aJ.kid ez) (bz.kid ez) co cV hV hD (show(a.nt C.N).kid 0=x.nt C.N/\(a.nt C.N).kid 1=y.nt C.N from⟨xX Q8,xX Q8⟩);have cS:decide (0<q)=true:=by rw[hq,cr];rfl
 clear hz aC aZ cw aE aX eJ aJ bz dh di dj lf lr ln ha hf h hI aL eD eS dF ch bq d7 cW c3 c0 hq hR I fM dL ex np hA hb co cV hV hD cr ry cB bN aY eZ k0 k1 dY ez aq;rw[hk]at d0;clear hk;unfold ATree.ptr;go_enter func62,ntmps62
 go_wp2_with fail
 rw[<-lR.o];clear f5 y5 g5 d3 d0 d1 f0 f1;go_loopw [16] (λ_ wr=>∃(Mk:MRep) (O:MSt) (g:Nat),Hid (MAt C Mk wr O)/\Hid (MFr M Mk z wr)/\Hid (Inv O (d+1))/\Hid (Ext s O/\O.steps<=20000/\b<=O.steps/\20001<=O.steps+g)/\Hid (R=Vf V D (a.nt C.N) sc fr g O)) (λ_ wr=>(20001-stepsAt C.mb wr).toNat)
 case atStart=>exact⟨M,s1,fu,oL,lS,eF,lh ⟨lq.o,by have:=ip.o;omega,by have:=ip.o;have:=HB.o;omega,by have:=ip.o;have:=Dl.o;omega⟩,bD⟩
 case round=>
  obtain⟨Mk,O,g,HMk,U,eu,Y,HRk⟩:=hrel;have fV:=Y.o;obtain⟨g,rfl⟩:∃g',g=g'+1:=⟨g-1,by omega⟩
  have hR:=HRk.o;rw[Zk1,Lb.o.1,Lb.o.2]at hR;have x8:=HMk.o.stepsAt;have be:=U.o.tree eL.o oM.o;obtain⟨r1,bB⟩:=zX (V (x.nt C.N) sc fr O)
  have bG:=lh (oV.o.from HMk.o eu.o (gY.o.ext fV.1) fV.2.2.1 fV.2.1 wx mx be.1 be.2);have am:=HV.o (x.nt C.N) sc fr O _ wx mx eu.o (gY.o.ext fV.1) fV.2.2.1 fV.2.1;rw[<-bB]at bG am hR;obtain⟨ed,HR,bL,EN,qx⟩:=gq (λW M' (f:MFr Mk M' wr W)=>HS.o W M' (U.o.trans f)) hR am x8 (Y4 HE.o U.o.size);clear fV hR x8 be bB am;go_wp2_with fail
  refine v7 (.take 0 (.take 1 (.take 2 (.take 3 (.take 4 (.take 5 (.take 6 (.take 7 (.take 8 (.two 9 (.take 10 (.take 11 (.take 12 (.go 13 (.go 14 (.go 15 (.nil))))))) 13 (.go 9 (.take 10 (.take 11 (.take 12 (.go 14 (.go 15 (.nil))))))))))))))))) 14 (λW=>vC W w.heap.size 0 (.bool fr.strict)/\vC W w.heap.size 1 (vI fr.vars)/\vC W a.b 3 (.slice (some ⟨J,0,none⟩) 2 kc)/\vC W J 0 (vP x.b)/\vC W J 1 (vP y.b)) (ed.o _ _ (MFr.drew (.refl _ _))) ?_
  refine ra ?_;refine Zu ?_;apply Te (H:=sp C w Mk wr r1);·exact Tm ed bG qx.o HO.o
  .exact Xs ed bG HMk qx.o HO.o
  intro W1 p1 M1 k1 n1 t1 bQ ai;have F1:=U.o.trans ai.1.2.1;have bA:=lh F1;have bX:=lh ai.1.1;obtain⟨b0,b1,b2,-,-,-⟩:=ai.2.six;obtain⟨m0,m1,m2,-,-,-⟩:=(bR.o.fr F1).six;obtain⟨q0,q1,q2,z0,z1,z2⟩:=(HLR.o.fr F1).six;obtain⟨F,q1⟩:=r1;cases q1 with
  |error u=>
    have he:ax C M1 W1 u bQ:=ai.1.2.2;have I:R=(F,.error u):=HR.o;clear HR;subst I;obtain⟨T1,P1,rfl,hP⟩:=he.ne;have eg:=lh he;clear ai F1 he;go_wp2_with fail
    refine tm8 ?_;go_wp2;refine Yp (v:=.tuple #[.bool false,.agg #[vI 0,vI 0,.string ⟨#[]⟩],.iface T1 (.pointer P1)]) ?_ rfl ?_;·exact xY
    .exact .err' HLR.o HFz.o bX.o.drew (bA.o.trans (.drew (.refl _ _))) eg.o
  |ok v1=>
    obtain⟨rfl,rfl⟩:v1=⟨k1,n1,t1⟩/\bQ=.nilIface:=ai.1.2.2;refine Zus ?_;intro ht bt cQ;rw[<-cQ]at ht;have hR:=HR.o;simp only at hR;rw[<-cQ]at hR;have HT:=lh ht;have bD:=lh hR;clear ai F1 ht cQ hR HR;cases bt
    .have I:R=(F,.ok (false,⟨0,0,⟨#[]⟩⟩)):=by have :=bD.o;simpa[LVal.zero]using this
     clear bD;subst I;go_wp2_with fail
     refine HT.o.mono ?_;rintro e W2⟨rfl,ar⟩;have bU:=lh (bX.o.below ar);have bc:=lh (bA.o.trans (.of_below ar));clear ar q0 q1 q2 z0 z1 z2 m0 m1 m2 b0 b1 b2;exact Aay
    .have bI:=bD.o;simp only[if_true]at bI;go_wp2_with fail
     refine HT.o.mono ?_;rintro e W2⟨rfl,ar⟩;have bU:=lh (bX.o.below ar);have bc:=lh (bA.o.trans (.of_below ar));have nP:=lh (Y4 HE.o bc.o.size);clear ar q0 q1 q2 z0 z1 z2 m0 m1 m2 b0 b1 b2;obtain⟨⟨i1,u,-,eo,i2⟩,aA⟩:=bL.o;have ij:=bc.o.tree pC.o oU.o;have gA:b<=F.steps:=Int.le_trans Y.o.2.2.1 u.steps;obtain⟨r2,hr2⟩:=zX (D (y.nt C.N) sc fr F)
     have bS:=lh (iU.o.from bU.o i1 ((gY.o.ext Y.o.1).ext u) gA i2 wy my ij.1 ij.2);have am:=(HD.o (y.nt C.N) sc fr F _ wy my i1 ((gY.o.ext Y.o.1).ext u) gA i2).1;rw[<-hr2]at bS am bI;obtain⟨bF,dP,sr,yf,cH⟩:=gq am bI aA u (λW M' (f:MFr M1 M' W2 W)=>HS.o W M' (bc.o.trans f));clear i1 u eo i2 aA ij gA hr2 am bI bD;go_wp2_with fail
     refine v7 (.take 0 (.take 1 (.take 2 (.take 3 (.take 4 (.take 5 (.take 6 (.take 7 (.take 8 (.two 9 (.take 10 (.take 11 (.take 12 (.take 13 (.go 14 (.go 15 (.go 16 (.go 17 (.nil))))))))) 14 (.go 9 (.take 10 (.take 11 (.take 12 (.take 13 (.go 15 (.go 16 (.go 17 (.nil))))))))))))))))))) 16 (λW=>vC W w.heap.size 0 (.bool fr.strict)/\vC W w.heap.size 1 (vI fr.vars)/\vC W a.b 3 (.slice (some ⟨J,0,none⟩) 2 kc)/\vC W J 0 (vP x.b)/\vC W J 1 (vP y.b)) (cH.o _ _ (MFr.drew (.refl _ _))) ?_
     refine ra ?_;refine Zu ?_;apply Ziz (H:=Lz C w M1 W2 r2);·exact kDA cH bS nP.o HO.o
     .exact Aa1 cH bS bU nP.o HO.o
     intro W3 p2 M3 bk k2 n2 t2 nN Z;have F3:=bc.o.trans Z.1.2.1;have bP:=lh F3;have dH:=lh Z.1.1;obtain⟨b0,b1,b2,-,-,-⟩:=Z.2.six;obtain⟨q0,q1,q2,z0,z1,z2⟩:=(HLR.o.fr F3).six;have jG:p2≠w.heap.size+1:=by have h1:=Z.2.late;have h2:=HLR.o.lt;have h3:=bc.o.size;omega
     obtain⟨o,lY⟩:=r2;cases lY with
     |error x2=>
       have he:ax C M3 W3 x2 nN:=Z.1.2.2;have I:R=(o,.error x2):=dP.o;clear dP;subst I;obtain⟨T1,P1,rfl,hP⟩:=he.ne;have eg:=lh he;clear Z F3 he;cases bk
       .go_wp2_with fail
        refine Yx ?_;refine ta ?_;go_wp2;refine Yp (v:=.tuple #[.bool false,.agg #[vI k2,vI n2,.string t2],.iface T1 (.pointer P1)]) ?_ rfl ?_;·exact xY
        .exact Xc
       .go_wp2_with fail
        refine Yx ?_;refine ta ?_;go_wp2;refine Yp (v:=.tuple #[.bool true,.agg #[vI k2,vI n2,.string t2],.iface T1 (.pointer P1)]) ?_ rfl ?_;·exact xY
        .exact Xc
     |ok v2=>
       obtain⟨rfl,rfl⟩:v2=(bk,⟨k2,n2,t2⟩)/\nN=.nilIface:=Z.1.2.2;clear Z F3;cases bk
       .have Ow:=lh (show R=Vf V D (a.nt C.N) sc fr g o from dP.o);clear dP;obtain⟨i1,u,-,eo,i2⟩:=bF.o;have nX:=lh i1;have hl:=sr.o;have cC:=u.steps;have El:=dH.o.stepsAt
        have Gc:=lh (show Ext s o/\o.steps<=20000/\b<=o.steps/\20001<=o.steps+g from⟨(Y.o.1.trans yf.o).trans u,i2,by have:=Y.o.2.2.1;have h2:=yf.o.steps;have h3:(F,Except.ok (ε:=Er) (⟨k1,n1,t1⟩:LVal)).1.steps=F.steps:=rfl;have h4:((o,Except.ok (ε:=Er) (false,(⟨k2,n2,t2⟩:LVal))):MSt×Except Er (Bool×LVal)).1.steps=o.steps:=rfl;omega,by have:=Y.o.2.2.2;have h3:(F,Except.ok (ε:=Er) (⟨k1,n1,t1⟩:LVal)).1.steps=F.steps:=rfl;have h4:((o,Except.ok (ε:=Er) (false,(⟨k2,n2,t2⟩:LVal))):MSt×Except Er (Bool×LVal)).1.steps=o.steps:=rfl;omega⟩)
        have uI:(20001-stepsAt C.mb W3).toNat<(20001-stepsAt C.mb wr).toNat:=by
         rw[EN.o,El];have h2:=Y.o.2.1;have h3:(F,Except.ok (ε:=Er) (⟨k1,n1,t1⟩:LVal)).1.steps=F.steps:=rfl;have h4:((o,Except.ok (ε:=Er) (false,(⟨k2,n2,t2⟩:LVal))):MSt×Except Er (Bool×LVal)).1.steps=o.steps:=rfl;omega
        have Ox:=lh uI;clear i1 u eo i2 hl cC El uI;go_wp2_with fail
        go_roundw
        case rel=>exact⟨M3,o,g,dH,bP,nX,Gc,Ow⟩
        case measure=>exact Ox.o
       .have I:R=(o,.ok (true,⟨k2,n2,t2⟩)):=dP.o;clear dP;subst I;go_wp2_with fail
        refine Yx ?_;refine ta ?_;go_wp2;refine Yp (v:=.tuple #[.bool true,.agg #[vI k2,vI n2,.string t2],.nilIface]) ?_ rfl ?_;·exact xY
        .exact .fine' HLR.o HFz.o dH.o.drew (bP.o.trans (.drew (.refl _ _)))
end
