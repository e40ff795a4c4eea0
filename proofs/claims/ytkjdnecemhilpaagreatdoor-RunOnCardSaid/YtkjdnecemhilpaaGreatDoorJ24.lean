import Derived.Test.YtkjdnecemhilpaaGreatDoorJ23
set_option maxRecDepth 100000
set_option maxHeartbeats 20000000
set_option linter.all false
namespace Go.Proofs.YtkjdnecemhilpaaGreatDoor
open Go Go.RowKit Go.Proofs.Tryz Tryz
section
variable {C:RCtx}{M M':MRep}{w w':kV}{s s':MSt}{B:Nat}{a:ATree}{V:VF}{D:DF}{b:Int}{sc:Int}{fr:Frm}{d:Nat}
def Zwm{V:VF}{D:DF}{f:Nat}{n:NT}(hs:s.steps<20000)(m:n.kids.isEmpty=false)(g:n.kind≠2/\n.kind≠5/\n.kind≠6/\n.kind≠12/\n.kind≠8):D7 V D f n sc fr s =
 iC (V (n.kid 0) sc fr) (KR V D f n sc fr (-1)) {s with steps:=s.steps+1}:=by
 unfold D7 zJ;rw[Y3 Qe,Y3 (by rw[m];simp;exact g.2)];show iC (V (n.kid 0) sc fr) (KR V D f n sc fr (if n.kind=2/\n.kids.isEmpty=false then s.H.find sc n.text else -1)) _=_;rw[Y3 (λe=>g.1 e.1)]
theorem Abn{A B:Prop}{H R:kV->Nat->Prop}(m:Hid (∀W p,H W p->R W p)->A)(o:Hid (∀W p,H W p->R W p)->B)(g:∀W p,H W p->R W p):A/\B:=⟨m (lh g),o (lh g)⟩
def YW(C:RCtx)(M:MRep)(w:kV)(s':MSt)(M':MRep)(rb:Nat)(v:LVal)(W:kV)(p:Nat):Prop:=
 MAt C M' W s'/\MFr M M' w W/\ax C M' W (.thr v) (sN p)/\Lo C M' w W rb #[vI 0,vI 0,.string ⟨#[]⟩] 71
def Zcx(h:MAt C M w s)(v:LVal):MAt C M (((w.setCell ⟨C.mb,14,none⟩ (vI v.kind)).setCell ⟨C.mb,15,none⟩ (vI v.n)).setCell ⟨C.mb,16,none⟩ (.string v.s)) {s with last:=v}/\
 MFr M M w (((w.setCell ⟨C.mb,14,none⟩ (vI v.kind)).setCell ⟨C.mb,15,none⟩ (vI v.n)).setCell ⟨C.mb,16,none⟩ (.string v.s)):=by
 have hr:∀j,14<=j->∀i,i<4->rowO i≠j:=λj m i hi=>by
  match i,hi with
  |0,_=>simp[rowO];omega
  |1,_=>simp[rowO];omega
  |2,_=>simp[rowO];omega
  |3,_=>simp[rowO];omega
 obtain⟨g,a2⟩:=h.scalar (j:=14) (v:=(vI v.kind)) (s':={s with last:=⟨v.kind,s.last.n,s.last.s⟩}) Qg rfl rfl rfl rfl rfl (hr 14 Qe) ⟨_,h.cell 14 (vI s.last.kind) Qq⟩ (λo x hx=>by
  simp only[ms,List.mem_cons,Prod.mk.injEq,List.not_mem_nil,or_false]at hx ⊢;rcases hx with h|h|h|h|h|h|h|h|h|h|h<;>(obtain⟨rfl,rfl⟩:=h;simp))
 obtain⟨b1,b2⟩:=g.scalar (j:=15) (v:=(vI v.n)) (s':={s with last:=⟨v.kind,v.n,s.last.s⟩}) Qg rfl rfl rfl rfl rfl (hr 15 Qe) ⟨_,g.cell 15 (vI s.last.n) Qq⟩ (λo x hx=>by
  simp only[ms,List.mem_cons,Prod.mk.injEq,List.not_mem_nil,or_false]at hx ⊢;rcases hx with h|h|h|h|h|h|h|h|h|h|h<;>(obtain⟨rfl,rfl⟩:=h;simp))
 obtain⟨c1,c2⟩:=b1.scalar (j:=16) (v:=.string v.s) (s':={s with last:=v}) Qg rfl rfl rfl rfl rfl (hr 16 Qe) ⟨_,b1.cell 16 (.string s.last.s) Qq⟩ (λo x hx=>by
  simp only[ms,List.mem_cons,Prod.mk.injEq,List.not_mem_nil,or_false]at hx ⊢;rcases hx with h|h|h|h|h|h|h|h|h|h|h<;>(obtain⟨rfl,rfl⟩:=h;simp))
 exact⟨c1,(a2.trans b2).trans c2⟩
def Z75(co:zd C V b)(cV:FR C D b)(hV:VH V b)(h:MAt C M w s)(hI:Inv s 0)(rE:d+1<=20000)(hA:FAt s sc fr)(hb:b<=s.steps+1)(hs:s.steps<20000)(ha:TreeAt w B a)(hf:a.free M){x:ATree}{l:List ATree}(cr:a.kids=x::l)(wx:(x.nt C.N).wf .v)(mx:(x.nt C.N).tree.many<=1500)(hl:l.length<=2)(zu:∀y∈l,(y.nt C.N).wf .s/\(y.nt C.N).tree.many<=1500){fu:Nat}(hk:a.kind=3\/a.kind=4\/a.kind=7/\1<=l.length\/a.kind=9/\l.length=1\/a.kind=10\/a.kind=11\/a.kind=15) :
 kC 62 #[vP C.mb,a.ptr,vI sc,.agg #[.bool fr.strict,vI fr.vars]] w λe w'=>jm C M w (D7 V D fu (a.nt C.N) sc fr s) e w':=by
 refine OW ?_;intro s1 aL bT hst jB aZ dh di dj z0 aC;rw[<-aC]at aZ dh di dj;refine rs ?_;intro cw f5 y5 aE aX;rw[<-aL]at aE;refine rH ?_;intro z hz;rw[<-hz]at aE aX;refine MJ ?_;intro eJ aJ bz lf lr ln g5 c0;rw[aC]at f5 y5;rw[hz,aC]at g5 c0;obtain⟨q,hq⟩:=zX l.length
 have e0:(a.nt C.N).kid 0=x.nt C.N:=xX Q8;refine XF ?_;intro R aS;rw[<-aS];have hR:=aS.trans (Zwm (fr:=fr) (sc:=sc) (V:=V) (D:=D) (f:=fu) (n:=a.nt C.N) hs (by rw[Zw,cr];rfl) (by rw[Za];omega));rw[<-aL,e0]at hR;clear aS e0;refine S7 ?_;intro dv HZ HLR bR dC HFz HM fB dW HO HE;refine Ux ?_;intro fM dL ex;have ai:b<=s1.steps:=Qe
 have ja:s1.steps<=20000:=Qe
 obtain⟨kg,I,c3,cB,aT,bN,aY,eZ⟩:=aJ.row bz QL;rw[cr]at c3 cB bN;have dY:x∈a.kids:=QL
 have k0:=bN 0 x rfl;simp only[List.length_cons,<-hq]at c3 cB
 have aq:∀W M',MFr M M' z W->vC W w.heap.size 0 (.bool fr.strict)/\vC W w.heap.size 1 (vI fr.vars)/\vC W a.b 0 (vI a.kind)/\vC W a.b 1 (.string a.text)/\vC W a.b 3 (.slice (some ⟨kg,0,none⟩) (q+1) I)/\vC W kg 0 (vP x.b):=λW M' f=>⟨(lf.fr f).cell rfl,(lf.fr f).cell rfl,(f.tree aJ bz).1.c0,(f.tree aJ bz).1.c1,(f.cell aJ.lt bz.blk).trans c3,(f.cell aY eZ).trans k0⟩;refine MQ ?_;intro jS dF eD
 rw[jS]at dF;refine Lt ?_;intro zv eS;rw[<-eS]at dF eD;have d3:=(eD.cell (p:=⟨a.b,3,none⟩) aJ.lt).trans c3;have d0:=(eD.cell (p:=⟨a.b,0,none⟩) aJ.lt).trans aJ.c0;rw[eS,hz,aC]at d3 d0;obtain⟨lR,oT,nU⟩:=ds (show zv=_ from eS.trans (by rw[hz,aC])) dF eD;refine Zvc ?_;intro r1 bB bG am;unfold iC at hR;rw[<-bB]at bG am hR;refine Xk ?_;intro bL HR HS;obtain⟨gY,HB,iU⟩:=ds (hA.ext dL) ai cV;refine Zzz ?_;intro jX
 obtain⟨re,xD,ft,yp⟩:=gp (show∀y∈l,TreeAt z B y/\y.free M from λy hy=>⟨aJ.kid Sc,bz.kid Sc⟩) zu aY eZ;have pL:=lh (show∀(i:Nat) (y:ATree),l[i]?=some y->(a.nt C.N).kid (i+1)=y.nt C.N from λi y hy=>xX (by rw[cr];exact hy));have Ct:=lh (show(a.nt C.N).kids.length=q+1 by rw[Zw,zI,Ym,cr,hq];rfl);have HQ:=lh hq;have nq:q<=2:=Qe
 have b2:(a.kind==2)=false:=Qi
 have b5:(a.kind !=5)=true:=Qi
 have b6:(a.kind !=6)=true:=Qi
 have gi:(a.kind !=12)=true:=Qi
 have b8:(a.kind !=8)=true:=Qi
 have fO:decide (0<q+1)=true:=Qm
 have PF:=lh (Yu cB aT);clear hz aC aZ cw aE aX eJ aJ bz dh di dj lf lr ln ha hf h hI aL fM dL ex ai ja aq c3 k0 bN cr bB am hR hA co cV hV dY dF eD eS zu aY eZ hq hb c0;unfold ATree.ptr;go_enter func62,ntmps62
 go_wp2_with fail
 rw[<-lR.o];clear f5 y5 g5 d3 d0;have qD:=lh (λW M' (f:MFr M M' zv W)=>HS.o W M' ((MFr.of_below nU.o).trans f))
 refine v7 (.take 0 (.take 1 (.take 2 (.take 3 (.take 4 (.take 5 (.take 6 (.take 7 (.take 8 (.go 9 (.take 10 (.take 11 (.take 12 (.go 13 (.go 14 .nil))))))))))))))) 13 (λW=>vC W w.heap.size 0 (.bool fr.strict)/\vC W w.heap.size 1 (vI fr.vars)/\vC W a.b 0 (vI a.kind)/\vC W a.b 1 (.string a.text)/\vC W a.b 3 (.slice (some ⟨kg,0,none⟩) (q+1) I)/\vC W kg 0 (vP x.b)) (qD.o _ _ (.drew (.refl _ _))) ?_;refine ra ?_
 refine oK (λK hK=>?_);refine(bG.o _ (Zd _)).mono ?_;rintro e W0⟨M1,k1,n1,t1,bQ,rfl,ai⟩;have F0:=(MFr.drew (.refl M zv)).trans ai.2.1;refine hK _ _ (qD.o _ _ F0) ?_;clear hK K;refine Acr ?_;clear ai F0;intro jz d9 pA qR;generalize((W0.setCell ⟨w.heap.size+1+1+1,0,none⟩ (vI k1)).setCell ⟨w.heap.size+1+1+1,1,none⟩ (vI n1)).setCell ⟨w.heap.size+1+1+1,2,none⟩ (.string t1)=W1 at *;obtain⟨s2,q1⟩:=r1;cases q1 with
 |error x1=>
   exact tr4
 |ok v1=>
   obtain⟨rfl,rfl⟩:v1=⟨k1,n1,t1⟩/\bQ=.nilIface:=qR.o;obtain⟨i1,x1,-,eo,i2⟩:=bL.o;obtain⟨eF,lq,NF,mw⟩:=gp i1 x1 eo i2;have an:R=KR V D fu (a.nt C.N) sc fr (-1) ⟨k1,n1,t1⟩ s2:=HR.o;unfold KR at an;rw[Za,sw]at an;have bD:=lh an;clear HR an i1 x1 eo i2 qR bG;obtain⟨f0,f1,d0,d1,d3,nW⟩:=HS.o W1 M1 d9.o;obtain⟨b0,b1,DD,-,-,-⟩:=pA.o.six;have Ci:=lh (λW M' (f:MFr M1 M' W1 W)=>HS.o W M' (d9.o.trans f))
   have rN:=lh (show∀W M',MFr M1 M' W1 W->vC W (w.heap.size+1+1+1) 0 (vI k1)/\vC W (w.heap.size+1+1+1) 1 (vI n1)/\vC W (w.heap.size+1+1+1) 2 (.string t1)from
    λW M' f=>⟨(pA.o.fr f).cell rfl,(pA.o.fr f).cell rfl,(pA.o.fr f).cell rfl⟩)
   obtain⟨m0,m1,m2,-,-,-⟩:=(bR.o.fr d9.o).six;obtain⟨q0,q1,q2,z0,z1,z2⟩:=(HLR.o.fr d9.o).six;rcases hk with hk|hk|⟨hk,aG⟩|⟨hk,aG⟩|hk|hk|hk
   all_goals
    have an:=bD.o;rw[hk]at d0 an Ci;simp at an;have HR:=lh an;have HK:=lh hk;clear hk an bD b2 b5 b6 gi b8 fO
   .exact tr2
   .exact tr2
   .obtain⟨y,hy⟩:∃y,l[0]? =some y:=⟨_,Y6 Qe⟩
    have Hy:=lh hy;refine Zus ?_;intro ht bt cQ;rw[<-cQ]at ht;have HT:=lh ht;have hR:=HR.o;rw[<-cQ,show(a.nt C.N).kid 1=y.nt C.N from pL.o 0 y hy]at hR;have HR:=lh hR;clear ht cQ hR hy;go_wp2_with fail
    refine HT.o.mono ?_;rintro e W2⟨rfl,ar⟩;have bU:=lh (jz.o.below ar);have bc:=lh (d9.o.trans (.of_below ar));obtain⟨f0,f1,d0,d1,d3,nW⟩:=HS.o W2 M1 bc.o;clear ar;have Gr:q=1\/q=2:=So
    rcases Gr with rB|rB
    all_goals
     rw[rB]at d3;have J:=lh rB;clear rB;cases bt
    .simp only[Bool.false_eq_true,if_false]at HR;have an:R=(s2,.ok (false,⟨0,0,⟨#[]⟩⟩)):=by rw[HR.o,Y5 (by rw[Ct.o,J.o];decide)];rfl
     clear HR;subst an;clear q0 q1 q2 z0 z1 z2 m0 m1 m2;exact Aay
    .simp only[if_true]at HR;refine WZ ?_;intro HY tj bS
     have oY:=lh (show∀W M',MFr M1 M' W2 W->vC W w.heap.size 0 (.bool fr.strict)/\vC W w.heap.size 1 (vI fr.vars)/\vC W a.b 3 (.slice (some ⟨kg,0,none⟩) 2 I)/\vC W kg 1 (vP y.b)from
      λW M' f=>have g:=HS.o W M' (bc.o.trans f);⟨g.1,g.2.1,by have h:=g.2.2.2.2.1;rw[J.o]at h;exact h,((bc.o.trans f).cell ft.o yp.o).trans (jX.o 0 y Hy.o)⟩)
     go_wp2_with fail
     refine o4 [(true,0),(true,1),(true,2),(true,3),(true,4),(true,5),(true,6),(true,7),(true,8),(false,9),(true,10),(true,11),(true,12)] [13,14,15] (λW=>vC W w.heap.size 0 (.bool fr.strict)/\vC W w.heap.size 1 (vI fr.vars)/\vC W a.b 3 (.slice (some ⟨kg,0,none⟩) 2 I)/\vC W kg 1 (vP y.b)) (oY.o _ _ (.drew (.refl _ _))) (λbw=>?_);exact Aaq
    .simp only[Bool.false_eq_true,if_false]at HR;obtain⟨F,Gs⟩:∃F,l[1]? =some F:=⟨_,Y6 (by rw[<-HQ.o,J.o];decide)⟩
     have C9:=lh Gs;have hR:=HR.o;rw[Y3 (by rw[Ct.o,J.o];decide),show(a.nt C.N).kid 2=F.nt C.N from pL.o 1 F Gs]at hR;have HR:=lh hR;clear hR Gs;have HY:=lh (re.o F (Yd C9.o));have tj:=lh (bc.o.tree HY.o.1 HY.o.2);have bS:=lh (iU.o.from bU.o eF.o (gY.o.ext lq.o) (Int.le_trans HB.o lq.o.steps) mw.o (xD.o F (Yd C9.o)).1 (xD.o F (Yd C9.o)).2 tj.o.1 tj.o.2)
     have oY:=lh (show∀W M',MFr M1 M' W2 W->vC W w.heap.size 0 (.bool fr.strict)/\vC W w.heap.size 1 (vI fr.vars)/\vC W a.b 3 (.slice (some ⟨kg,0,none⟩) 3 I)/\vC W kg 2 (vP F.b)from
      λW M' f=>have g:=HS.o W M' (bc.o.trans f);⟨g.1,g.2.1,by have h:=g.2.2.2.2.1;rw[J.o]at h;exact h,((bc.o.trans f).cell ft.o yp.o).trans (jX.o 1 F C9.o)⟩)
     go_wp2_with fail
     refine o4 [(true,0),(true,1),(true,2),(true,3),(true,4),(true,5),(true,6),(true,7),(true,8),(false,9),(true,10),(true,11),(true,12)] [13,14,15] (λW=>vC W w.heap.size 0 (.bool fr.strict)/\vC W w.heap.size 1 (vI fr.vars)/\vC W a.b 3 (.slice (some ⟨kg,0,none⟩) 3 I)/\vC W kg 2 (vP F.b)) (oY.o _ _ (.drew (.refl _ _))) (λbw=>?_);refine iB ?_;intro K hK;refine Zyx ?_;clear hK K q0 q1 q2 z0 z1 z2 m0 m1 m2;intro W3 M3 b3 k3 n3 t3 fj HB3 bP
     refine zD ?_;refine Xi ?_;intro q0 q1 q2 z0 z1 z2;obtain⟨r3,df⟩:=zX (D (F.nt C.N) sc fr s2)
     rw[<-df]at HB3;have an:R=r3:=by rw[HR.o,df]
     clear HR df;subst an;exact ZN
    .simp only[if_true]at HR;refine WZ ?_;intro HY tj bS
     have oY:=lh (show∀W M',MFr M1 M' W2 W->vC W w.heap.size 0 (.bool fr.strict)/\vC W w.heap.size 1 (vI fr.vars)/\vC W a.b 3 (.slice (some ⟨kg,0,none⟩) 3 I)/\vC W kg 1 (vP y.b)from
      λW M' f=>have g:=HS.o W M' (bc.o.trans f);⟨g.1,g.2.1,by have h:=g.2.2.2.2.1;rw[J.o]at h;exact h,((bc.o.trans f).cell ft.o yp.o).trans (jX.o 0 y Hy.o)⟩)
     go_wp2_with fail
     refine o4 [(true,0),(true,1),(true,2),(true,3),(true,4),(true,5),(true,6),(true,7),(true,8),(false,9),(true,10),(true,11),(true,12)] [13,14,15] (λW=>vC W w.heap.size 0 (.bool fr.strict)/\vC W w.heap.size 1 (vI fr.vars)/\vC W a.b 3 (.slice (some ⟨kg,0,none⟩) 3 I)/\vC W kg 1 (vP y.b)) (oY.o _ _ (.drew (.refl _ _))) (λbw=>?_);exact Aaq
   .obtain⟨y,hy⟩:∃y,l[0]? =some y:=⟨_,Y6 Qe⟩
    have Hy:=lh hy;have J:=lh (show q=1 by rw[HQ.o];exact aG);have hR:=HR.o;rw[show(a.nt C.N).kid 1=y.nt C.N from pL.o 0 y hy]at hR;have HR:=lh hR;clear hR hy;by_cases h5:k1=5
    .subst h5;have pM:=NF.o.2.2.2.2 rfl;have eH:=eF.o.opens (d:=d) (outer:=sc) (object:=n1) (owner:= -2) (by have :=gY.o.lo;omega) (by have h1:=gY.o.hi;have h2:=lq.o.ls;omega) (Int.le_trans Qg pM.1) pM.2;have eG:=Wp jz.o.drew eF.o sc n1 (-2);obtain⟨nx,eC⟩:=zX s2.next
     obtain⟨so,aW⟩:=zX (s2.opens sc n1 (-2))
     have nA:=FAt.opens (gY.o.ext lq.o) eH.2;rw[<-aW,<-eC]at nA eG;rw[<-aW]at eH;have AY:so.steps=s2.steps:=Sm
     obtain⟨r3,df⟩:=zX (D (y.nt C.N) nx fr so)
     have an:R=r3:=by
      rw[df,eC,aW];have:=HR.o;simpa using this
     obtain⟨dP,jI,nj,Gt,lA,HY⟩:=gw df eG eH nA AY (re.o y (Yd Hy.o))
     have oY:=lh (show∀W M',MFr M1 M' W1 W->vC W w.heap.size 0 (.bool fr.strict)/\vC W w.heap.size 1 (vI fr.vars)/\vC W a.b 3 (.slice (some ⟨kg,0,none⟩) 2 I)/\vC W kg 1 (vP y.b)/\vC W (w.heap.size+1+1+1) 1 (vI n1)from
      λW M' f=>have g:=HS.o W M' (d9.o.trans f);⟨g.1,g.2.1,by have h:=g.2.2.2.2.1;rw[J.o]at h;exact h,((d9.o.trans f).cell ft.o yp.o).trans (jX.o 0 y Hy.o),(rN.o W M' f).2.1⟩)
     clear HR pM eH eG eC aW nA AY df;subst an;go_wp2_with fail
     refine o4 [(true,0),(true,1),(true,2),(true,3),(true,4),(true,5),(true,6),(true,7),(true,8),(true,9),(true,10),(true,12),(false,11),(false,13),(true,14),(true,15),(true,16)] [17,18,19] (λW=>vC W w.heap.size 0 (.bool fr.strict)/\vC W w.heap.size 1 (vI fr.vars)/\vC W a.b 3 (.slice (some ⟨kg,0,none⟩) 2 I)/\vC W kg 1 (vP y.b)/\vC W (w.heap.size+1+1+1) 1 (vI n1)) (oY.o _ _ (.drew (.refl _ _))) (λbw=>?_)
     refine iB ?_;intro K hK;refine jI.o.mono ?_;rintro e W2⟨rfl,M2,aO,ap⟩;have Z:=(MFr.drew (.refl M1 W1)).trans ap;refine hK _ _ (oY.o _ _ Z) ?_;clear hK K q0 q1 q2 z0 z1 z2 m0 m1 m2;have Gu:=(d9.o.trans Z).tree HY.o.1 HY.o.2;have bS:=lh (iU.o.from aO nj.o.1 Gt.o (by have h1:=HB.o;have h2:=lq.o.steps;have h3:=lA.o;omega) (by rw[lA.o];exact mw.o) (xD.o y (Yd Hy.o)).1 (xD.o y (Yd Hy.o)).2 Gu.1 Gu.2 W2 (Y2 _ _));rw[<-dP.o]at bS;have bc:=lh (d9.o.trans Z)
     have jq:=lh Z;clear aO ap Z Gu;refine Ze (λK hK=>?_);go_simp
     refine bS.o.mono ?_;rintro e W3⟨M3,b3,k3,n3,t3,fj,rfl,bo⟩;refine hK _ _ (oY.o _ _ (jq.o.trans bo.2.1)) ?_;clear hK K;have HB3:=lh bo;have bP:=lh (bc.o.trans bo.2.1);clear bo;refine zD ?_;refine Xi ?_;intro q0 q1 q2 z0 z1 z2;exact ZN
    .have b5:(k1 !=5)=true:=by simp[h5]
     have an:R=(s2,.error (.thr (.say xn))):=by
      have:=HR.o;simp only[h5,if_false]at this;exact this
     clear HR h5;subst an;have HP:=lh (LW jz.o.drew xn)
     have ye:=lh (show∀W M',MFr M1 M' W1 W->vC W (w.heap.size+1+1) 0 (vI 0)/\vC W (w.heap.size+1+1) 1 (vI 0)/\vC W (w.heap.size+1+1) 2 (.string ⟨#[]⟩)from
      λW' M' f=>⟨(bR.o.fr (d9.o.trans f)).cell rfl,(bR.o.fr (d9.o.trans f)).cell rfl,(bR.o.fr (d9.o.trans f)).cell rfl⟩)
     go_wp2_with fail
     refine o4 [(true,0),(false,1),(true,2)] [3,4] (λW=>vC W (w.heap.size+1+1) 0 (vI 0)/\vC W (w.heap.size+1+1) 1 (vI 0)/\vC W (w.heap.size+1+1) 2 (.string ⟨#[]⟩)) ⟨m0,m1,m2⟩ (λbw=>?_);refine iB ?_;intro K hK;refine Zue ?_;intro W3 fj j9 hB3 hF3';refine hK _ _ (ye.o _ _ hF3') ?_;clear hK K q0 q1 q2 z0 z1 z2 m0 m1 m2;obtain⟨q0,q1,q2,z0,z1,z2⟩:=(HLR.o.fr (d9.o.trans hF3')).six;obtain⟨dH,bP,iS⟩:=ds (jz.o.drew.below hB3) (d9.o.trans hF3') j9
     clear hF3' j9 hB3;refine pU ?_;refine Z1 ?_;go_wp2;refine Yp (v:=.tuple #[.bool false,.agg #[vI 0,vI 0,.string ⟨#[]⟩],fj]) ?_ rfl ?_;·exact xY
     .exact Zvb
   .have an:R=(s2,.ok (true,⟨k1,n1,t1⟩)):=HR.o;clear HR;subst an;go_wp2_with fail
    refine o4 [(true,0),(true,1)] [2,3] (λW=>vC W (w.heap.size+1+1+1) 0 (vI k1)/\vC W (w.heap.size+1+1+1) 1 (vI n1)/\vC W (w.heap.size+1+1+1) 2 (.string t1)) (rN.o _ _ (.drew (.refl _ _))) (λbw=>?_);refine pU ?_;refine Z1 ?_;go_wp2;refine Yp (v:=.tuple #[.bool true,.agg #[vI k1,vI n1,.string t1],.nilIface]) ?_ rfl ?_;·exact xY
    .exact .fine' HLR.o HFz.o jz.o.drew (d9.o.trans (.drew (.refl _ _)))
   .have an:R=(s2,.error (.thr ⟨k1,n1,t1⟩)):=HR.o;clear HR;subst an;have iW:w.heap.size+1+1≠w.heap.size+1:=by omega
    have cF:w.heap.size+1+1+1≠w.heap.size+1:=Qe
    have PG:=(HLR.o.fr d9.o).lt;go_wp2_with fail
    refine v7 (.take 0 (.take 1 (.take 2 (.take 5 (.two 3 (.take 4 (.go 6 (.go 7 .nil))) 6 (.go 3 (.take 4 (.go 7 .nil)))))))) 7 (λW=>vC W (w.heap.size+1+1) 0 (vI 0)/\vC W (w.heap.size+1+1) 1 (vI 0)/\vC W (w.heap.size+1+1) 2 (.string ⟨#[]⟩)/\vC W (w.heap.size+1+1+1) 0 (vI k1)/\vC W (w.heap.size+1+1+1) 1 (vI n1)/\vC W (w.heap.size+1+1+1) 2 (.string t1)) ⟨m0,m1,m2,b0,b1,DD⟩ ?_;refine ra ?_
    have Kl:∀W,MFr M1 M1 W1 W->∀x0 x1 x2,(Lo C M1 w ((((W.setCell ⟨w.heap.size+1,0,none⟩ x0).setCell ⟨w.heap.size+1,1,none⟩ x1).setCell ⟨w.heap.size+1,2,none⟩ x2)) (w.heap.size+1+1) #[vI 0,vI 0,.string ⟨#[]⟩] 71)/\
     Lo C M1 z ((((W.setCell ⟨w.heap.size+1,0,none⟩ x0).setCell ⟨w.heap.size+1,1,none⟩ x1).setCell ⟨w.heap.size+1,2,none⟩ x2)) (w.heap.size+1+1+1) #[vI k1,vI n1,.string t1] 71:=λW f x0 x1 x2=>
     ⟨(((bR.o.fr (d9.o.trans f)).apart iW 0 x0).apart iW 1 x1).apart iW 2 x2,(((pA.o.fr f).apart cF 0 x0).apart cF 1 x1).apart cF 2 x2⟩
    have Km:=lh Kl;clear Kl q0 q1 q2 z0 z1 z2;refine Zu ?_;apply Abn (H:=YW C M w s2 M1 (w.heap.size+1) ⟨k1,n1,t1⟩)
    .intro cg;refine oK (λK hK=>?_);have C':=(Z2 W1 (mc ⟨k1,n1,t1⟩)).drew;have O:MFr M1 M1 W1 (W1.alloc (mc ⟨k1,n1,t1⟩)).drew:=.of_below C';refine hK _ _ ⟨(bR.o.fr (d9.o.trans O)).cell rfl,(bR.o.fr (d9.o.trans O)).cell rfl,(bR.o.fr (d9.o.trans O)).cell rfl,rN.o _ _ O⟩ ?_;clear hK K;obtain⟨W2,o⟩:=zX ((W1.alloc (mc ⟨k1,n1,t1⟩)).drew)
     have Kn:ax C M1 W2 (.thr ⟨k1,n1,t1⟩) (sN W1.heap.size):=⟨_,rfl,by rw[o];exact Yq W1 _,jz.o.fresh (Y0 _)⟩
     rw[<-o]at C' O;unfold mc LVal.arr at o;simp only at o;obtain⟨nP,bc,aP,fA⟩:=gp Kn O C' o;obtain⟨q0,q1,q2,z0,z1,z2⟩:=(HLR.o.fr (d9.o.trans bc.o)).six;rw[<-fA.o];clear Kn O C' o;refine UQ ?_;refine oK (λK hK=>?_);have m:=Km.o W2 bc.o (vI 0) (vI 0) (.string ⟨#[]⟩);refine hK _ _ ⟨m.1.cell rfl,m.1.cell rfl,m.1.cell rfl,m.2.cell rfl,m.2.cell rfl,m.2.cell rfl⟩ ?_;clear hK K m;try simp only[Act.put,zA,zB,zC]
     refine VY ?_;obtain⟨g1,g2,g3,g4⟩:=(HLR.o.fr (d9.o.trans bc.o)).fill (x':=(vI 0)) (y':=(vI 0)) (z':=.string ⟨#[]⟩) (jz.o.below aP.o) (HFz.o.trans (d9.o.trans bc.o)) HLR.o.late;have u:YW C M w s2 M1 (w.heap.size+1) ⟨k1,n1,t1⟩ _ W1.heap.size:=⟨g1,g2,g4 _ _ nP.o,g3⟩
     clear g1 g2 g3 g4 q0 q1 q2 z0 z1 z2;generalize((W2.setCell ⟨w.heap.size+1,0,none⟩ (vI 0)).setCell ⟨w.heap.size+1,1,none⟩ (vI 0)).setCell ⟨w.heap.size+1,2,none⟩ (.string ⟨#[]⟩)=W3 at u ⊢;generalize W1.heap.size=U at u ⊢;exact cg.o W3 U u
    .intro cg;obtain⟨q0,q1,q2,z0,z1,z2⟩:=(HLR.o.fr d9.o).six;refine oK (λK hK=>?_);obtain⟨W2,o⟩:=zX (((W1.setCell ⟨w.heap.size+1,0,none⟩ (vI 0)).setCell ⟨w.heap.size+1,1,none⟩ (vI 0)).setCell ⟨w.heap.size+1,2,none⟩ (.string ⟨#[]⟩))
     have m:=Km.o W1 (.refl _ _) (vI 0) (vI 0) (.string ⟨#[]⟩);have ba:W2.heap.size=W1.heap.size:=by rw[o];simp[World.setCell]
     obtain⟨g1,g2,g3,g4⟩:=(HLR.o.fr d9.o).fill (x':=(vI 0)) (y':=(vI 0)) (z':=.string ⟨#[]⟩) jz.o (HFz.o.trans d9.o) HLR.o.late;rw[<-o]at m g1 g2 g3;have hB3:=(Z2 W2 (mc ⟨k1,n1,t1⟩)).drew;have u:YW C M w s2 M1 (w.heap.size+1) ⟨k1,n1,t1⟩ (W2.alloc (mc ⟨k1,n1,t1⟩)).drew W1.heap.size:=
      ⟨g1.below hB3,g2.trans (.of_below hB3),⟨_,rfl,by rw[<-ba];exact Yq W2 _,by rw[<-ba];exact g1.fresh (Y0 _)⟩,g3.fr (.of_below hB3)⟩
     unfold mc LVal.arr at u;simp only at u;have Y:=lh u;have fA:=lh o;have Gv:=Yu (m.1.cell (i:=0) rfl) (Yu (m.1.cell (i:=1) rfl) (Yu (m.1.cell (i:=2) rfl) (Yu (m.2.cell (i:=0) rfl) (Yu (m.2.cell (i:=1) rfl) (m.2.cell (i:=2) rfl)))));have sR:=m.1.bel (Z2 W2 (mc ⟨k1,n1,t1⟩));have sS:=m.2.bel (Z2 W2 (mc ⟨k1,n1,t1⟩))
     have wG:=Yu (sR.cell (i:=0) rfl) (Yu (sR.cell (i:=1) rfl) (Yu (sR.cell (i:=2) rfl) (Yu (sS.cell (i:=0) rfl) (Yu (sS.cell (i:=1) rfl) (sS.cell (i:=2) rfl)))));unfold mc LVal.arr at wG;simp only at wG;have iF:=lh wG;rw[o]at Gv;refine hK _ _ Gv ?_;clear hK K m g1 g2 g3 g4 o Gv q0 q1 q2 z0 z1 z2 hB3 u wG sR sS ba;refine U9 ?_;intro K hK;rw[<-fA.o];refine hK _ _ iF.o ?_;clear hK K;refine UQ ?_;refine VY ?_;have u:=Y.o;clear Y
     generalize(W2.alloc (.cells #[vI k1,vI n1,.string t1] 90)).drew=W3 at u ⊢;generalize W1.heap.size=U at u ⊢;exact cg.o W3 U u
    .intro W3 U u;obtain⟨r0,r1,r2,-,-,-⟩:=u.2.2.2.six;have Y:=lh u;clear u;go_wp2;refine Yp (v:=.tuple #[.bool false,.agg #[vI 0,vI 0,.string ⟨#[]⟩],sN U]) ?_ rfl ?_;·simp[results,results62,go_sem,r0,r1,r2,sN]
     .exact⟨M1,Y.o.1,Y.o.2.1,false,LVal.zero,sN U,rfl,Y.o.2.2.1⟩
   .have an:R=({s2 with last:=⟨k1,n1,t1⟩},.ok (false,⟨0,0,⟨#[]⟩⟩)):=HR.o;clear HR;subst an;have AZ:=jz.o.cell 14 (vI s2.last.kind) Qq;have A0:=jz.o.cell 15 (vI s2.last.n) Qq;have Ba:=jz.o.cell 16 (.string s2.last.s) Qq;have Da:=jz.o.fz 14;have Db:=jz.o.fz 15;have Dc:=jz.o.fz 16;obtain⟨g1,g2⟩:=Zcx jz.o ⟨k1,n1,t1⟩;obtain⟨W2,o⟩:=zX (((W1.setCell ⟨C.mb,14,none⟩ (vI k1)).setCell ⟨C.mb,15,none⟩ (vI n1)).setCell ⟨C.mb,16,none⟩ (.string t1))
    simp only at g1 g2;rw[<-o]at g1 g2;obtain⟨bU,bc,fA⟩:=ds g1 (d9.o.trans g2) o;clear g1 g2 o;go_wp2_with fail
    rw[<-fA.o];clear q0 q1 q2 z0 z1 z2 m0 m1 m2 f0 f1 d0 d1 d3 nW b0 b1 DD AZ A0 Ba Da Db Dc;refine UN ?_;intro m0 m1 m2 q0 q1 q2 z0 z1 z2;exact tq8
end
section
variable {C:RCtx}{M M1:MRep}{w z W:kV}{s:MSt}{B:Nat}{a x0:ATree}{l:List ATree}{V:VF}{D:DF}{b sc:Int}{fr:Frm}{d:Nat}{A:Act}{K:Act->kV->Prop}{M2:MRep}{W2:kV}{RR:MSt×Except Er LVal}
def Zeh(h:MAt C M w s)(c:Int):MAt C M (w.setCell ⟨C.mb,13,none⟩ (vI c)) {s with calls:=c}/\MFr M M w (w.setCell ⟨C.mb,13,none⟩ (vI c)):=
 h.scalar Qg rfl rfl rfl rfl rfl (λi hi=>by match i,hi with
  |0,_=>decide
  |1,_=>decide
  |2,_=>decide
  |3,_=>decide) ⟨_,h.cell 13 (vI s.calls) Qq⟩ (λo x hx=>by
  simp only[ms,List.mem_cons,Prod.mk.injEq,List.not_mem_nil,or_false]at hx ⊢;rcases hx with h|h|h|h|h|h|h|h|h|h|h<;>(obtain⟨rfl,rfl⟩:=h;simp))
def Zmu(h:MAt C M W s){mx o:Nat}{g m:Int}{lt:kB}(lm:Lo C M w W mx #[vP C.mb] 61)(p:Lo C M w W o #[vI g,vI m,.string lt] 71)(Z:0<=s.calls/\s.calls<=41)(u:FrameMode) :
 CallsD Tryz.prog 143 #[vP mx,vP o] u W λe U w'=>U=u/\(e=.returned (.tuple #[])/\Does C M W {s with calls:=s.calls-1,last:=⟨g,m,lt⟩} w'):=by
 obtain⟨y,F⟩:=Zeh h (s.calls-1);obtain⟨I,J⟩:=Zcx y ⟨g,m,lt⟩;have O:=lh (show Does C M W {s with calls:=s.calls-1,last:=⟨g,m,lt⟩} _ from⟨M,I,F.trans J⟩);dsimp only at O
 have m0:=lm.cell (i:=0) rfl;obtain⟨b0,b1,b2,-,-,-⟩:=p.six;have dL:mx≠C.mb:=λe=>lm.free (e▸h.mbHas);have sm:o≠C.mb:=λe=>p.free (e▸h.mbHas);have De:=h.cell 13 (vI s.calls) Qq;have Bb:=h.cell 14 (vI s.last.kind) Qq;have Bc:=h.cell 15 (vI s.last.n) Qq;have uc:=h.cell 16 (.string s.last.s) Qq;have Ko:=h.fz 13;have Da:=h.fz 14;have Db:=h.fz 15;have Dc:=h.fz 16;have X:IntKind.i64.wrap (s.calls-1)=s.calls-1:=Yv _ Qe
 obtain⟨kc,Y⟩:=zX (s.calls-1)
 rw[<-Y]at X;clear y F I J h lm p;go_enter_d func143,ntmps143
 go_wp2;go_end0
 exact⟨rfl,O.o⟩
def Zi3(hc:CaC C M w z a x0 l B fr){r:MSt×Except Er LVal}(U:MAt C M2 W2 r.1)(m:MFr M M2 z W2)(NG:r.1.calls=s.calls+1)(mi:0<=s.calls/\s.calls<=40){g:Nat}(X:Lo C M2 w W2 g #[vI s.last.kind,vI s.last.n,.string s.last.s] 71)
 (hp:g≠w.heap.size+1+1)(y:RR=Wy s r){k n:Int}{t:kB}{ev:Value}(F:match r.2 with| .ok v=>v=⟨k,n,t⟩/\ev=.nilIface| .error x=>ax C M2 W2 x ev){o:Array Value}
 (I:o.getD 8 undef=.pointer (some ⟨w.heap.size+1+1,0,none⟩))(J:o.getD 9 undef=ev) :
 Go.Leaves Tryz.prog f133 o (λe w'=>bK C M w RR e w') [{target:=.fn (.func 143) #[vP w.heap.size,vP g],args:=#[]}] .returning
  (((W2.setCell ⟨w.heap.size+1+1,0,none⟩ (vI k)).setCell ⟨w.heap.size+1+1,1,none⟩ (vI n)).setCell ⟨w.heap.size+1+1,2,none⟩ (.string t)):=by
 have Y:=hc.lr.fr m;have Z:=hc.lm.fr m;have fC:=(MFr.of_below (M:=M) hc.below).trans m;obtain⟨g1,g2,g3,g4⟩:=Y.fill (x':=(vI k)) (y':=(vI n)) (z':=.string t) U fC Qe;have p:w.heap.size≠w.heap.size+1+1:=Qe
 have NK:=((Z.beside (c':=#[]) (T':=0) p 0 (vI k)).beside (c':=#[]) (T':=0) p 1 (vI n)).beside (c':=#[]) (T':=0) p 2 (.string t);have Gw:=((X.beside (c':=#[]) (T':=0) hp 0 (vI k)).beside (c':=#[]) (T':=0) hp 1 (vI n)).beside (c':=#[]) (T':=0) hp 2 (.string t);generalize((W2.setCell ⟨w.heap.size+1+1,0,none⟩ (vI k)).setCell ⟨w.heap.size+1+1,1,none⟩ (vI n)).setCell ⟨w.heap.size+1+1,2,none⟩ (.string t)=W3 at *
 refine leaves_cons (f:=143) (args:=#[vP w.heap.size,vP g]) Qm (by simp[go_sem]) ?_;refine(Zmu g1 NK Gw Qe .returning).mono ?_;rintro e u' w4⟨rfl,rfl,O,fG,u⟩;obtain⟨q0,q1,q2,-,-,-⟩:=(g3.fr u).six;refine⟨.tuple #[.agg #[vI k,vI n,.string t],ev],?_,?_⟩
 .rw[Array.getD_eq_getD_getElem?]at I J;simp[results,results133,go_sem,I,J,q0,q1,q2]
 .have hs:({r.1 with calls:=r.1.calls-1,last:=s.last}:MSt)=(Wy s r).1:=rfl;have me:MAt C O w4 (Wy s r).1:=fG;refine⟨O,by rw[y];exact me,g2.trans u,?_⟩;rw[y];obtain⟨s9,q9⟩:=r;cases q9 with
  |error x9=>exact⟨⟨k,n,t⟩,ev,rfl,(g4 _ _ F).fr u⟩
  |ok v9=>
    obtain⟨rfl,rfl⟩:=F;rfl
end
noncomputable def i'(p:List Nat):Code:=Hr p (f144.body.getD .skip)
structure EnC(C:RCtx)(M:MRep)(w z:kV)(x:CloR)(pn bd:ATree)(B:Nat)(v:Value)(vs:List LVal):Prop where
 ok:C.Ok
 old:C.w0.heap.size<=w.heap.size
 below:kW w z
 lc:Lo C M w z w.heap.size #[x.a.ptr,vI x.scope,.bool x.strict] 149
 lr:Lo C M w z (w.heap.size+1) #[vI 0,vI 0,.string ⟨#[]⟩] 71
 tr:TreeAt z B x.a
 fre:x.a.free M
 kids:x.a.kids=[pn,bd]
 row:∃wA,VRow C M wA z v vs
 few:vs.length<=1500
 fo:Lp (x.a.nt C.N)
def ua(C:RCtx)(w:kV)(v:Value)(nx:Int)(bd:ATree)(l:List (Nat×Value)):List (Nat×Value):=
 (0,vP C.mb)::(2,v)::(4,vP w.heap.size)::(6,.pointer (some ⟨w.heap.size+1,0,none⟩))::(8,vI nx)::(9,vP bd.b)::l
section
variable {C:RCtx}{M M1:MRep}{w z W:kV}{s:MSt}{B:Nat}{x:CloR}{pn bd:ATree}{v:Value}{vs:List LVal}{nx:Int}{d:Nat}{A:Act}{K:Act->kV->Prop}{Q:Exit->Act->kV->Prop}
def EnC.two(h:EnC C M w z x pn bd B v vs):∃g m,2<=m/\m<=9223372036854775807/\∀p W,MFr M p z W->vC W w.heap.size 0 (vP x.a.b)/\vC W x.a.b 3 (.slice (some ⟨g,0,none⟩) 2 m)/\
 vC W g 0 (vP pn.b)/\W.cell? ⟨g,1,none⟩=some (vP bd.b):=by
 obtain⟨g,m,c3,u,F,o,y,h5⟩:=h.tr.row h.fre Rn;rw[h.kids]at c3 u o;refine⟨g,m,u,F,λp W f=>⟨(h.lc.fr f).cell rfl,(f.cell h.tr.lt h.fre.blk).trans c3,(f.cell y h5).trans (o 0 pn rfl),(f.cell y h5).trans (o 1 bd rfl)⟩⟩
theorem EnC.pnT(h:EnC C M w z x pn bd B v vs):TreeAt z B pn/\pn.free M:=⟨h.tr.kid Rn,h.fre.kid Rn⟩
theorem EnC.bdT(h:EnC C M w z x pn bd B v vs):TreeAt z B bd/\bd.free M:=⟨h.tr.kid Rn,h.fre.kid Rn⟩
theorem Zb5{sc:Int}{p:NT}{l:List NT}{vs:List LVal}{s:MSt}:MSt.params sc (p::l) vs s=MSt.params sc l vs.tail (s.bindTo sc p.text (vs.headD LVal.zero)):=rfl
def Zlj(hc:EnC C M w z x pn bd B v vs)(hM:MAt C M1 W s)(hF:MFr M M1 z W)(hI:Inv s (d+pn.kids.length))(hv:∀u∈vs,VQ s u)(hn:pn.kids.length<=1500)(fr:FrA 240 (ua C w v nx bd []) [] A)
 (HK:∀A' W' M',FrA 240 (ua C w v nx bd []) [] A'->MAt C M' W' (MSt.params nx (pn.kids.map (ATree.nt C.N)) vs s)->MFr M1 M' W W'->K A' W')(hQ:∀c a d v w,Q (.panic c) (Act.put a d v) w->Q (.panic c) a w) :
 (i' [1,1,1,0]).wp Tryz.prog (Exit.then K Q) A W:=by
 obtain⟨S,hS⟩:=zX (MSt.params nx (pn.kids.map (ATree.nt C.N)) vs s)
 rw[<-hS]at HK;obtain⟨wA,ae⟩:=hc.row;obtain⟨pv,cv,gV,jP,iR,iL⟩:=ae.form;obtain⟨kg,kc,AV,y9,hk⟩:=hc.two;have hpt:=hc.pnT;obtain⟨pp,cp,ch,bq,d7,cW⟩:=lL.slice hpt.1.rowOf;have wC:=(hF.tree hpt.1 hpt.2).1.c3;rw[ch]at wC;obtain⟨f0,f1,f2,f3⟩:=hk M1 W hF;have HO:=lh (Y4 (Y4 hc.old hc.below.size) hF.size);have qw:=lh ch;refine Aab ?_;intro pE;obtain⟨ue,Kp,HKK,fE,HM,HV⟩:=gw cW (hF.tree hpt.1 hpt.2) HK hQ hM hv;obtain⟨P,hP⟩:=zX pn.kids
 obtain⟨q,hq⟩:=zX P.length
 obtain⟨n,bH⟩:=zX vs.length
 have Ep:=lh (show n<=1500 by rw[bH];exact hc.few);rw[<-hP,<-hq]at hI wC bq hn;rw[<-hP]at hS ue;rw[<-bH]at gV jP;obtain⟨il,HS,HP,HQ,HN⟩:=gq hI hS hP hq bH;unfold maxLen at iR;unfold ua at fr;subst gV;obtain⟨xt,rfl,e0,e2,e4,e6,e8,e9,-⟩:=Vj fr;rw[e0,e2,e4,e6,e8,e9];clear e0 e2 e4 e6 e8 e9 fr hc hM hF hI hv HK hQ hS ae iL hk hpt ch cW hP hq bH;conv=>arg 2;whnf
 go_wp2_with fail
 clear f0 f1 f2 f3 wC;go_loopw [56] (λi wr=>∃(k:Nat) (X:MRep) (m:MSt),k<=q/\i=(vI k)/\Hid (MAt C X wr m)/\Hid (MFr M1 X W wr)/\Hid (Inv m (d+(q-k)))/\Hid (Ext s m)/\Hid (S=MSt.params nx ((P.drop k).map (ATree.nt C.N)) (vs.drop k) m)) (λi _=>q-(intOf i).toNat)
 case atStart=>exact⟨0,M1,s,Yh _,rfl,HM,lh (.refl _ _),il,lh (.refl _),HS⟩
 case round=>
  obtain⟨k,X,m,hk,rfl,HMk,I,eu,dJ,HRk⟩:=hrel;by_cases bY:k<q
  .obtain⟨y,hy⟩:∃y,P[k]? =some y:=⟨_,Y6 Ra⟩
   obtain⟨g0,hp⟩:=ue.o k y hy;subst hp;have ez:y∈pn.kids:=by rw[<-HP.o];exact Yd hy
   have dy:=I.o.tree Kp.o.1 Kp.o.2;have ae:=dy.1.rowOf;rw[qw.o]at ae;have cx:wr.cell? ⟨g0,k,none⟩=some (vP y.b):=lL.cell ae (b:=g0) rfl (by rw[<-HP.o];exact hy);have e9:P.drop k=y::P.drop (k+1):=by
    exact Zz0
   have Df:=lh (Yu (dy.1.kid ez) (dy.2.kid ez));have aQ:=Z2 wr (.cells #[vI 0,vI 0,.string ⟨#[]⟩] 71);have uf:=Lo.new (wE:=W) HMk.o I.o.size HO.o #[vI 0,vI 0,.string ⟨#[]⟩] 71;have bX:=lh (HMk.o.below aQ);have bA:=lh (MFr.of_below (M:=X) aQ);clear dy ae ez hy aQ;rcases ul:vs[k]? with _|u
   .have CX:¬k<n:=by rw[HN.o];exact λh=>by rw[Y6 h]at ul;cases ul
    have um:vs.drop k=[]:=List.drop_eq_nil_of_le Re;have Gx:vs.drop (k+1)=[]:=List.drop_eq_nil_of_le Re;have j8:LVal.zero.ok m.H.objects.length:=sP _;have jY:=lh uf;clear uf ul;go_wp2_with fail
    clear CX;have J:=jY.o;have Y:=bX.o;have U:=bA.o;clear jY bX bA;generalize wr.alloc (.cells #[vI 0,vI 0,.string ⟨#[]⟩] 71)=W2 at J Y U ⊢;generalize wr.heap.size=o at J Y U ⊢;obtain⟨gS,bU,bc⟩:=ds J Y U
    have nR:=lh (show∀W' M',MFr X M' W2 W'->vC W' y.b 1 (.string y.text)/\vC W' o 0 (vI 0)/\vC W' o 1 (vI 0)/\vC W' o 2 (.string ⟨#[]⟩)from
     λW' M' f=>⟨((U.trans f).tree Df.o.1 Df.o.2).1.c1,(J.fr f).cell rfl,(J.fr f).cell rfl,(J.fr f).cell rfl⟩)
    have Z:=Z5a (d:=d+(q-(k+1))) (sc:=nx) (name:=y.text) (v:=LVal.zero) (eu.o.less Qe) j8;obtain⟨cd,gj⟩:=zX ((m.H.declare nx y.text 0 LVal.zero).2)
    have eV:=Wm Y.drew eu.o nx y.text 0 LVal.zero;have qE:=λ(W':kV) (M':MRep) (h:MAt C M' W' m)=>Zf2 h eu.o nx y.text LVal.zero;simp only[LVal.agg]at eV qE;rw[<-gj]at eV;have l9:=lh eV;have Be:=lh qE;obtain⟨sb,aM⟩:=zX (m.bindTo nx y.text LVal.zero)
    have O:=HRk.o;rw[e9,um,List.map_cons,Zb5,sw]at O;rw[show([]:List LVal).tail=vs.drop (k+1)from Gx.symm,show([]:List LVal).headD LVal.zero=LVal.zero from rfl]at O;rw[<-aM]at Z O;obtain⟨bD,tv,tz,cD,qF,d9⟩:=gw O Z.1 (dJ.o.trans Z.2) aM gj (I.o.trans U);clear J Y U Z eV qE gj aM O j8 cx e9 um
    refine Z9 [(true,0),(true,1),(true,2),(true,3),(true,4),(true,5),(true,6),(true,7),(true,8)] [9,10] (λW=>vC W y.b 1 (.string y.text)/\vC W o 0 (vI 0)/\vC W o 1 (vI 0)/\vC W o 2 (.string ⟨#[]⟩)) Qh Qh (λc a d v w h=>fE.o c a d v w h) (nR.o _ _ (.drew (.refl _ _))) (λbw=>?_);refine pU ?_;refine Z1 ?_;go_wp2_with fail
    refine l9.o.mono ?_;rintro e W3⟨rfl,M3,dE,bh⟩;have bP:=lh ((MFr.drew (.refl X W2)).trans bh);by_cases fZ:cd=0
    .have cE:m.declare nx y.text 0 LVal.zero=sb:=by rw[cD.o];unfold MSt.bindTo;rw[Y5 (qF.o▸fZ)]
     rw[cE]at dE;have dH:=lh dE;exact ZG
    .have cE:m.declare nx y.text 0 LVal.zero=m:=by unfold MSt.declare;rw[Z6q (qF.o▸fZ)];rfl
     have iZ:m.write nx y.text LVal.zero=sb:=QQ
     rw[cE]at dE;have hw:=Be.o _ _ dE.drew;rw[iZ]at hw;have HW:=lh hw;rw[show cL cd=.iface 35 (vI cd) by unfold cL;rw[Y3 fZ]];clear dE bh cE iZ fZ hw;go_wp2_with fail
     refine Z9 [(true,0),(true,1),(true,2),(true,3),(true,4),(true,5),(true,6),(true,7),(true,8)] [9] (λW=>vC W y.b 1 (.string y.text)/\vC W o 0 (vI 0)/\vC W o 1 (vI 0)/\vC W o 2 (.string ⟨#[]⟩)) Qh Qh (λc a d v w h=>fE.o c a d v w h) (nR.o _ _ (bP.o.trans (.drew (.refl _ _)))) (λbw=>?_);exact YF
   .have CX:k<n:=by rw[HN.o];exact(List.getElem?_eq_some_iff.1 ul).1
    have um:vs.drop k=u::vs.drop (k+1):=by
     obtain⟨h1,h2⟩:=List.getElem?_eq_some_iff.1 ul;rw[Yt h1,h2]
    have j8:u.ok m.H.objects.length:=VQ.ext (HV.o u (Yd ul)) dJ.o;obtain⟨gv,sT,fN⟩:=pE.o k u ul;subst sT;obtain⟨p,F,us⟩:=u;obtain⟨b0,b1,b2⟩:=fN X (wr.alloc (.cells #[vI 0,vI 0,.string ⟨#[]⟩] 71)) (I.o.trans bA.o);simp only at b0 b1 b2;have jY:=lh (Lo.new (wE:=W) HMk.o I.o.size HO.o #[vI p,vI F,.string us] 71);have hB3:=Z2 wr (.cells #[vI p,vI F,.string us] 71);have dH:=lh (HMk.o.below hB3);have bP:=lh (MFr.of_below (M:=X) hB3);clear fN ul uf hB3
    go_wp2_with fail
    clear CX;have J:=jY.o;have Y:=dH.o;have U:=bP.o;clear jY bX bA dH bP b0 b1 b2;generalize wr.alloc (.cells #[vI p,vI F,.string us] 71)=W2 at J Y U ⊢;generalize wr.heap.size=o at J Y U ⊢;obtain⟨gS,bU,bc⟩:=ds J Y U
    have nR:=lh (show∀W' M',MFr X M' W2 W'->vC W' y.b 1 (.string y.text)/\vC W' o 0 (vI p)/\vC W' o 1 (vI F)/\vC W' o 2 (.string us)from
     λW' M' f=>⟨((U.trans f).tree Df.o.1 Df.o.2).1.c1,(J.fr f).cell rfl,(J.fr f).cell rfl,(J.fr f).cell rfl⟩)
    have Z:=Z5a (d:=d+(q-(k+1))) (sc:=nx) (name:=y.text) (v:=⟨p,F,us⟩) (eu.o.less Qe) j8;obtain⟨cd,gj⟩:=zX ((m.H.declare nx y.text 0 ⟨p,F,us⟩).2)
    have eV:=Wm Y.drew eu.o nx y.text 0 ⟨p,F,us⟩;have qE:=λ(W':kV) (M':MRep) (h:MAt C M' W' m)=>Zf2 h eu.o nx y.text ⟨p,F,us⟩;simp only[LVal.agg]at eV qE;rw[<-gj]at eV;have l9:=lh eV;have Be:=lh qE;obtain⟨sb,aM⟩:=zX (m.bindTo nx y.text ⟨p,F,us⟩)
    have O:=HRk.o;rw[e9,um,List.map_cons,Zb5,sw]at O;rw[show((⟨p,F,us⟩:LVal)::vs.drop (k+1)).tail=vs.drop (k+1)from rfl,show((⟨p,F,us⟩:LVal)::vs.drop (k+1)).headD LVal.zero=⟨p,F,us⟩from rfl]at O;rw[<-aM]at Z O;obtain⟨bD,tv,tz,cD,qF,d9⟩:=gw O Z.1 (dJ.o.trans Z.2) aM gj (I.o.trans U);clear J Y U Z eV qE gj aM O j8 cx e9 um
    refine Z9 [(true,0),(true,1),(true,2),(true,3),(true,4),(true,5),(true,6),(true,7),(true,8)] [9,10] (λW=>vC W y.b 1 (.string y.text)/\vC W o 0 (vI p)/\vC W o 1 (vI F)/\vC W o 2 (.string us)) Qh Qh (λc a d v w h=>fE.o c a d v w h) (nR.o _ _ (.drew (.refl _ _))) (λbw=>?_);refine pU ?_;refine Z1 ?_;go_wp2_with fail
    refine l9.o.mono ?_;rintro e W3⟨rfl,M3,dE,bh⟩;have bP:=lh ((MFr.drew (.refl X W2)).trans bh);by_cases fZ:cd=0
    .have cE:m.declare nx y.text 0 ⟨p,F,us⟩=sb:=by rw[cD.o];unfold MSt.bindTo;rw[Y5 (qF.o▸fZ)]
     rw[cE]at dE;have dH:=lh dE;exact ZG
    .have cE:m.declare nx y.text 0 ⟨p,F,us⟩=m:=by unfold MSt.declare;rw[Z6q (qF.o▸fZ)];rfl
     have iZ:m.write nx y.text ⟨p,F,us⟩=sb:=QQ
     rw[cE]at dE;have hw:=Be.o _ _ dE.drew;rw[iZ]at hw;have HW:=lh hw;rw[show cL cd=.iface 35 (vI cd) by unfold cL;rw[Y3 fZ]];clear dE bh cE iZ fZ hw;go_wp2_with fail
     refine Z9 [(true,0),(true,1),(true,2),(true,3),(true,4),(true,5),(true,6),(true,7),(true,8)] [9] (λW=>vC W y.b 1 (.string y.text)/\vC W o 0 (vI p)/\vC W o 1 (vI F)/\vC W o 2 (.string us)) Qh Qh (λc a d v w h=>fE.o c a d v w h) (nR.o _ _ (bP.o.trans (.drew (.refl _ _)))) (λbw=>?_);exact YF
  .have aT:k=q:=by omega
   subst aT;have O:=HRk.o;rw[List.drop_eq_nil_of_le Rp]at O;have an:S=m:=O;go_wp2_with fail
   exact HKK.o _ _ X ⟨rfl,⟨rfl,rfl,rfl,rfl,rfl,rfl,trivial⟩,rfl⟩ Rg I.o
theorem Zef:Zc.toList=[97,114,103,117,109,101,110,116,115]:=by kernel_rfl
def Zs3(hc:EnC C M w z x pn bd B v vs)(I:MFr M M1 z W)(hn:bd.kids.length<=1500){o:Bool}(fr:FrA 240 (ua C w v nx bd [(13,.bool o)]) [] A)
 (HK:∀J O,FrA 240 (ua C w v nx bd [(13,.bool (o||(bd.nt C.N).funcs.any λk=>Zh k.text Zc))]) [] J->kW W O->K J O) :
 (i' [1,1,1,1,1,0]).wp Tryz.prog (Exit.then K Q) A W:=by
 rw[YX]at HK;have m:=hc.bdT;have p:=I.tree m.1 m.2;have HL:=lh (ZZ W B bd p.1 Qe);obtain⟨P,hP⟩:=zX (bd.kids.filter xp)
 rw[<-hP]at HL HK;refine Zst ?_;intro nr;have U:=lh p.1;have HKK:=lh HK;unfold ua at fr;obtain⟨pv,nv,cv,rfl⟩:∃pv nv cv,v=.slice pv nv cv:=by
  exact OR
 obtain⟨xt,rfl,X,Y,Z,e6,e8,e9,uo,-⟩:=Vj fr;rw[X,Y,Z,e6,e8,e9,uo];clear X Y Z e6 e8 e9 uo fr hc I HK m p hP;unfold ATree.ptr at HL;conv=>arg 2;whnf
 go_wp2_with fail
 refine HL.o.mono ?_;rintro e w2⟨v2,rfl,g,F⟩;obtain⟨p2,jW,rfl,dI,fR,de⟩:=g.slice;refine OE ?_;intro q cU nq;rw[<-cU]at dI g ⊢;obtain⟨N2,gQ,HQ1,aP,gz⟩:=gq g de cU F (U.o.bel F);clear g F de cU HL U;go_wp2_with fail
 go_loopw [13,99] (λu i wr=>∃(k:Nat) (c:Bool),k<=q/\u=.bool c/\i=(vI k)/\wr=w2/\Hid ((o||(P.map (ATree.nt C.N)).any λk=>Zh k.text Zc)=(c||((P.drop k).map (ATree.nt C.N)).any λk=>Zh k.text Zc))) (λ_ i _=>q-(intOf i).toNat)
 case atStart=>exact⟨0,o,Yh _,rfl,rfl,rfl,lh (by rw[List.drop_zero])⟩
 case round=>
  exact AbE
def Zrw(hc:EnC C M w z x pn bd B v vs)(I:MFr M M1 z W)(hn:bd.kids.length<=1500){o:Bool}(fr:FrA 240 (ua C w v nx bd [(13,.bool o)]) [] A)
 (HK:∀J O,FrA 240 (ua C w v nx bd [(13,.bool (o||(bd.nt C.N).lets.any λk=>Zh k.text Zc))]) [] J->kW W O->K J O) :
 (i' [1,1,1,1,1,1,0]).wp Tryz.prog (Exit.then K Q) A W:=by
 rw[Z9k]at HK;have m:=hc.bdT;have p:=I.tree m.1 m.2;have HL:=lh (YR W B bd p.1 Qe);obtain⟨P,hP⟩:=zX (bd.kids.filter vV)
 rw[<-hP]at HL HK;refine Zst ?_;intro nr;have U:=lh p.1;have HKK:=lh HK;unfold ua at fr;obtain⟨pv,nv,cv,rfl⟩:∃pv nv cv,v=.slice pv nv cv:=by
  exact OR
 obtain⟨xt,rfl,X,Y,Z,e6,e8,e9,uo,-⟩:=Vj fr;rw[X,Y,Z,e6,e8,e9,uo];clear X Y Z e6 e8 e9 uo fr hc I HK m p hP;unfold ATree.ptr at HL;conv=>arg 2;whnf
 go_wp2_with fail
 refine HL.o.mono ?_;rintro e w2⟨v2,rfl,g,F⟩;obtain⟨p2,jW,rfl,dI,fR,de⟩:=g.slice;refine OE ?_;intro q cU nq;rw[<-cU]at dI g ⊢;obtain⟨N2,gQ,HQ1,aP,gz⟩:=gq g de cU F (U.o.bel F);clear g F de cU HL U;go_wp2_with fail
 go_loopw [13,115] (λu i wr=>∃(k:Nat) (c:Bool),k<=q/\u=.bool c/\i=(vI k)/\wr=w2/\Hid ((o||(P.map (ATree.nt C.N)).any λk=>Zh k.text Zc)=(c||((P.drop k).map (ATree.nt C.N)).any λk=>Zh k.text Zc))) (λ_ i _=>q-(intOf i).toNat)
 case atStart=>exact⟨0,o,Yh _,rfl,rfl,rfl,lh (by rw[List.drop_zero])⟩
 case round=>
  exact AbE
theorem Znc{n:kB}{l:List kB}{sc:Int}:s.vars (n::l) sc=(s.declare sc n 0 LVal.zero).vars l sc:=rfl
def Zuk(hc:EnC C M w z x pn bd B v vs)(I:MAt C M1 W s)(J:MFr M M1 z W)(hm:bd.many<=1500)(hI:Inv s (d+(yi bd).length)){O:Value}(fr:FrA 240 (ua C w v nx bd [(21,O)]) [] A)
 (m:∀U o M',FrA 240 (ua C w v nx bd [(21,O)]) [] U->MAt C M' o (s.vars (bd.nt C.N).vars nx)->MFr M1 M' W o->K U o) :
 (i' [1,1,1,1,1,1,1,1,1,0]).wp Tryz.prog (Exit.then K Q) A W:=by
 rw[Wk]at m;have p:=hc.bdT;have X:=J.tree p.1 p.2;have HL:=lh (Z82 W B bd X.1 Qe);obtain⟨P,Y⟩:=zX (yi bd)
 obtain⟨S,u⟩:=zX (s.vars P nx)
 rw[<-Y]at HL m hI;rw[<-u]at m;obtain⟨HKK,HS,HM⟩:=ds m u I;unfold ua at fr;obtain⟨pv,nv,cv,rfl⟩:∃pv nv cv,v=.slice pv nv cv:=by
  exact OR
 obtain⟨xt,rfl,Z,e2,e4,e6,e8,e9,qG,-⟩:=Vj fr;rw[Z,e2,e4,e6,e8,e9,qG];clear Z e2 e4 e6 e8 e9 qG fr hc J m p X Y I u;unfold ATree.ptr at HL;conv=>arg 2;whnf
 go_wp2_with fail
 refine HL.o.mono ?_;rintro e w2⟨v2,rfl,cF,F,fw⟩;obtain⟨p2,jW,rfl,dI,fR,de⟩:=cF.form2;refine Zxc ?_;intro gP;refine OE ?_;intro q cU nq;have eL:=lh cF;have kN:=lh gP;rw[<-cU]at dI hI ⊢;obtain⟨gQ,HQ1,aP,bU,il⟩:=gq de cU F (HM.o.below F) hI;clear cF F de gP cU HL fw hI HM;go_wp2_with fail
 go_loopw [173] (λi wr=>∃(k:Nat) (Mk:MRep) (sk:MSt),k<=q/\i=(vI k)/\Hid (MAt C Mk wr sk)/\Hid (MFr M1 Mk w2 wr)/\Hid (Inv sk (d+(q-k)))/\Hid (S=sk.vars (P.drop k) nx)) (λi _=>q-(intOf i).toNat)
 case atStart=>exact⟨0,M1,s,Yh _,rfl,bU,lh (.refl _ _),il,lh Rs⟩
 case round=>
  obtain⟨k,Mk,sk,hk,rfl,HMk,HFk,eu,HRk⟩:=hrel;by_cases bY:k<q
  .obtain⟨y,hy⟩:∃y,P[k]? =some y:=⟨_,Y6 Qw⟩
   obtain⟨g0,hp⟩:=gQ.o k y hy;subst hp;obtain⟨mJ,je⟩:=kN.o g0 rfl;have cx:=(HFk.o.cell mJ je).trans (eL.o.cells rfl hy);have eV:=Wm HMk.o eu.o nx y 0 LVal.zero;simp only[LVal.agg,LVal.zero]at eV;have l9:=lh eV;have hR:=HRk.o;rw[show P.drop k=y::P.drop (k+1) by
    refine Xh ?_;intro hl he;rw[Yt hl,he],Znc]at hR
   have HR:=lh hR;have iO:=UW (d:=d+(q-(k+1))) (sc:=nx) (name:=y) (kind:=0) (v:=LVal.zero) (eu.o.less Qe) (sP _) Qg Qg;exact Aat
  .have aT:k=q:=by omega
   exact tu1 aP
theorem Zeq{o:Int}{i:Nat}{u:LVal}{l:List LVal}:MSt.argsPut o i (u::l) s=MSt.argsPut o (i+1) l (s.put o (MSt.argN i) u false):=rfl
theorem Zh7{o:Int}{i:Nat}:MSt.argsPut o i [] s=s:=rfl
def Zra(gm:K' C.w0)(hc:EnC C M w z x pn bd B v vs)(hM:MAt C M1 W s)(hF:MFr M M1 z W)(hI:Inv s (d+vs.length+3))(hv:∀u∈vs,VQ s u){o:Bool}(fr:FrA 240 (ua C w v nx bd [(13,.bool o)]) [] A)
 (HK:∀A' W' M',FrA 240 (ua C w v nx bd []) [] A'->MAt C M' W' (if o then s else s.argsObj nx vs)->MFr M1 M' W W'->K A' W')(hQ:∀c a d v w,Q (.panic c) (Act.put a d v) w->Q (.panic c) a w) :
 (i' [1,1,1,1,1,1,1,0]).wp Tryz.prog (Exit.then K Q) A W:=by
 obtain⟨wA,ae⟩:=hc.row;obtain⟨pv,cv,gV,jP,iR,iL⟩:=ae.form;have Gy:=hc.few;have HO:=lh (Y4 (Y4 hc.old hc.below.size) hF.size);refine Aab ?_;intro pE;obtain⟨wH,HKK,fE,HM,HV⟩:=gq gm HK hQ hM hv;obtain⟨n,bH⟩:=zX vs.length
 rw[<-bH]at gV jP Gy hI;have il:=lh hI;have HN:=lh bH;unfold maxLen at iR;unfold ua at fr;subst gV;obtain⟨xt,rfl,e0,e2,e4,e6,e8,e9,uo,-⟩:=Vj fr;rw[e0,e2,e4,e6,e8,e9,uo];clear e0 e2 e4 e6 e8 e9 uo fr hc hM hF hI hv HK hQ ae iL bH gm;conv=>arg 2;whnf
 cases o;case true=>
  go_wp2_with fail
  exact HKK.o _ _ M1 ⟨rfl,⟨rfl,rfl,rfl,rfl,rfl,rfl,trivial⟩,rfl⟩ HM.o (.refl _ _)
 case false=>
  obtain⟨p,dG⟩:=zX s.nextO
  obtain⟨s1,aL⟩:=zX (s.object 0)
  obtain⟨s2,dp⟩:=zX (s1.put p ZV (.num n) false)
  have hob:=Zaf HM.o il.o 0;rw[<-dG,<-aL]at hob;have kZ:=lh hob;have i1:=il.o.object (d:=d+n+2) (code:=0) Qg Qe;rw[<-aL]at i1;have i2:=CC (d:=d+n+1) (o:=p) (name:=ZV) (v:=.num n) (fx:=false) i1.1 (Zhu Qe Qe);rw[<-dp]at i2;obtain⟨eF,oN,yf⟩:=ds i1.1 i2.1 (i1.2.trans i2.2);have yA:=lh (show 0<=p/\p<s1.H.objects.length by
   rw[dG,aL];refine⟨by show(0:Int)<=s.H.objects.length;omega,?_⟩;have:(s.object 0).H.objects.length=s.H.objects.length+1:=RY
   rw[this];show(s.H.objects.length:Int)<_;omega)
  have NL:=lh i2.2;obtain⟨S,hS⟩:=zX (MSt.argsPut p 0 vs s2)
  have bL:=lh (show S.declare nx Zc 0 (.ref p)=s.argsObj nx vs by rw[hS,dp,aL,dG,HN.o];rfl);have HS:=lh hS;have cH:=lh dp;clear hob i1 i2 dG aL dp hS;go_wp2_with fail
  refine kZ.o.mono ?_;rintro e W1⟨rfl,Ma,nS,iH⟩;have Dg:=lh nS;have dW:=lh iH;clear nS iH kZ;go_wp2_with fail
  refine Z9 [(true,0),(true,1),(true,2),(true,3),(true,4),(true,5),(false,6)] [7] (λ_=>True) Qh Qh (λc a d v w h=>fE.o c a d v w h) trivial (λbw=>?_);refine iB ?_;intro K hK;refine(Zny _ _).mono ?_;rintro e W2⟨rfl,ar⟩;have y:=Dg.o.drew.below ar;have F:=(MFr.drew (.refl Ma W1)).trans (.of_below ar);refine hK _ _ trivial ?_;clear hK K;have hpt:=zG y eF.o p ZV (.num n) false;rw[<-cH.o]at hpt;simp only[LVal.agg,LVal.num,ZV]at hpt;have ku:=lh hpt;have bc:=lh (dW.o.trans F)
  clear y F ar hpt Dg dW;simp only[LVal.agg];refine Z1 ?_;go_wp2_with fail
  refine ku.o.mono ?_;rintro e W3⟨rfl,M3,dE,bh⟩;have dH:=lh dE;have bP:=lh (bc.o.trans bh);clear dE bh ku bc;obtain⟨fj,qB⟩:=zX (cL (s1.H.put p ⟨#[108,101,110,103,116,104]⟩ ⟨3,n,⟨#[]⟩⟩ false).2)
  rw[<-qB];clear qB;go_wp2_with fail
  go_loopw [144] (λi wr=>∃(k:Nat) (O:MRep) (U:MSt),k<=n/\i=(vI k)/\Hid (MAt C O wr U)/\Hid (MFr M1 O W wr)/\Hid (Inv U (d+1+(n-k)))/\Hid (Ext s2 U)/\Hid (S=MSt.argsPut p k (vs.drop k) U)) (λi _=>n-(intOf i).toNat)
  case atStart=>exact⟨0,M3,s2,Yh _,rfl,dH,bP,lh (oN.o.less Qe),lh (.refl _),lh Rs⟩
  case round=>
   obtain⟨k,O,U,hk,rfl,X,I,eu,dJ,HRk⟩:=hrel;by_cases bY:k<n
   .obtain⟨u,hu⟩:∃u,vs[k]? =some u:=⟨_,Y6 QA⟩
    have um:vs.drop k=u::vs.drop (k+1):=by
     obtain⟨h1,h2⟩:=List.getElem?_eq_some_iff.1 hu;rw[Yt h1,h2]
    have j8:u.ok U.H.objects.length:=VQ.ext (VQ.ext (HV.o u (Yd hu)) yf.o) dJ.o;obtain⟨gv,sT,fN⟩:=pE.o k u hu;subst sT;obtain⟨Y,Z,us⟩:=u;obtain⟨b0,b1,b2⟩:=fN O wr I.o;simp only at b0 b1 b2;have hpt:=λ(W':kV) (M':MRep) (h:MAt C M' W' U)=>zG h eu.o p (MSt.argN k) ⟨Y,Z,us⟩ false;simp only[LVal.agg,MSt.argN]at hpt;have ku:=lh hpt;have hR:=HRk.o;rw[um,Zeq]at hR;have HR:=lh hR
    have iO:=CC (d:=d+1+(n-(k+1))) (o:=p) (name:=MSt.argN k) (v:=⟨Y,Z,us⟩) (fx:=false) (eu.o.less Qe) j8;have tC:=lh iO.1;have Gp:=lh (dJ.o.trans iO.2);have J:=Lo.new (wE:=W) X.o I.o.size HO.o #[vI Y,vI Z,.string us] 71;have m:=Z2 wr (.cells #[vI Y,vI Z,.string us] 71);have y:=X.o.below m;have F:=MFr.of_below (M:=O) m;obtain⟨gS,bU,bc⟩:=ds J y F;clear fN hu um j8 hpt hR iO J m y F;go_wp2_with fail
    have J:=gS.o;have y:=bU.o;have F:=bc.o;clear gS bU bc b0 b1 b2;generalize wr.alloc (.cells #[vI Y,vI Z,.string us] 71)=W2 at J y F ⊢;generalize wr.heap.size=p2 at J y F ⊢;have bU:=lh y;have d9:=lh (I.o.trans F)
    have nR:=lh (show∀W' M',MFr O M' W2 W'->vC W' p2 0 (vI Y)/\vC W' p2 1 (vI Z)/\vC W' p2 2 (.string us)from
     λW' M' f=>⟨(J.fr f).cell rfl,(J.fr f).cell rfl,(J.fr f).cell rfl⟩)
    clear J y F;refine Z9 [(true,0),(true,1),(true,2),(true,3),(true,4),(true,7),(false,5),(true,6)] [8] (λW=>vC W p2 0 (vI Y)/\vC W p2 1 (vI Z)/\vC W p2 2 (.string us)) Qh Qh (λc a d v w h=>fE.o c a d v w h) (nR.o _ _ (.drew (.refl _ _))) (λbw=>?_);refine iB ?_;intro K hK;refine(Zib _ (k:Int) Qe Qe (wH.o.below bU.o.drew.old)).mono ?_;rintro e W3⟨rfl,m⟩;have F3:=(MFr.drew (.refl O W2)).trans (.of_below m)
    refine hK _ _ (nR.o _ _ F3) ?_;clear hK K;have dH:=lh (bU.o.drew.below m);have bP:=lh (d9.o.trans F3);clear m F3;have NM:=lh (show¬9223372036854775807<1+(Lib.itoa (k:Int)).length by have:=Lib.itoa_length_le (k:Int) Qe Qe;omega);refine Zam ?_ Qt (λw' lW=>?_) ?_;rotate_left
    .obtain⟨s0,s1,s2⟩:=lW;go_simp
     rw[Y3 NM.o];first|done|with_reducible rfl
    simp only[Act.put,zA,zB,zC];refine Z1 ?_;have NN:=lh (ku.o _ _ dH.o);go_wp2_with fail
    refine NN.o.mono ?_;rintro e W4⟨rfl,M4,fG,bg⟩;have jd:=lh fG;have kr:=lh (bP.o.trans bg);clear fG bg;go_wp2_with fail
    go_roundw
    case rel=>exact⟨k+1,M4,_,by omega,by go_num,jd,kr,tC,Gp,HR⟩
    case measure=>simp[intOf];omega
   .have aT:k=n:=by omega
    subst aT;have hR:=HRk.o;rw[List.drop_eq_nil_of_le QS,Zh7]at hR;have eV:=Wm X.o eu.o nx Zc 0 (.ref p);rw[<-hR,bL.o]at eV;simp only[LVal.agg,LVal.ref,Zc]at eV;have l9:=lh eV;clear hR eV;go_wp2_with fail
    refine l9.o.mono ?_;rintro e W4⟨rfl,M4,fG,bg⟩;have jd:=lh fG;have kr:=lh (I.o.trans bg);exact Zxq
end
